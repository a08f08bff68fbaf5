/- Lambda: Free at every root; Check, the program's way. -/
import Derived.Test.YtikkmalhdidhaaaGreatDoorLamT
namespace LamM
def freeRes (L : List Tm) (root : Int) : List Int := if root < 0 ∨ (L.length : Int) ≤ root then [] else freeOf prims L root.toNat
theorem freeRes_in {L : List Tm} {r : Nat} (h : r < L.length) : freeRes L (r : Int) = freeOf prims L r := by
  unfold freeRes; rw [if_neg (by omega), Int.toNat_natCast]
theorem freeRes_out {L : List Tm} {root : Int} (h : root < 0 ∨ (L.length : Int) ≤ root) : freeRes L root = [] := if_pos h
theorem ck_out {L : List Tm} {root : Int} (h : root < 0 ∨ (L.length : Int) ≤ root) : checkOf prims L root = 110 := if_pos h
theorem ck_in {L : List Tm} {r : Nat} (h : r < L.length) : checkOf prims L (r : Int) = if (below L r).2 = false then 110
    else if formAll (below L r).1 L (r + 1) = false then 110 else if primAll prims (below L r).1 L (r + 1) = false then 112
    else if 262144 < L.length then 3 else if freeOf prims L r = [] then 0 else 111 := by
  unfold checkOf; rw [if_neg (by omega), Int.toNat_natCast]
theorem form_skip {inb : Nat → Bool} {L : List Tm} {i : Nat} (h : inb i = false) : formAll inb L (i + 1) = formAll inb L i := by
  show (formAll inb L i && (!inb i || _)) = _
  rw [h]; simp
theorem form_node {inb : Nat → Bool} {L : List Tm} {i : Nat} {t : Tm} (h : inb i = true) (ht : L[i]? = some t) : formAll inb L (i + 1) = (formAll inb L i && formed L t) := by
  show (formAll inb L i && (!inb i || _)) = _
  rw [h, ht]; simp
theorem prim_skip {inb : Nat → Bool} {L : List Tm} {i : Nat} (h : inb i = false) : primAll prims inb L (i + 1) = primAll prims inb L i := by
  show (primAll prims inb L i && (!inb i || _)) = _
  rw [h]; simp
theorem prim_node {inb : Nat → Bool} {L : List Tm} {i : Nat} {t : Tm} (h : inb i = true) (ht : L[i]? = some t) : primAll prims inb L (i + 1) = (primAll prims inb L i && (decide (t.k ≠ 15) || primOk prims t)) := by
  show (primAll prims inb L i && (!inb i || _)) = _
  rw [h, ht]; simp
theorem prim_low {t : Tm} (h : t.n < 0) : primOk prims t = false := by unfold primOk; rw [decide_eq_false (by omega)]; rfl
theorem prim_high {t : Tm} (h : 61 ≤ t.n) : primOk prims t = false := by
  unfold primOk
  rw [List.getElem?_eq_none (by rw [prims_len]; omega), Bool.and_false]
theorem prim_at {t : Tm} {y : Nat} {p : Pr} (h : t.n = (y : Int)) (hp : primTab[y]? = some p) : primOk prims t = (p.args == (t.args.length : Int)) := by
  unfold primOk
  rw [decide_eq_true (by omega), h, Int.toNat_natCast, show prims[y]? = some ⟨p.args, p.raises⟩ by unfold prims; rw [List.getElem?_map, hp]; rfl, Bool.true_and]
end LamM
namespace Go.Proofs.YtikkmalhdidhaaaGreatDoor
open Go.RowKit LamM

set_option maxRecDepth 100000 in
set_option maxHeartbeats 1000000 in
theorem lfree_any (L : List Tm) (v : Value) (root : Int) (w : World) (hN : NV w w.heap.size v L) : Calls Tryz.prog 84 #[v, .int .i64 root] w (GivesI w (freeRes L root)) := by
  obtain ⟨A, c, rfl, hc1, hc2⟩ := hN.len
  by_cases h0 : root < 0
  · rw [freeRes_out (.inl h0)]
    have q0 := decide_eq_true h0
    clear hN
    go_enter Tryz.func84, Tryz.ntmps84
    go_wp2_with fail
    go_ret
    exact ⟨_, rfl, nil_IV _ _, Below.refl _ _⟩
  · by_cases h1 : (L.length : Int) ≤ root
    · rw [freeRes_out (.inr h1)]
      have q0 := decide_eq_false h0
      have q1 := decide_eq_true h1
      clear hN
      go_enter Tryz.func84, Tryz.ntmps84
      go_wp2_with fail
      go_ret
      exact ⟨_, rfl, nil_IV _ _, Below.refl _ _⟩
    · obtain ⟨r, rfl⟩ : ∃ r : Nat, root = (r : Int) := ⟨root.toNat, by omega⟩
      rw [freeRes_in (by omega)]
      exact lfree_in L A c (r + 1) r w (by omega) rfl hN
/-- The state of Check's rounds. -/
structure CkS (w0 : World) (n' gb : Nat) (pv : Value) (inb : Nat → Bool) (bx : Array Value) (wr : World) : Prop where
  own : wr.ownsRow gb 4 1 (.slice (some ⟨gb, 0, none⟩) n' n') n' (boolVals n' inb)
  prv : PV wr wr.heap.size pv primTab
  bel : Below w0.heap.size w0 wr
  box : Blk wr w0.heap.size 72 bx
section
variable {w0 wr w' : World} {n' gb : Nat} {pv : Value} {inb : Nat → Bool} {bx : Array Value}
theorem CkS.below (H : CkS w0 n' gb pv inb bx wr) (hb : Below wr.heap.size wr w') : CkS w0 n' gb pv inb bx w' :=
  ⟨ownsRow_below H.own hb, H.prv.below hb, H.bel.trans (hb.mono H.bel.size), H.box.below hb H.box.lt⟩
theorem CkS.drewN (H : CkS w0 n' gb pv inb bx wr) (k : Nat) : CkS w0 n' gb pv inb bx (wr.drewN k) := H.below ⟨rfl, rfl, rfl, Nat.le_refl _, fun _ _ => rfl⟩
theorem CkS.drew (H : CkS w0 n' gb pv inb bx wr) : CkS w0 n' gb pv inb bx wr.drew := H.below (Below.drew (Below.refl _ _))
theorem CkS.made (H : CkS w0 n' gb pv inb bx wr) {i : Nat} (hi : i < n') : wr.cell? ⟨gb, i, none⟩ = some (.bool (inb i)) := by
  rw [World.ownsRow.cellAt H.own i (by omega), boolVals_get hi]
end
/-- What a check hands back. -/
def CkPost (R : Int) (w : World) (e : Ending) (w' : World) : Prop := e = .returned (.int .i64 R) ∧ Below w.heap.size w w'

end Go.Proofs.YtikkmalhdidhaaaGreatDoor
