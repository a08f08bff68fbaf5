/- Lambda: Free, the program's way. Lambda: Free at every root; Check, the program's way. Cps: Free at every root; what the rounds of Check carry. -/
import Derived.Test.YtjhdlnllhjffkaaGreatDoorCloMh
import Derived.Test.YtjhdlnllhjffkaaGreatDoorLamRW
import Derived.Test.YtjhdlnllhjffkaaGreatDoorCpsT
import Derived.Test.YtjhdlnllhjffkaaGreatDoorCloMi
namespace Go.Proofs.YtjhdlnllhjffkaaGreatDoor
open Go.RowKit LamM

theorem FrS.start {E : TypeId} {w w1 w2 w3 : World} {n n' gb : Nat} {pv : Value} {inb : Nat → Bool} (hob : w1.ownsRow gb 4 1 (.slice (some ⟨gb, 0, none⟩) n' n') n' (boolVals n' inb)) (hb1 : Below w.heap.size w w1)
    (hpv : PV w2 w2.heap.size pv primTab) (hb2 : Below w1.heap.size w1 w2) (hgb : w.heap.size ≤ gb) (hw3 : w3.ownsRow w2.heap.size E 1 (.slice (some ⟨w2.heap.size, 0, none⟩) n n) n (List.replicate n (.slice none 0 0))) (hg3 : w2.grownBy w3 none) :
    FrS E w n n' w2.heap.size gb pv inb (fun _ => []) (List.replicate n (.slice none 0 0)) w3 := by
  have hb3 : Below w2.heap.size w2 w3 := (Below.refl _ _).grown hg3 (Nat.le_refl _) (fun k hk => by cases hk)
  have h1 := (World.ownsRow.lt hob gb rfl).2
  have h2 := hb2.size
  refine ⟨ownsRow_below (ownsRow_below hob hb2) hb3, hpv.keep (fun p hp => hb3.cell hp), hw3, by simp, fun j v hj => ?_, (hb1.trans (hb2.mono hb1.size)).trans (hb3.mono (by have := hb1.size; omega)), by omega, hgb⟩
  rw [List.getElem?_replicate] at hj
  split at hj
  · rw [← Option.some.inj hj]; exact nil_IV _ _
  · cases hj
end Go.Proofs.YtjhdlnllhjffkaaGreatDoor

namespace LamM
def freeRes (L : List Tm) (root : Int) : List Int := if root < 0 ∨ (L.length : Int) ≤ root then [] else freeOf prims L root.toNat
theorem freeRes_in {L : List Tm} {r : Nat} (h : r < L.length) : freeRes L (r : Int) = freeOf prims L r := by
  unfold freeRes; rw [if_neg (by omega), Int.toNat_natCast]
theorem freeRes_out {L : List Tm} {root : Int} (h : root < 0 ∨ (L.length : Int) ≤ root) : freeRes L root = [] := if_pos h
theorem ck_out {L : List Tm} {root : Int} (h : root < 0 ∨ (L.length : Int) ≤ root) : checkOf prims L root = 110 := if_pos h
theorem ck_in {L : List Tm} {r : Nat} (h : r < L.length) : checkOf prims L (r : Int) = if (below L r).2 = false then 110
    else if formAll (below L r).1 L (r + 1) = false then 110 else if primAll prims (below L r).1 L (r + 1) = false then 112
    else if 262144 < L.length then 3 else if freeOf prims L r = [] then 0 else 111 := by
  unfold checkOf; rw [if_neg (by omega), Int.toNat_natCast]
theorem form_skip {inb : Nat → Bool} {L : List Tm} {i : Nat} (h : inb i = false) : formAll inb L (i + 1) = formAll inb L i := by
  show (formAll inb L i && (!inb i || _)) = _
  rw [h]; simp
theorem form_node {inb : Nat → Bool} {L : List Tm} {i : Nat} {t : Tm} (h : inb i = true) (ht : L[i]? = some t) : formAll inb L (i + 1) = (formAll inb L i && formed L t) := by
  show (formAll inb L i && (!inb i || _)) = _
  rw [h, ht]; simp
theorem prim_skip {inb : Nat → Bool} {L : List Tm} {i : Nat} (h : inb i = false) : primAll prims inb L (i + 1) = primAll prims inb L i := by
  show (primAll prims inb L i && (!inb i || _)) = _
  rw [h]; simp
theorem prim_node {inb : Nat → Bool} {L : List Tm} {i : Nat} {t : Tm} (h : inb i = true) (ht : L[i]? = some t) : primAll prims inb L (i + 1) = (primAll prims inb L i && (decide (t.k ≠ 15) || primOk prims t)) := by
  show (primAll prims inb L i && (!inb i || _)) = _
  rw [h, ht]; simp
theorem prim_low {t : Tm} (h : t.n < 0) : primOk prims t = false := by unfold primOk; rw [decide_eq_false (by omega)]; rfl
theorem prim_high {t : Tm} (h : 61 ≤ t.n) : primOk prims t = false := by
  unfold primOk
  rw [List.getElem?_eq_none (by rw [prims_len]; omega), Bool.and_false]
theorem prim_at {t : Tm} {y : Nat} {p : Pr} (h : t.n = (y : Int)) (hp : primTab[y]? = some p) : primOk prims t = (p.args == (t.args.length : Int)) := by
  unfold primOk
  rw [decide_eq_true (by omega), h, Int.toNat_natCast, show prims[y]? = some ⟨p.args, p.raises⟩ by unfold prims; rw [List.getElem?_map, hp]; rfl, Bool.true_and]
end LamM
namespace Go.Proofs.YtjhdlnllhjffkaaGreatDoor
open Go.RowKit LamM

section
variable {w0 wr w' : World} {n' gb : Nat} {pv : Value} {inb : Nat → Bool} {bx : Array Value}
end
/-- What a check hands back. -/
def CkPost (R : Int) (w : World) (e : Ending) (w' : World) : Prop := e = .returned (.int .i64 R) ∧ Below w.heap.size w w'

end Go.Proofs.YtjhdlnllhjffkaaGreatDoor

namespace Go.Proofs.YtjhdlnllhjffkaaGreatDoor
open Go.RowKit LamM CpsM

set_option maxRecDepth 100000 in
set_option maxHeartbeats 1000000 in
theorem cfree_any (L : List Fl) (v : Value) (root : Int) (w : World) (hN : NF w w.heap.size v L) : Calls Tryz.prog 75 #[v, .int .i64 root] w (GivesI w (freeResC L root)) := by
  obtain ⟨A, c, rfl, hc1, hc2⟩ := hN.len
  by_cases h0 : root < 0
  · rw [freeResC_out (.inl h0)]
    have q0 := decide_eq_true h0
    clear hN
    go_enter Tryz.func75, Tryz.ntmps75
    go_wp2_with fail
    go_ret
    exact ⟨_, rfl, nil_IV _ _, Below.refl _ _⟩
  · by_cases h1 : (L.length : Int) ≤ root
    · rw [freeResC_out (.inr h1)]
      have q0 := decide_eq_false h0
      have q1 := decide_eq_true h1
      clear hN
      go_enter Tryz.func75, Tryz.ntmps75
      go_wp2_with fail
      go_ret
      exact ⟨_, rfl, nil_IV _ _, Below.refl _ _⟩
    · obtain ⟨r, rfl⟩ : ∃ r : Nat, root = (r : Int) := ⟨root.toNat, by omega⟩
      rw [freeResC_in (by omega)]
      exact cfree_in L A c (r + 1) r w (by omega) rfl hN

/-- The state of Check's rounds. -/
structure CkC (w0 : World) (n' gb : Nat) (pv : Value) (inb : Nat → Bool) (bx : Array Value) (wr : World) : Prop where
  own : wr.ownsRow gb 4 1 (.slice (some ⟨gb, 0, none⟩) n' n') n' (boolVals n' inb)
  prv : PV wr wr.heap.size pv primTab
  bel : Below w0.heap.size w0 wr
  box : Blk wr w0.heap.size 65 bx
section
variable {w0 wr w' : World} {n' gb : Nat} {pv : Value} {inb : Nat → Bool} {bx : Array Value}
theorem CkC.below (H : CkC w0 n' gb pv inb bx wr) (hb : Below wr.heap.size wr w') : CkC w0 n' gb pv inb bx w' :=
  ⟨ownsRow_below H.own hb, H.prv.below hb, H.bel.trans (hb.mono H.bel.size), H.box.below hb H.box.lt⟩
theorem CkC.drewN (H : CkC w0 n' gb pv inb bx wr) (k : Nat) : CkC w0 n' gb pv inb bx (wr.drewN k) := H.below ⟨rfl, rfl, rfl, Nat.le_refl _, fun _ _ => rfl⟩
theorem CkC.drew (H : CkC w0 n' gb pv inb bx wr) : CkC w0 n' gb pv inb bx wr.drew := H.below (Below.drew (Below.refl _ _))
theorem CkC.made (H : CkC w0 n' gb pv inb bx wr) {i : Nat} (hi : i < n') : wr.cell? ⟨gb, i, none⟩ = some (.bool (inb i)) := by
  rw [World.ownsRow.cellAt H.own i (by omega), boolVals_get hi]
end
end Go.Proofs.YtjhdlnllhjffkaaGreatDoor
