/- Cps: Free at every root; what the rounds of Check carry. -/
import Derived.Test.YtikkmalhdidhaaaGreatDoorCpsU
import Derived.Test.YtikkmalhdidhaaaGreatDoorLamV
import Derived.Test.YtikkmalhdidhaaaGreatDoorCpsVp
namespace Go.Proofs.YtikkmalhdidhaaaGreatDoor
open Go.RowKit LamM CpsM

set_option maxRecDepth 100000 in
set_option maxHeartbeats 1000000 in
theorem cfree_any (L : List Fl) (v : Value) (root : Int) (w : World) (hN : NF w w.heap.size v L) : Calls Tryz.prog 4 #[v, .int .i64 root] w (GivesI w (freeResC L root)) := by
  obtain ⟨A, c, rfl, hc1, hc2⟩ := hN.len
  by_cases h0 : root < 0
  · rw [freeResC_out (.inl h0)]
    have q0 := decide_eq_true h0
    clear hN
    go_enter Tryz.func4, Tryz.ntmps4
    go_wp2_with fail
    go_ret
    exact ⟨_, rfl, nil_IV _ _, Below.refl _ _⟩
  · by_cases h1 : (L.length : Int) ≤ root
    · rw [freeResC_out (.inr h1)]
      have q0 := decide_eq_false h0
      have q1 := decide_eq_true h1
      clear hN
      go_enter Tryz.func4, Tryz.ntmps4
      go_wp2_with fail
      go_ret
      exact ⟨_, rfl, nil_IV _ _, Below.refl _ _⟩
    · obtain ⟨r, rfl⟩ : ∃ r : Nat, root = (r : Int) := ⟨root.toNat, by omega⟩
      rw [freeResC_in (by omega)]
      exact cfree_in L A c (r + 1) r w (by omega) rfl hN

set_option maxRecDepth 100000 in
set_option maxHeartbeats 1000000 in
theorem sfree_any (L : List Fl) (v : Value) (root : Int) (w : World) (hN : NF w w.heap.size v L) : Calls Tryz.prog 5 #[v, .int .i64 root] w (GivesI w (freeResC L root)) := by
  obtain ⟨A, c, rfl, hc1, hc2⟩ := hN.len
  by_cases h0 : root < 0
  · rw [freeResC_out (.inl h0)]
    have q0 := decide_eq_true h0
    clear hN
    go_enter Tryz.func5, Tryz.ntmps5
    go_wp2_with fail
    go_ret
    exact ⟨_, rfl, nil_IV _ _, Below.refl _ _⟩
  · by_cases h1 : (L.length : Int) ≤ root
    · rw [freeResC_out (.inr h1)]
      have q0 := decide_eq_false h0
      have q1 := decide_eq_true h1
      clear hN
      go_enter Tryz.func5, Tryz.ntmps5
      go_wp2_with fail
      go_ret
      exact ⟨_, rfl, nil_IV _ _, Below.refl _ _⟩
    · obtain ⟨r, rfl⟩ : ∃ r : Nat, root = (r : Int) := ⟨root.toNat, by omega⟩
      rw [freeResC_in (by omega)]
      exact sfree_in L A c (r + 1) r w (by omega) rfl hN

/-- The state of Check's rounds. -/
structure CkC (w0 : World) (n' gb : Nat) (pv : Value) (inb : Nat → Bool) (bx : Array Value) (wr : World) : Prop where
  own : wr.ownsRow gb 4 1 (.slice (some ⟨gb, 0, none⟩) n' n') n' (boolVals n' inb)
  prv : PV wr wr.heap.size pv primTab
  bel : Below w0.heap.size w0 wr
  box : Blk wr w0.heap.size 24 bx
section
variable {w0 wr w' : World} {n' gb : Nat} {pv : Value} {inb : Nat → Bool} {bx : Array Value}
theorem CkC.below (H : CkC w0 n' gb pv inb bx wr) (hb : Below wr.heap.size wr w') : CkC w0 n' gb pv inb bx w' :=
  ⟨ownsRow_below H.own hb, H.prv.below hb, H.bel.trans (hb.mono H.bel.size), H.box.below hb H.box.lt⟩
theorem CkC.drewN (H : CkC w0 n' gb pv inb bx wr) (k : Nat) : CkC w0 n' gb pv inb bx (wr.drewN k) := H.below ⟨rfl, rfl, rfl, Nat.le_refl _, fun _ _ => rfl⟩
theorem CkC.drew (H : CkC w0 n' gb pv inb bx wr) : CkC w0 n' gb pv inb bx wr.drew := H.below (Below.drew (Below.refl _ _))
theorem CkC.made (H : CkC w0 n' gb pv inb bx wr) {i : Nat} (hi : i < n') : wr.cell? ⟨gb, i, none⟩ = some (.bool (inb i)) := by
  rw [World.ownsRow.cellAt H.own i (by omega), boolVals_get hi]
end
end Go.Proofs.YtikkmalhdidhaaaGreatDoor
