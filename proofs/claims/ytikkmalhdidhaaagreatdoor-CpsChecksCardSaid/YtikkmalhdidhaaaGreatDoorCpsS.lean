/- Cps: what both ways to the free variables carry: the row of sets that grows. -/
import Derived.Test.YtikkmalhdidhaaaGreatDoorCpsBi
import Derived.Test.YtikkmalhdidhaaaGreatDoorCpsMa
import Derived.Test.YtikkmalhdidhaaaGreatDoorLamS
namespace Go.Proofs.YtikkmalhdidhaaaGreatDoor
open Go.RowKit LamM CpsM

/-- The state of the rounds: which nodes are made, the table, the row of sets (elements of type E) in block g. -/
structure FrC (E : TypeId) (w0 : World) (n n' g gb : Nat) (inb : Nat → Bool) (F : Nat → List Int) (vs : List Value) (wr : World) : Prop where
  inb : wr.ownsRow gb 4 1 (.slice (some ⟨gb, 0, none⟩) n' n') n' (boolVals n' inb)
  row : wr.ownsRow g E 1 (.slice (some ⟨g, 0, none⟩) n n) n vs
  len : vs.length = n
  val : ∀ j v, vs[j]? = some v → IV wr wr.heap.size v (F j)
  bel : Below w0.heap.size w0 wr
  hb : gb < g
  hw : w0.heap.size ≤ gb
section
variable {E : TypeId} {w0 wr w' : World} {n n' g gb : Nat} {inb : Nat → Bool} {F : Nat → List Int} {vs : List Value}
theorem FrC.lt (H : FrC E w0 n n' g gb inb F vs wr) : g < wr.heap.size := (World.ownsRow.lt H.row g rfl).2
theorem FrC.below (H : FrC E w0 n n' g gb inb F vs wr) (hb : Below wr.heap.size wr w') : FrC E w0 n n' g gb inb F vs w' :=
  ⟨ownsRow_below H.inb hb, ownsRow_below H.row hb, H.len, fun j v hj => (H.val j v hj).below hb, H.bel.trans (hb.mono H.bel.size), H.hb, H.hw⟩
theorem FrC.drew (H : FrC E w0 n n' g gb inb F vs wr) : FrC E w0 n n' g gb inb F vs wr.drew := H.below (Below.drew (Below.refl _ _))
/-- The cell of a node's set. -/
theorem FrC.at_ (H : FrC E w0 n n' g gb inb F vs wr) {i : Nat} (hi : i < n) : ∃ v, vs[i]? = some v ∧ wr.cell? ⟨g, i, none⟩ = some v ∧ wr.frozen? ⟨g, i, none⟩ = false ∧ IV wr wr.heap.size v (F i) := by
  obtain ⟨v, hv⟩ : ∃ v, vs[i]? = some v := ⟨_, List.getElem?_eq_getElem (by have := H.len; omega)⟩
  exact ⟨v, hv, (World.ownsRow.cellAt H.row i (by omega)).trans hv, World.ownsRow.frozenAt H.row i, H.val i v hv⟩
theorem FrC.made (H : FrC E w0 n n' g gb inb F vs wr) {i : Nat} (hi : i < n') : wr.cell? ⟨gb, i, none⟩ = some (.bool (inb i)) := by
  rw [World.ownsRow.cellAt H.inb i (by omega), boolVals_get hi]
theorem FrC.store (H : FrC E w0 n n' g gb inb F vs wr) {i : Nat} (hi : i < n) {u : Value} {l : List Int} (hu : IV wr wr.heap.size u l) : FrC E w0 n n' g gb inb (updS F i l) (vs.set i u) (wr.setCell ⟨g, i, none⟩ u) := by
  obtain ⟨v, hv, hc, _, hiv⟩ := H.at_ hi
  obtain ⟨A, c, rfl, _⟩ := hiv.len
  obtain ⟨ho, hg⟩ := World.ownsRow.stored H.row i u
  have hs : (wr.setCell ⟨g, i, none⟩ u).heap.size = wr.heap.size := by simp [World.setCell]
  refine ⟨H.inb.kept hg (.inr ?_), ho, by rw [List.length_set]; exact H.len, fun j x hj => ?_, H.bel.setCell (by show w0.heap.size ≤ g; have := H.hb; have := H.hw; omega) u, H.hb, H.hw⟩
  · intro e; have := Option.some.inj (show some gb = some g from e); have := H.hb; omega
  · rw [hs]
    rw [List.getElem?_set] at hj
    by_cases e : i = j
    · subst e
      rw [if_pos rfl, if_pos (by have := H.len; omega)] at hj
      rw [← Option.some.inj hj, updS_at]
      exact hu.store hc u
    · rw [if_neg e] at hj
      rw [updS_ne (fun h => e h.symm)]
      exact (H.val j x hj).store hc u
theorem FrC.cell_ (H : FrC E w0 n n' g gb inb F vs wr) {i : Nat} {v : Value} (hv : vs[i]? = some v) (hi : i < n) : wr.cell? ⟨g, i, none⟩ = some v := (World.ownsRow.cellAt H.row i (by omega)).trans hv
theorem keepC10 {S : Nat} {tt : TypeId} {v0 v1 v2 v3 v4 v5 v6 v7 v8 vi vx : Value} {i x : Nat} (H : FrC E w0 n n' g gb inb F vs wr) (hB : Blk wr S tt #[v0, v1, v2, v3, v4, v5, v6, v7, v8]) (hi : vs[i]? = some vi) (hx : vs[x]? = some vx) (h1 : i < n) (h2 : x < n) :
    wr.cell? ⟨g, i, none⟩ = some vi ∧ wr.cell? ⟨g, x, none⟩ = some vx ∧ wr.cell? ⟨S, 0, none⟩ = some v0 ∧ wr.cell? ⟨S, 1, none⟩ = some v1 ∧ wr.cell? ⟨S, 2, none⟩ = some v2 ∧ wr.cell? ⟨S, 3, none⟩ = some v3 ∧ wr.cell? ⟨S, 4, none⟩ = some v4 ∧ wr.cell? ⟨S, 5, none⟩ = some v5 ∧ wr.cell? ⟨S, 6, none⟩ = some v6 ∧ wr.cell? ⟨S, 7, none⟩ = some v7 ∧ wr.cell? ⟨S, 8, none⟩ = some v8 :=
  ⟨H.cell_ hi h1, H.cell_ hx h2, hB.cell 0, hB.cell 1, hB.cell 2, hB.cell 3, hB.cell 4, hB.cell 5, hB.cell 6, hB.cell 7, hB.cell 8⟩
theorem FrC.cast {F' : Nat → List Int} (H : FrC E w0 n n' g gb inb F vs wr) (h : F = F') : FrC E w0 n n' g gb inb F' vs wr := h ▸ H
end
end Go.Proofs.YtikkmalhdidhaaaGreatDoor
