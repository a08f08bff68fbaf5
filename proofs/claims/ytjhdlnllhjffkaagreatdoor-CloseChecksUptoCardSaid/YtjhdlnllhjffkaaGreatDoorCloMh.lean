/- Lambda: has a node its form: the program's formed, the reference's. Lambda: what both ways to the free variables carry: the row of sets that grows. Cps: what both ways to the free variables carry: the row of sets that grows. -/
import Derived.Test.YtjhdlnllhjffkaaGreatDoorCloMc
import Derived.Test.YtjhdlnllhjffkaaGreatDoorLamR
import Derived.Test.YtjhdlnllhjffkaaGreatDoorCloMf
import Derived.Test.YtjhdlnllhjffkaaGreatDoorCloMa
namespace Go.Proofs.YtjhdlnllhjffkaaGreatDoor
open Go.RowKit LamM

theorem NV.more {w : World} {B B' : Nat} {v : Value} {L : List Tm} (h : NV w B v L) (hB : B ≤ B') : NV w B' v L := by
  obtain ⟨A, c, e, h1, h2, h3⟩ := h
  refine ⟨A, c, e, h1, h2, fun i t ht => ?_⟩
  obtain ⟨ad, vv, kv, av, hA, hb, ht2, hc⟩ := h3 i t ht
  exact ⟨ad, vv, kv, av, hA, Nat.lt_of_lt_of_le hb hB, ⟨ht2.v.more hB, (by obtain ⟨A, c, e, h1, h2, h3⟩ := ht2.k; exact ⟨A, c, e, h1, h2, h3.more hB⟩), ht2.a.more hB, ht2.rk, ht2.rn, ht2.ri, ht2.ra, ht2.rv, ht2.lv, ht2.lk, ht2.la⟩, hc⟩
theorem TV.more {w : World} {B B' : Nat} {t : Tm} {vv kv av : Value} (h : TV w B t vv kv av) (hB : B ≤ B') : TV w B' t vv kv av :=
  ⟨h.v.more hB, (by obtain ⟨A, c, e, h1, h2, h3⟩ := h.k; exact ⟨A, c, e, h1, h2, h3.more hB⟩), h.a.more hB, h.rk, h.rn, h.ri, h.ra, h.rv, h.lv, h.lk, h.la⟩
theorem NV.below {w w' : World} {v : Value} {L : List Tm} (h : NV w w.heap.size v L) (hb : Below w.heap.size w w') : NV w' w'.heap.size v L :=
  (h.keep (fun _ hp => hb.cell hp)).more hb.size
theorem TV.below {w w' : World} {t : Tm} {vv kv av : Value} (h : TV w w.heap.size t vv kv av) (hb : Below w.heap.size w w') : TV w' w'.heap.size t vv kv av :=
  (h.keep (fun _ hp => hb.cell hp)).more hb.size
theorem KV.below {w w' : World} {v : Value} {l : List Ky} (h : KV w w.heap.size v l) (hb : Below w.heap.size w w') : KV w' w'.heap.size v l := by
  obtain ⟨A, c, e, h1, h2, h3⟩ := h
  exact ⟨A, c, e, h1, h2, (h3.keep (fun _ hp => hb.cell hp)).more hb.size⟩

theorem formed_1 {L : List Tm} {t : Tm} (h : t.k = 1) : formed L t = (decide (t.args.length = 0 ∧ 0 ≤ t.n)) := by unfold formed; rw [if_pos (by omega)]
theorem formed_2 {L : List Tm} {t : Tm} (h : t.k = 2) : formed L t = (decide (t.args.length = 0 ∧ -4611686018427387904 ≤ t.i ∧ t.i ≤ 4611686018427387903)) := by unfold formed; rw [if_neg (by omega), if_pos (by omega)]
theorem formed_3 {L : List Tm} {t : Tm} (h : t.k = 3) : formed L t = (decide (t.args.length = 0)) := by unfold formed; rw [if_neg (by omega), if_neg (by omega), if_pos (by omega)]
theorem formed_4 {L : List Tm} {t : Tm} (h : t.k = 4) : formed L t = (decide (t.args.length = 0 ∧ t.t.length ≤ 65536)) := by unfold formed; rw [if_neg (by omega), if_neg (by omega), if_neg (by omega), if_pos (by omega)]
theorem formed_5 {L : List Tm} {t : Tm} (h : t.k = 5) : formed L t = (decide (1 ≤ t.args.length ∧ t.args.length ≤ 1024)) := by unfold formed; rw [if_neg (by omega), if_neg (by omega), if_neg (by omega), if_neg (by omega), if_pos (by omega)]
theorem formed_678 {L : List Tm} {t : Tm} (h : t.k = 6 ∨ t.k = 7 ∨ t.k = 8) : formed L t = (decide (t.args.length = 1 ∧ 0 ≤ t.n)) := by unfold formed; rw [if_neg (by omega), if_neg (by omega), if_neg (by omega), if_neg (by omega), if_neg (by omega), if_pos (by omega)]
theorem formed_9 {L : List Tm} {t : Tm} (h : t.k = 9) : formed L t = (decide (t.args.length = 2)) := by unfold formed; rw [if_neg (by omega), if_neg (by omega), if_neg (by omega), if_neg (by omega), if_neg (by omega), if_neg (by omega), if_pos (by omega)]
theorem formed_1014 {L : List Tm} {t : Tm} (h : t.k = 10 ∨ t.k = 14) : formed L t = (decide (t.args.length = 2 ∧ 0 ≤ t.n)) := by unfold formed; rw [if_neg (by omega), if_neg (by omega), if_neg (by omega), if_neg (by omega), if_neg (by omega), if_neg (by omega), if_neg (by omega), if_pos (by omega)]
theorem formed_11 {L : List Tm} {t : Tm} (h : t.k = 11) : formed L t = (fixOk L t) := by unfold formed; rw [if_neg (by omega), if_neg (by omega), if_neg (by omega), if_neg (by omega), if_neg (by omega), if_neg (by omega), if_neg (by omega), if_neg (by omega), if_pos (by omega)]
theorem formed_12 {L : List Tm} {t : Tm} (h : t.k = 12) : formed L t = (decide (t.args.length = t.keys.length + 1 ∨ t.args.length = t.keys.length + 2) && t.keys.all keyOk) := by unfold formed; rw [if_neg (by omega), if_neg (by omega), if_neg (by omega), if_neg (by omega), if_neg (by omega), if_neg (by omega), if_neg (by omega), if_neg (by omega), if_neg (by omega), if_pos (by omega)]
theorem formed_13 {L : List Tm} {t : Tm} (h : t.k = 13) : formed L t = (decide (t.args.length = 1)) := by unfold formed; rw [if_neg (by omega), if_neg (by omega), if_neg (by omega), if_neg (by omega), if_neg (by omega), if_neg (by omega), if_neg (by omega), if_neg (by omega), if_neg (by omega), if_neg (by omega), if_pos (by omega)]
theorem formed_no {L : List Tm} {t : Tm} (h : t.k < 1 ∨ 14 < t.k) : formed L t = decide (t.k = 15) := by unfold formed; rw [if_neg (by omega), if_neg (by omega), if_neg (by omega), if_neg (by omega), if_neg (by omega), if_neg (by omega), if_neg (by omega), if_neg (by omega), if_neg (by omega), if_neg (by omega), if_neg (by omega)]
end Go.Proofs.YtjhdlnllhjffkaaGreatDoor

namespace LamM
def updL (F : Nat → List Int) (i : Nat) (l : List Int) : Nat → List Int := fun j => if j = i then l else F j
theorem updL_at {F : Nat → List Int} {i : Nat} {l : List Int} : updL F i l i = l := if_pos rfl
theorem updL_ne {F : Nat → List Int} {i j : Nat} {l : List Int} (h : j ≠ i) : updL F i l j = F j := if_neg h
theorem updL_two {F : Nat → List Int} {i : Nat} {l m : List Int} : updL (updL F i l) i m = updL F i m := by
  funext j
  by_cases h : j = i
  · subst h; rw [updL_at, updL_at]
  · rw [updL_ne h, updL_ne h, updL_ne h]
theorem updL_id {F : Nat → List Int} {i : Nat} (h : F i = []) : updL F i [] = F := by
  funext j
  by_cases e : j = i
  · subst e; rw [updL_at, h]
  · rw [updL_ne e]
theorem all_node {prims : List Pm} {inb : Nat → Bool} {L : List Tm} {i : Nat} {t : Tm} (h : L[i]? = some t) (hb : inb i = true) :
    freeAll prims inb L (i + 1) = updL (freeAll prims inb L i) i (freeArgs (freeAll prims inb L i) t i 0 t.args (freeHead prims t)) := by
  funext j
  by_cases e : j = i
  · subst e; rw [updL_at, all_last h]; unfold freeNode; rw [if_pos hb]
  · rw [updL_ne e, all_other e]
theorem all_skip {prims : List Pm} {inb : Nat → Bool} {L : List Tm} {i : Nat} {t : Tm} (h : L[i]? = some t) (hb : inb i = false) :
    freeAll prims inb L (i + 1) = freeAll prims inb L i := by
  funext j
  by_cases e : j = i
  · subst e; rw [all_last h, all_beyond (Nat.le_refl _)]; unfold freeNode; rw [hb]; rfl
  · rw [all_other e]
theorem head_no {t : Tm} (hp : ¬ (t.k = 15 ∧ 0 ≤ t.n ∧ t.n < 61)) : freeHead prims t = if t.k = 1 then [t.n] else [] := by
  by_cases h1 : t.k = 1
  · rw [head_var h1, if_pos h1]
  · rw [if_neg h1]
    by_cases h15 : t.k = 15
    · exact head_prim_no h15 (by rw [prims_len]; omega)
    · exact head_other h1 h15
theorem ss_take_lt : ∀ {l : List Int} {j : Nat} {a : Int}, SS l → l[j]? = some a → ∀ x ∈ l.take j, x < a
  | [], _, _, _, h => by simp at h
  | y :: l, 0, _, _, _ => by simp
  | y :: l, j + 1, a, hs, h => fun x hx => by
    obtain ⟨h1, h2⟩ := ss_cons.1 hs
    have h' : l[j]? = some a := by simpa using h
    rw [List.take_succ_cons, List.mem_cons] at hx
    rcases hx with rfl | hx
    · exact h1 a (List.mem_of_getElem? h')
    · exact ss_take_lt h2 h' x hx
theorem ss_take {l : List Int} (h : SS l) (j : Nat) : SS (l.take j) := List.Pairwise.sublist (List.take_sublist j l) h
end LamM
namespace Go.Proofs.YtjhdlnllhjffkaaGreatDoor
open Go.RowKit LamM

theorem IV.shape {w : World} {B : Nat} {v : Value} {l : List Int} (h : IV w B v l) : ∃ A n c, v = .slice A n c := by
  obtain ⟨A, c, e, _⟩ := h; exact ⟨A, _, c, e⟩
/-- A store over a cell that holds a slice turns no ints. -/
theorem IV.store {w : World} {B : Nat} {v : Value} {l : List Int} (h : IV w B v l) {p : Addr} {A : Option Addr} {n c : Nat} (hp : w.cell? p = some (.slice A n c)) (u : Value) : IV (w.setCell p u) B v l := by
  obtain ⟨A', c', e, h1, h2, hl, hr⟩ := h
  refine ⟨A', c', e, h1, h2, hl, fun hn => ?_⟩
  obtain ⟨ad, rfl, hb, hc⟩ := hr hn
  refine ⟨ad, rfl, hb, fun j x hx => ?_⟩
  have h3 := hc j x hx
  have hi : ∃ y, x = .int .i64 y := by
    unfold intVals at hx
    rw [List.getElem?_map] at hx
    cases hy : l[j]? with
    | none => rw [hy] at hx; cases hx
    | some y => rw [hy] at hx; exact ⟨y, (Option.some.inj hx).symm⟩
  obtain ⟨y, rfl⟩ := hi
  rw [← h3]
  exact World.cell?_setCell_other w p _ u (fun e => by subst e; rw [hp] at h3; cases h3)

theorem spell8 {w : World} {ad : Addr} {i j : Nat} {v : Value} (h : w.cell? (ad.add (i + (j + 1))) = some v) : w.cell? ⟨(ad.add i).block, (ad.add i).off + (j + 1), none⟩ = some v := by
  rw [← add_of_add] at h; exact h
/-- A node's cells, as a load of the whole node asks for them. -/
theorem NV.at8 {w : World} {B n c : Nat} {A : Option Addr} {L : List Tm} (h : NV w B (.slice A n c) L) {i : Nat} {t : Tm} (hi : L[i]? = some t) :
    ∃ ad vv kv av, A = some ad ∧ ad.block < B ∧ TV w B t vv kv av ∧ w.cell? (ad.add (i * 8)) = some (.int .i64 t.k) ∧ w.cell? ⟨(ad.add (i * 8)).block, (ad.add (i * 8)).off + 1, none⟩ = some (.int .i64 t.n) ∧ w.cell? ⟨(ad.add (i * 8)).block, (ad.add (i * 8)).off + 2, none⟩ = some (.int .i64 t.i) ∧ w.cell? ⟨(ad.add (i * 8)).block, (ad.add (i * 8)).off + 3, none⟩ = some (.int .u64 t.b) ∧ w.cell? ⟨(ad.add (i * 8)).block, (ad.add (i * 8)).off + 4, none⟩ = some (.string ⟨t.t.toArray⟩) ∧ w.cell? ⟨(ad.add (i * 8)).block, (ad.add (i * 8)).off + 5, none⟩ = some (vv) ∧ w.cell? ⟨(ad.add (i * 8)).block, (ad.add (i * 8)).off + 6, none⟩ = some (kv) ∧ w.cell? ⟨(ad.add (i * 8)).block, (ad.add (i * 8)).off + 7, none⟩ = some (av) := by
  obtain ⟨ad, vv, kv, av, hA, hb, ht, a0, a1, a2, a3, a4, a5, a6, a7⟩ := h.at_ hi
  exact ⟨ad, vv, kv, av, hA, hb, ht, a0, spell8 a1, spell8 a2, spell8 a3, spell8 a4, spell8 a5, spell8 a6, spell8 a7⟩
/-- The state of the rounds: which nodes are made, the table, the row of sets (elements of type E) in block g. -/
structure FrS (E : TypeId) (w0 : World) (n n' g gb : Nat) (pv : Value) (inb : Nat → Bool) (F : Nat → List Int) (vs : List Value) (wr : World) : Prop where
  inb : wr.ownsRow gb 4 1 (.slice (some ⟨gb, 0, none⟩) n' n') n' (boolVals n' inb)
  prv : PV wr g pv primTab
  row : wr.ownsRow g E 1 (.slice (some ⟨g, 0, none⟩) n n) n vs
  len : vs.length = n
  val : ∀ j v, vs[j]? = some v → IV wr wr.heap.size v (F j)
  bel : Below w0.heap.size w0 wr
  hb : gb < g
  hw : w0.heap.size ≤ gb
section
variable {E : TypeId} {w0 wr w' : World} {n n' g gb : Nat} {pv : Value} {inb : Nat → Bool} {F : Nat → List Int} {vs : List Value}
theorem FrS.lt (H : FrS E w0 n n' g gb pv inb F vs wr) : g < wr.heap.size := (World.ownsRow.lt H.row g rfl).2
theorem FrS.below (H : FrS E w0 n n' g gb pv inb F vs wr) (hb : Below wr.heap.size wr w') : FrS E w0 n n' g gb pv inb F vs w' :=
  ⟨ownsRow_below H.inb hb, H.prv.keep (fun _ hp => hb.cell (Nat.lt_trans hp H.lt)), ownsRow_below H.row hb, H.len, fun j v hj => (H.val j v hj).below hb, H.bel.trans (hb.mono H.bel.size), H.hb, H.hw⟩
theorem FrS.drew (H : FrS E w0 n n' g gb pv inb F vs wr) : FrS E w0 n n' g gb pv inb F vs wr.drew := H.below (Below.drew (Below.refl _ _))
/-- The cell of a node's set. -/
theorem FrS.at_ (H : FrS E w0 n n' g gb pv inb F vs wr) {i : Nat} (hi : i < n) : ∃ v, vs[i]? = some v ∧ wr.cell? ⟨g, i, none⟩ = some v ∧ wr.frozen? ⟨g, i, none⟩ = false ∧ IV wr wr.heap.size v (F i) := by
  obtain ⟨v, hv⟩ : ∃ v, vs[i]? = some v := ⟨_, List.getElem?_eq_getElem (by have := H.len; omega)⟩
  exact ⟨v, hv, (World.ownsRow.cellAt H.row i (by omega)).trans hv, World.ownsRow.frozenAt H.row i, H.val i v hv⟩
theorem FrS.made (H : FrS E w0 n n' g gb pv inb F vs wr) {i : Nat} (hi : i < n') : wr.cell? ⟨gb, i, none⟩ = some (.bool (inb i)) := by
  rw [World.ownsRow.cellAt H.inb i (by omega), boolVals_get hi]
theorem FrS.store (H : FrS E w0 n n' g gb pv inb F vs wr) {i : Nat} (hi : i < n) {u : Value} {l : List Int} (hu : IV wr wr.heap.size u l) : FrS E w0 n n' g gb pv inb (updL F i l) (vs.set i u) (wr.setCell ⟨g, i, none⟩ u) := by
  obtain ⟨v, hv, hc, _, hiv⟩ := H.at_ hi
  obtain ⟨A, c, rfl, _⟩ := hiv.len
  obtain ⟨ho, hg⟩ := World.ownsRow.stored H.row i u
  have hs : (wr.setCell ⟨g, i, none⟩ u).heap.size = wr.heap.size := by simp [World.setCell]
  refine ⟨H.inb.kept hg (.inr ?_), H.prv.keep (fun p hp => ?_), ho, by rw [List.length_set]; exact H.len, fun j x hj => ?_, H.bel.setCell (by show w0.heap.size ≤ g; have := H.hb; have := H.hw; omega) u, H.hb, H.hw⟩
  · intro e; have := Option.some.inj (show some gb = some g from e); have := H.hb; omega
  · exact World.cell?_setCell_other wr _ p u (fun e => by subst e; exact Nat.lt_irrefl _ hp)
  · rw [hs]
    rw [List.getElem?_set] at hj
    by_cases e : i = j
    · subst e
      rw [if_pos rfl, if_pos (by have := H.len; omega)] at hj
      rw [← Option.some.inj hj, updL_at]
      exact hu.store hc u
    · rw [if_neg e] at hj
      rw [updL_ne (fun h => e h.symm)]
      exact (H.val j x hj).store hc u
theorem FrS.cell_ (H : FrS E w0 n n' g gb pv inb F vs wr) {i : Nat} {v : Value} (hv : vs[i]? = some v) (hi : i < n) : wr.cell? ⟨g, i, none⟩ = some v := (World.ownsRow.cellAt H.row i (by omega)).trans hv
theorem keep10 {S : Nat} {tt : TypeId} {v0 v1 v2 v3 v4 v5 v6 v7 vi vx : Value} {i x : Nat} (H : FrS E w0 n n' g gb pv inb F vs wr) (hB : Blk wr S tt #[v0, v1, v2, v3, v4, v5, v6, v7]) (hi : vs[i]? = some vi) (hx : vs[x]? = some vx) (h1 : i < n) (h2 : x < n) :
    wr.cell? ⟨g, i, none⟩ = some vi ∧ wr.cell? ⟨g, x, none⟩ = some vx ∧ wr.cell? ⟨S, 0, none⟩ = some v0 ∧ wr.cell? ⟨S, 1, none⟩ = some v1 ∧ wr.cell? ⟨S, 2, none⟩ = some v2 ∧ wr.cell? ⟨S, 3, none⟩ = some v3 ∧ wr.cell? ⟨S, 4, none⟩ = some v4 ∧ wr.cell? ⟨S, 5, none⟩ = some v5 ∧ wr.cell? ⟨S, 6, none⟩ = some v6 ∧ wr.cell? ⟨S, 7, none⟩ = some v7 :=
  ⟨H.cell_ hi h1, H.cell_ hx h2, hB.cell 0, hB.cell 1, hB.cell 2, hB.cell 3, hB.cell 4, hB.cell 5, hB.cell 6, hB.cell 7⟩
theorem keep9 {S : Nat} {tt : TypeId} {v0 v1 v2 v3 v4 v5 v6 v7 vx : Value} {x : Nat} (H : FrS E w0 n n' g gb pv inb F vs wr) (hB : Blk wr S tt #[v0, v1, v2, v3, v4, v5, v6, v7]) (hx : vs[x]? = some vx) (h2 : x < n) :
    wr.cell? ⟨g, x, none⟩ = some vx ∧ wr.cell? ⟨S, 0, none⟩ = some v0 ∧ wr.cell? ⟨S, 1, none⟩ = some v1 ∧ wr.cell? ⟨S, 2, none⟩ = some v2 ∧ wr.cell? ⟨S, 3, none⟩ = some v3 ∧ wr.cell? ⟨S, 4, none⟩ = some v4 ∧ wr.cell? ⟨S, 5, none⟩ = some v5 ∧ wr.cell? ⟨S, 6, none⟩ = some v6 ∧ wr.cell? ⟨S, 7, none⟩ = some v7 :=
  ⟨H.cell_ hx h2, hB.cell 0, hB.cell 1, hB.cell 2, hB.cell 3, hB.cell 4, hB.cell 5, hB.cell 6, hB.cell 7⟩
theorem FrS.cast {F' : Nat → List Int} (H : FrS E w0 n n' g gb pv inb F vs wr) (h : F = F') : FrS E w0 n n' g gb pv inb F' vs wr := h ▸ H
theorem prims_at {i : Nat} {p : Pr} (h : primTab[i]? = some p) : prims[i]? = some ⟨p.args, p.raises⟩ := by unfold prims; rw [List.getElem?_map, h]; rfl
end
end Go.Proofs.YtjhdlnllhjffkaaGreatDoor

namespace Go.Proofs.YtjhdlnllhjffkaaGreatDoor
open Go.RowKit LamM CpsM

/-- The state of the rounds: which nodes are made, the table, the row of sets (elements of type E) in block g. -/
structure FrC (E : TypeId) (w0 : World) (n n' g gb : Nat) (inb : Nat → Bool) (F : Nat → List Int) (vs : List Value) (wr : World) : Prop where
  inb : wr.ownsRow gb 4 1 (.slice (some ⟨gb, 0, none⟩) n' n') n' (boolVals n' inb)
  row : wr.ownsRow g E 1 (.slice (some ⟨g, 0, none⟩) n n) n vs
  len : vs.length = n
  val : ∀ j v, vs[j]? = some v → IV wr wr.heap.size v (F j)
  bel : Below w0.heap.size w0 wr
  hb : gb < g
  hw : w0.heap.size ≤ gb
section
variable {E : TypeId} {w0 wr w' : World} {n n' g gb : Nat} {inb : Nat → Bool} {F : Nat → List Int} {vs : List Value}
theorem FrC.lt (H : FrC E w0 n n' g gb inb F vs wr) : g < wr.heap.size := (World.ownsRow.lt H.row g rfl).2
theorem FrC.below (H : FrC E w0 n n' g gb inb F vs wr) (hb : Below wr.heap.size wr w') : FrC E w0 n n' g gb inb F vs w' :=
  ⟨ownsRow_below H.inb hb, ownsRow_below H.row hb, H.len, fun j v hj => (H.val j v hj).below hb, H.bel.trans (hb.mono H.bel.size), H.hb, H.hw⟩
theorem FrC.drew (H : FrC E w0 n n' g gb inb F vs wr) : FrC E w0 n n' g gb inb F vs wr.drew := H.below (Below.drew (Below.refl _ _))
/-- The cell of a node's set. -/
theorem FrC.at_ (H : FrC E w0 n n' g gb inb F vs wr) {i : Nat} (hi : i < n) : ∃ v, vs[i]? = some v ∧ wr.cell? ⟨g, i, none⟩ = some v ∧ wr.frozen? ⟨g, i, none⟩ = false ∧ IV wr wr.heap.size v (F i) := by
  obtain ⟨v, hv⟩ : ∃ v, vs[i]? = some v := ⟨_, List.getElem?_eq_getElem (by have := H.len; omega)⟩
  exact ⟨v, hv, (World.ownsRow.cellAt H.row i (by omega)).trans hv, World.ownsRow.frozenAt H.row i, H.val i v hv⟩
theorem FrC.made (H : FrC E w0 n n' g gb inb F vs wr) {i : Nat} (hi : i < n') : wr.cell? ⟨gb, i, none⟩ = some (.bool (inb i)) := by
  rw [World.ownsRow.cellAt H.inb i (by omega), boolVals_get hi]
theorem FrC.store (H : FrC E w0 n n' g gb inb F vs wr) {i : Nat} (hi : i < n) {u : Value} {l : List Int} (hu : IV wr wr.heap.size u l) : FrC E w0 n n' g gb inb (updS F i l) (vs.set i u) (wr.setCell ⟨g, i, none⟩ u) := by
  obtain ⟨v, hv, hc, _, hiv⟩ := H.at_ hi
  obtain ⟨A, c, rfl, _⟩ := hiv.len
  obtain ⟨ho, hg⟩ := World.ownsRow.stored H.row i u
  have hs : (wr.setCell ⟨g, i, none⟩ u).heap.size = wr.heap.size := by simp [World.setCell]
  refine ⟨H.inb.kept hg (.inr ?_), ho, by rw [List.length_set]; exact H.len, fun j x hj => ?_, H.bel.setCell (by show w0.heap.size ≤ g; have := H.hb; have := H.hw; omega) u, H.hb, H.hw⟩
  · intro e; have := Option.some.inj (show some gb = some g from e); have := H.hb; omega
  · rw [hs]
    rw [List.getElem?_set] at hj
    by_cases e : i = j
    · subst e
      rw [if_pos rfl, if_pos (by have := H.len; omega)] at hj
      rw [← Option.some.inj hj, updS_at]
      exact hu.store hc u
    · rw [if_neg e] at hj
      rw [updS_ne (fun h => e h.symm)]
      exact (H.val j x hj).store hc u
theorem FrC.cell_ (H : FrC E w0 n n' g gb inb F vs wr) {i : Nat} {v : Value} (hv : vs[i]? = some v) (hi : i < n) : wr.cell? ⟨g, i, none⟩ = some v := (World.ownsRow.cellAt H.row i (by omega)).trans hv
theorem keepC10 {S : Nat} {tt : TypeId} {v0 v1 v2 v3 v4 v5 v6 v7 v8 vi vx : Value} {i x : Nat} (H : FrC E w0 n n' g gb inb F vs wr) (hB : Blk wr S tt #[v0, v1, v2, v3, v4, v5, v6, v7, v8]) (hi : vs[i]? = some vi) (hx : vs[x]? = some vx) (h1 : i < n) (h2 : x < n) :
    wr.cell? ⟨g, i, none⟩ = some vi ∧ wr.cell? ⟨g, x, none⟩ = some vx ∧ wr.cell? ⟨S, 0, none⟩ = some v0 ∧ wr.cell? ⟨S, 1, none⟩ = some v1 ∧ wr.cell? ⟨S, 2, none⟩ = some v2 ∧ wr.cell? ⟨S, 3, none⟩ = some v3 ∧ wr.cell? ⟨S, 4, none⟩ = some v4 ∧ wr.cell? ⟨S, 5, none⟩ = some v5 ∧ wr.cell? ⟨S, 6, none⟩ = some v6 ∧ wr.cell? ⟨S, 7, none⟩ = some v7 ∧ wr.cell? ⟨S, 8, none⟩ = some v8 :=
  ⟨H.cell_ hi h1, H.cell_ hx h2, hB.cell 0, hB.cell 1, hB.cell 2, hB.cell 3, hB.cell 4, hB.cell 5, hB.cell 6, hB.cell 7, hB.cell 8⟩
theorem FrC.cast {F' : Nat → List Int} (H : FrC E w0 n n' g gb inb F vs wr) (h : F = F') : FrC E w0 n n' g gb inb F' vs wr := h ▸ H
end
end Go.Proofs.YtjhdlnllhjffkaaGreatDoor
