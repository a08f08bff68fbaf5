/- Lambda: how programs lie in memory; small laws for the walks. -/
import Derived.Test.YtmedfpejfpdpdaaGreatDoorFloMem
import Derived.Test.YtmedfpejfpdpdaaGreatDoorLamBase
import Derived.WalkKit
import Derived.WalkSpells
import Derived.WalkLawsBesides
import Derived.Handy
import Derived.Laws.Externs
import Derived.Lib.Hide
import Derived.IntWalk
import Derived.BigQuiet
import Derived.WalkMore
import Derived.Deep.LoopGhost
namespace Go.Proofs.YtmedfpejfpdpdaaGreatDoor
open Go.RowKit LamM

theorem b_true {a b : Int} (h : a = b) : (a == b) = true := beq_iff_eq.2 h
theorem b_false {a b : Int} (h : a ≠ b) : (a == b) = false := beq_eq_false_iff_ne.2 h
theorem n_true {a b : Int} (h : a ≠ b) : (a != b) = true := by unfold bne; rw [b_false h]; rfl
theorem n_false {a b : Int} (h : a = b) : (a != b) = false := by unfold bne; rw [b_true h]; rfl
theorem size_mk (s : List UInt8) : (ByteArray.mk s.toArray).size = s.length := by simp [ByteArray.size]
theorem two_alloc (w : World) (o o' : Obj) : Below w.heap.size w ((w.alloc o).alloc o') := ((Below.refl _ _).alloc (Nat.le_refl _) o).alloc (by simp) o'
theorem cell_lt {w : World} {p : Addr} {v : Value} (h : w.cell? p = some v) : p.block < w.heap.size := by
  rcases Nat.lt_or_ge p.block w.heap.size with h1 | h1
  · exact h1
  · unfold World.cell? at h
    rw [Array.getElem?_eq_none h1] at h
    simp at h
theorem own_ge {B n c : Nat} : ∀ k, (Value.slice (some ⟨B, 0, none⟩) n c).ownBlock = some k → B ≤ k := fun _ h => Nat.le_of_eq (Option.some.inj h)

/-! ### Input in memory -/
def intVals (l : List Int) : List Value := l.map fun x => .int .i64 x
def keyVals (l : List Ky) : List Value := l.flatMap fun y => [.int .i64 y.k, .int .i64 y.i, .string ⟨y.t.toArray⟩]
/-- A slice of ints. -/
def IV (w : World) (B : Nat) (v : Value) (l : List Int) : Prop := ∃ A c, v = .slice A l.length c ∧ l.length ≤ c ∧ c ≤ maxLen ∧ Reads w B 1 A l.length (intVals l)
/-- A slice of keys. -/
def KV (w : World) (B : Nat) (v : Value) (l : List Ky) : Prop := ∃ A c, v = .slice A l.length c ∧ l.length ≤ c ∧ c ≤ maxLen ∧ Reads w B 3 A l.length (keyVals l)
def tmVals (t : Tm) (vv kv av : Value) : List Value := [.int .i64 t.k, .int .i64 t.n, .int .i64 t.i, .int .u64 t.b, .string ⟨t.t.toArray⟩, vv, kv, av]
/-- What a node's three slices read as; what an int is. -/
structure TV (w : World) (B : Nat) (t : Tm) (vv kv av : Value) : Prop where
  v : IV w B vv t.vars
  k : KV w B kv t.keys
  a : IV w B av t.args
  rk : -9223372036854775808 ≤ t.k ∧ t.k ≤ 9223372036854775807
  rn : -9223372036854775808 ≤ t.n ∧ t.n ≤ 9223372036854775807
  ri : -9223372036854775808 ≤ t.i ∧ t.i ≤ 9223372036854775807
  ra : ∀ x ∈ t.args, -9223372036854775808 ≤ x ∧ x ≤ 9223372036854775807
  rv : ∀ x ∈ t.vars, -9223372036854775808 ≤ x ∧ x ≤ 9223372036854775807
  lv : t.vars.length ≤ 17592186044416
  lk : t.keys.length ≤ 17592186044416
  la : t.args.length ≤ 17592186044416
/-- A slice of nodes. -/
def NV (w : World) (B : Nat) (v : Value) (L : List Tm) : Prop :=
  ∃ A c, v = .slice A L.length c ∧ L.length ≤ c ∧ c ≤ 1300000000000 ∧ ∀ i t, L[i]? = some t → ∃ ad vv kv av, A = some ad ∧ ad.block < B ∧ TV w B t vv kv av ∧ ∀ j u, (tmVals t vv kv av)[j]? = some u → w.cell? (ad.add (i * 8 + j)) = some u

section
variable {w w' : World} {B : Nat}
theorem IV.keep {v : Value} {l : List Int} (h : IV w B v l) (hk : ∀ p : Addr, p.block < B → w'.cell? p = w.cell? p) : IV w' B v l := by
  obtain ⟨A, c, e, h1, h2, h3⟩ := h
  exact ⟨A, c, e, h1, h2, h3.keep hk⟩
theorem KV.keep {v : Value} {l : List Ky} (h : KV w B v l) (hk : ∀ p : Addr, p.block < B → w'.cell? p = w.cell? p) : KV w' B v l := by
  obtain ⟨A, c, e, h1, h2, h3⟩ := h
  exact ⟨A, c, e, h1, h2, h3.keep hk⟩
theorem TV.keep {t : Tm} {vv kv av : Value} (h : TV w B t vv kv av) (hk : ∀ p : Addr, p.block < B → w'.cell? p = w.cell? p) : TV w' B t vv kv av :=
  ⟨h.v.keep hk, h.k.keep hk, h.a.keep hk, h.rk, h.rn, h.ri, h.ra, h.rv, h.lv, h.lk, h.la⟩
theorem NV.keep {v : Value} {L : List Tm} (h : NV w B v L) (hk : ∀ p : Addr, p.block < B → w'.cell? p = w.cell? p) : NV w' B v L := by
  obtain ⟨A, c, e, h1, h2, h3⟩ := h
  refine ⟨A, c, e, h1, h2, fun i t ht => ?_⟩
  obtain ⟨ad, vv, kv, av, hA, hb, ht2, hc⟩ := h3 i t ht
  exact ⟨ad, vv, kv, av, hA, hb, ht2.keep hk, fun j u hu => (hk _ (by rw [block_of_add]; exact hb)).trans (hc j u hu)⟩
theorem IV.at_ {A : Option Addr} {n c : Nat} {l : List Int} (h : IV w B (.slice A n c) l) {j : Nat} {x : Int} (hj : l[j]? = some x) : ∃ ad, A = some ad ∧ ad.block < B ∧ w.cell? (ad.add j) = some (.int .i64 x) := by
  obtain ⟨A', c', e, _, _, hr⟩ := h
  injection e with e1 e2 e3
  subst e1 e3
  have hlt : j < l.length := (List.getElem?_eq_some_iff.1 hj).1
  obtain ⟨ad, hA, hb, hc⟩ := hr.2 (by omega)
  exact ⟨ad, hA, hb, hc j _ (by unfold intVals; rw [List.getElem?_map, hj]; rfl)⟩
theorem IV.len {v : Value} {l : List Int} (h : IV w B v l) : ∃ A c, v = .slice A l.length c ∧ l.length ≤ c ∧ c ≤ maxLen := by
  obtain ⟨A, c, e, h1, h2, _⟩ := h; exact ⟨A, c, e, h1, h2⟩
/-- A node's cells, spelled as the walks spell them. -/
theorem NV.at_ {A : Option Addr} {n c : Nat} {L : List Tm} (h : NV w B (.slice A n c) L) {i : Nat} {t : Tm} (hi : L[i]? = some t) :
    ∃ ad vv kv av, A = some ad ∧ ad.block < B ∧ TV w B t vv kv av ∧ w.cell? (ad.add (i * 8)) = some (.int .i64 t.k) ∧ w.cell? (ad.add (i * 8 + 1)) = some (.int .i64 t.n) ∧ w.cell? (ad.add (i * 8 + 2)) = some (.int .i64 t.i) ∧
      w.cell? (ad.add (i * 8 + 3)) = some (.int .u64 t.b) ∧ w.cell? (ad.add (i * 8 + 4)) = some (.string ⟨t.t.toArray⟩) ∧ w.cell? (ad.add (i * 8 + 5)) = some vv ∧ w.cell? (ad.add (i * 8 + 6)) = some kv ∧ w.cell? (ad.add (i * 8 + 7)) = some av := by
  obtain ⟨A', c', e, _, _, h3⟩ := h
  injection e with e1 e2 e3
  subst e1 e3
  obtain ⟨ad, vv, kv, av, hA, hb, ht, hc⟩ := h3 i t hi
  exact ⟨ad, vv, kv, av, hA, hb, ht, hc 0 _ rfl, hc 1 _ rfl, hc 2 _ rfl, hc 3 _ rfl, hc 4 _ rfl, hc 5 _ rfl, hc 6 _ rfl, hc 7 _ rfl⟩
theorem NV.len {v : Value} {L : List Tm} (h : NV w B v L) : ∃ A c, v = .slice A L.length c ∧ L.length ≤ c ∧ c ≤ 1300000000000 := by
  obtain ⟨A, c, e, h1, h2, _⟩ := h; exact ⟨A, c, e, h1, h2⟩
end

/-! ### A row of truths -/
def boolVals (n : Nat) (f : Nat → Bool) : List Value := (List.range n).map fun i => .bool (f i)
theorem boolVals_len (n : Nat) (f : Nat → Bool) : (boolVals n f).length = n := by unfold boolVals; simp
theorem boolVals_get {n i : Nat} {f : Nat → Bool} (h : i < n) : (boolVals n f)[i]? = some (.bool (f i)) := by unfold boolVals; simp [h]
theorem boolVals_set {n j : Nat} {f : Nat → Bool} (_ : j < n) : (boolVals n f).set j (.bool true) = boolVals n (upd f j) := by
  apply List.ext_getElem?
  intro i
  rcases Nat.lt_or_ge i n with h | h
  · rw [List.getElem?_set, boolVals_get h, boolVals_get h]
    unfold upd
    by_cases e : j = i
    · subst e; simp [boolVals_len, h]
    · rw [if_neg e]; simp [show ¬ i = j from fun x => e x.symm]
  · rw [List.getElem?_eq_none (by rw [List.length_set, boolVals_len]; exact h), List.getElem?_eq_none (by rw [boolVals_len]; exact h)]
theorem boolVals_made (n : Nat) : (madeCells #[Value.bool false] n).toList = boolVals n (fun _ => false) := by
  rw [toList_madeCells_one]
  unfold boolVals
  simp [List.map_const']
end Go.Proofs.YtmedfpejfpdpdaaGreatDoor
