/- Lambda, plain: how many variables are free at most; sets by their elements. -/
import Derived.Test.YtmedfpejfpdpdaaGreatDoorLamBase
namespace LamM

theorem nodup_sub : ∀ (l m : List Int), SS l → (∀ x ∈ l, x ∈ m) → l.length ≤ m.length
  | [], _, _, _ => Nat.zero_le _
  | x :: l, m, hp, hs => by
    obtain ⟨h1, h2⟩ := ss_cons.1 hp
    have hx := hs x List.mem_cons_self
    have := nodup_sub l (m.erase x) h2 fun y hy => by
      have := h1 y hy
      exact (List.mem_erase_of_ne (by omega)).2 (hs y (List.mem_cons_of_mem _ hy))
    rw [List.length_erase_of_mem hx] at this
    have := List.length_pos_of_mem hx
    simp; omega
/-- Where a free variable comes from: a node, or what primitives raise. -/
def pool (L : List Tm) : List Int := L.map (·.n) ++ [1, 2, 3, 4, 5, 6, 7, 8]
theorem pool_len (L : List Tm) : (pool L).length = L.length + 8 := by simp [pool]
/-- A set of such. -/
structure In (L : List Tm) (l : List Int) : Prop where
  ss : SS l
  sub : ∀ x ∈ l, x ∈ pool L
theorem In.len {L : List Tm} {l : List Int} (h : In L l) : l.length ≤ L.length + 8 := by
  have := nodup_sub l _ h.ss h.sub
  rw [pool_len] at this; exact this
theorem In.nil (L : List Tm) : In L [] := ⟨by simp [SS], fun x h => by cases h⟩
theorem In.mrg {L : List Tm} {a b : List Int} (ha : In L a) (hb : ∀ x ∈ b, x ∈ pool L) : In L (mrg a b) :=
  ⟨ss_mrg _ ha.ss, fun x hx => ((mem_mrg x _ _).1 hx).elim (ha.sub x) (hb x)⟩
theorem In.ins {L : List Tm} {a : List Int} {v : Int} (ha : In L a) (hv : v ∈ pool L) : In L (ins v a) :=
  ⟨ss_ins v ha.ss, fun x hx => ((mem_ins v x a).1 hx).elim (fun h => h ▸ hv) (ha.sub x)⟩
theorem wout_sub {s b : List Int} {x : Int} (h : x ∈ wout s b) : x ∈ s := (List.mem_filter.1 h).1
theorem In.wout {L : List Tm} {s : List Int} (hs : In L s) (b : List Int) : In L (wout s b) := ⟨ss_wout b hs.ss, fun x hx => hs.sub x (wout_sub hx)⟩
/-- What primitives raise is small. -/
def Small (prims : List Pm) : Prop := ∀ p ∈ prims, SS p.raises ∧ ∀ x ∈ p.raises, 1 ≤ x ∧ x ≤ 8
theorem small_pool {L : List Tm} {x : Int} (h : 1 ≤ x ∧ x ≤ 8) : x ∈ pool L := by
  unfold pool
  refine List.mem_append_right _ ?_
  obtain ⟨h1, h2⟩ := h
  rcases (by omega : x = 1 ∨ x = 2 ∨ x = 3 ∨ x = 4 ∨ x = 5 ∨ x = 6 ∨ x = 7 ∨ x = 8) with rfl | rfl | rfl | rfl | rfl | rfl | rfl | rfl <;> decide
theorem node_pool {L : List Tm} {t : Tm} (h : t ∈ L) : t.n ∈ pool L := List.mem_append_left _ (List.mem_map.2 ⟨t, h, rfl⟩)
theorem raises_in {prims : List Pm} (hp : Small prims) (L : List Tm) (t : Tm) : In L (raisesOf prims t) := by
  unfold raisesOf
  split
  · split
    · exact In.nil L
    · split
      · next p h =>
        obtain ⟨h1, h2⟩ := hp p (List.mem_of_getElem? h)
        exact ⟨h1, fun x hx => small_pool (h2 x hx)⟩
      · exact In.nil L
  · exact In.nil L
theorem head_in {prims : List Pm} (hp : Small prims) {L : List Tm} {t : Tm} (ht : t ∈ L) : In L (freeHead prims t) := by
  unfold freeHead
  refine In.mrg ?_ (raises_in hp L t).sub
  split
  · exact ⟨by simp [SS], fun x hx => by rw [List.mem_singleton.1 hx]; exact node_pool ht⟩
  · exact In.nil L
theorem args_in {L : List Tm} {F : Nat → List Int} (hF : ∀ j, In L (F j)) (t : Tm) (i : Nat) : ∀ (k : Nat) (l acc : List Int), In L acc → In L (freeArgs F t i k l acc)
  | _, [], _, h => h
  | k, a :: l, acc, h => by
    unfold freeArgs
    refine args_in hF t i (k + 1) l _ ?_
    split
    · exact h
    · exact h.mrg ((hF _).wout _).sub
theorem node_in {prims : List Pm} (hp : Small prims) {L : List Tm} {F : Nat → List Int} (hF : ∀ j, In L (F j)) (inb : Bool) {t : Tm} (ht : t ∈ L) (i : Nat) : In L (freeNode prims inb F t i) := by
  unfold freeNode
  split
  · exact args_in hF t i 0 _ _ (head_in hp ht)
  · exact In.nil L
theorem all_in {prims : List Pm} (hp : Small prims) (inb : Nat → Bool) (L : List Tm) : ∀ (i j : Nat), In L (freeAll prims inb L i j)
  | 0, _ => In.nil L
  | i + 1, j => by
    unfold freeAll
    split
    · split
      · next t h => exact node_in hp (all_in hp inb L i) _ (List.mem_of_getElem? h) i
      · exact In.nil L
    · exact all_in hp inb L i j
/-- Steps of the node's head and arguments. -/
theorem head_var {prims : List Pm} {t : Tm} (h : t.k = 1) : freeHead prims t = [t.n] := by
  unfold freeHead raisesOf
  rw [if_pos h, if_neg (by omega)]; rfl
theorem head_prim {prims : List Pm} (hp : Small prims) {t : Tm} {p : Pm} (h : t.k = 15) (h0 : 0 ≤ t.n) (hg : prims[t.n.toNat]? = some p) : freeHead prims t = p.raises := by
  unfold freeHead raisesOf
  rw [if_neg (by omega), if_pos h, if_neg (by omega), hg]
  exact mrg_nil_left (hp p (List.mem_of_getElem? hg)).1
theorem head_prim_no {prims : List Pm} {t : Tm} (h : t.k = 15) (h0 : t.n < 0 ∨ (prims.length : Int) ≤ t.n) : freeHead prims t = [] := by
  unfold freeHead raisesOf
  rw [if_neg (by omega), if_pos h]
  split
  · rfl
  · rw [List.getElem?_eq_none (by omega)]; rfl
theorem head_other {prims : List Pm} {t : Tm} (h1 : t.k ≠ 1) (h2 : t.k ≠ 15) : freeHead prims t = [] := by
  unfold freeHead raisesOf
  rw [if_neg h1, if_neg h2]; rfl
theorem args_step {F : Nat → List Int} {t : Tm} {i k : Nat} {a : Int} {l acc : List Int} : freeArgs F t i k (a :: l) acc = freeArgs F t i (k + 1) l (if a < 0 ∨ (i : Int) ≤ a then acc else mrg acc (wout (F a.toNat) (boundAt t k))) := rfl
theorem mrgw_step {acc b l : List Int} {x : Int} : mrg acc (wout (x :: l) b) = if b.contains x then mrg acc (wout l b) else mrg (ins x acc) (wout l b) := by
  unfold wout
  rw [List.filter_cons]
  cases b.contains x <;> rfl
theorem all_last {prims : List Pm} {inb : Nat → Bool} {L : List Tm} {i : Nat} {t : Tm} (h : L[i]? = some t) : freeAll prims inb L (i + 1) i = freeNode prims (inb i) (freeAll prims inb L i) t i := by
  show (if i = i then _ else _) = _
  rw [if_pos rfl, h]
theorem all_other {prims : List Pm} {inb : Nat → Bool} {L : List Tm} {i j : Nat} (h : j ≠ i) : freeAll prims inb L (i + 1) j = freeAll prims inb L i j := by
  show (if j = i then _ else _) = _
  rw [if_neg h]
theorem all_beyond {prims : List Pm} {inb : Nat → Bool} {L : List Tm} : ∀ {i j : Nat}, i ≤ j → freeAll prims inb L i j = []
  | 0, _, _ => rfl
  | i + 1, j, h => by rw [all_other (by omega)]; exact all_beyond (by omega)
end LamM
