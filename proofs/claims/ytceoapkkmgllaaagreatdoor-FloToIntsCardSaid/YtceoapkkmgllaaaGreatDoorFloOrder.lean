/- The order of the 64-bit reals, and that rounding keeps it: plain. -/
import Derived.Test.YtceoapkkmgllaaaGreatDoorFloWords
namespace FloM
open Ieee

theorem cap_le (r : Nat) (h : r ≤ cap) : val r ≤ val cap := by
  rcases Nat.lt_or_ge r cap with h1 | h1
  · exact Nat.le_of_lt (val_lt h1)
  · have : r = cap := by omega
    rw [this]; exact Nat.le_refl _

theorem val_cap_pos : 0 < val cap := by
  have := @val_lt 0 cap (by decide)
  rw [val_zero] at this; exact this

/-- An infinity stands above all, in the same units. -/
theorem order_all {u v : Nat} (hu : rg u ≤ cap) (hv : rg v ≤ cap) : double.order u v = some (compare (sv u) (sv v)) := by
  rcases Nat.lt_or_ge (rg u) cap with hu1 | hu1
  · rcases Nat.lt_or_ge (rg v) cap with hv1 | hv1
    · exact order_fin hu1 hv1
    · have hv2 : rg v = cap := by omega
      unfold Format.order
      rw [read_num hu1, read_inf hv2]
      have h1 := val_lt hu1
      simp only [Datum.order]
      unfold sv
      rw [hv2]
      generalize val cap = C at *
      generalize val (rg u) = x at *
      cases sgn v
      · simp only [Bool.false_eq_true, if_false]
        rw [Int.compare_eq_lt.2]
        split <;> omega
      · simp only [if_true]
        rw [Int.compare_eq_gt.2]
        split <;> omega
  · have hu2 : rg u = cap := by omega
    rcases Nat.lt_or_ge (rg v) cap with hv1 | hv1
    · unfold Format.order
      rw [read_inf hu2, read_num hv1]
      have h1 := val_lt hv1
      simp only [Datum.order]
      unfold sv
      rw [hu2]
      generalize val cap = C at *
      generalize val (rg v) = x at *
      cases sgn u
      · simp only [Bool.false_eq_true, if_false]
        rw [Int.compare_eq_gt.2]
        split <;> omega
      · simp only [if_true]
        rw [Int.compare_eq_lt.2]
        split <;> omega
    · have hv2 : rg v = cap := by omega
      unfold Format.order
      rw [read_inf hu2, read_inf hv2]
      simp only [Datum.order]
      unfold sv
      rw [hu2, hv2]
      have h1 := val_cap_pos
      generalize val cap = C at *
      cases sgn u <;> cases sgn v <;> simp only [Bool.false_eq_true, if_false, if_true]
      · simp [Std.ReflCmp.compare_self]
      · rw [Int.compare_eq_gt.2 (by omega)]; rfl
      · rw [Int.compare_eq_lt.2 (by omega)]; rfl
      · simp [Std.ReflCmp.compare_self]

theorem order_nan_l {u : Nat} (v : Nat) (hu : cap < rg u) : double.order u v = none := by
  unfold Format.order; rw [read_nan hu]; cases double.read v <;> rfl
theorem order_nan_r (u : Nat) {v : Nat} (hv : cap < rg v) : double.order u v = none := by
  unfold Format.order; rw [read_nan hv]; cases double.read u <;> rfl

/-- -1, 0, 1, or 2. -/
def cmpI (u v : Nat) : Int := if cap < rg u ∨ cap < rg v then 2 else if sv u < sv v then -1 else if sv v < sv u then 1 else 0

/-- Rounding a whole number of the least real. -/
def rv (S : Int) : Int := if S < 0 then -(val (rq S.natAbs 1) : Int) else val (rq S.natAbs 1)

theorem val_mono {a b : Nat} (h : a ≤ b) : val a ≤ val b := by
  rcases Nat.lt_or_ge a b with h1 | h1
  · exact Nat.le_of_lt (val_lt h1)
  · have : a = b := by omega
    rw [this]; exact Nat.le_refl _

theorem rv_mono {a b : Int} (h : a ≤ b) : rv a ≤ rv b := by
  unfold rv
  have m1 : a.natAbs ≤ b.natAbs → val (rq a.natAbs 1) ≤ val (rq b.natAbs 1) := fun h => val_mono (rq_mono (by omega) (by omega) (by omega))
  have m2 : b.natAbs ≤ a.natAbs → val (rq b.natAbs 1) ≤ val (rq a.natAbs 1) := fun h => val_mono (rq_mono (by omega) (by omega) (by omega))
  generalize val (rq a.natAbs 1) = x at *
  generalize val (rq b.natAbs 1) = y at *
  split <;> split <;> omega

theorem sv_wd {neg : Bool} {r : Nat} (h : r < 2 ^ 63) : sv (wd neg r) = if neg then -(val r : Int) else val r := by
  unfold sv; rw [sgn_wd _ _ h, rg_wd _ _ h]

theorem rq_lt (A B : Nat) : rq A B < 2 ^ 63 := Nat.lt_of_le_of_lt (rq_le A B) cap_lt

/-- The sum of two reals stands for the rounded sum. -/
theorem sv_sum (S : Int) (z : Bool) : sv (wd (if S = 0 then z else decide (S < 0)) (rq S.natAbs 1)) = rv S := by
  rw [sv_wd (rq_lt _ _)]
  unfold rv
  by_cases h0 : S = 0
  · subst h0
    simp [rq_zero, val_zero]
  · rw [if_neg h0]
    by_cases h1 : S < 0 <;> simp [h1]

/-- The product. -/
def pv (S : Int) : Int := if S < 0 then -(val (rq S.natAbs KK) : Int) else val (rq S.natAbs KK)

theorem pv_mono {a b : Int} (h : a ≤ b) : pv a ≤ pv b := by
  unfold pv
  have hK := KK_pos
  generalize KK = K at *
  have m1 : a.natAbs ≤ b.natAbs → val (rq a.natAbs K) ≤ val (rq b.natAbs K) := fun h => val_mono (rq_mono hK hK (Nat.mul_le_mul_right _ h))
  have m2 : b.natAbs ≤ a.natAbs → val (rq b.natAbs K) ≤ val (rq a.natAbs K) := fun h => val_mono (rq_mono hK hK (Nat.mul_le_mul_right _ h))
  generalize val (rq a.natAbs K) = x at *
  generalize val (rq b.natAbs K) = y at *
  split <;> split <;> omega

theorem sv_natAbs (u : Nat) : (sv u).natAbs = val (rg u) := by
  unfold sv; split <;> omega

theorem sv_prod (u v : Nat) : sv (wd (sgn u ^^ sgn v) (rq (val (rg u) * val (rg v)) KK)) = pv (sv u * sv v) := by
  rw [sv_wd (rq_lt _ _)]
  unfold pv
  have hn : (sv u * sv v).natAbs = val (rg u) * val (rg v) := by rw [Int.natAbs_mul, sv_natAbs, sv_natAbs]
  rw [hn]
  generalize hP : val (rq (val (rg u) * val (rg v)) KK) = P
  have hz : val (rg u) * val (rg v) = 0 → P = 0 := by
    intro h; rw [h, rq_zero, val_zero] at hP; omega
  unfold sv
  generalize val (rg u) = x at *
  generalize val (rg v) = y at *
  have hxy : (0 : Int) ≤ (x : Int) * (y : Int) := Int.mul_nonneg (by omega) (by omega)
  have hxy0 : (x : Int) * (y : Int) = 0 → P = 0 := fun h => hz (by exact_mod_cast h)
  generalize hq : (x : Int) * (y : Int) = q at *
  cases sgn u <;> cases sgn v <;> simp only [Bool.false_eq_true, if_false, if_true, Bool.xor_false, Bool.xor_true, Bool.not_false, Bool.not_true, Int.neg_mul, Int.mul_neg, hq, Int.neg_neg]
  · rw [if_neg (by omega)]
  · by_cases h : q = 0
    · have := hxy0 h; subst this; simp
    · rw [if_pos (by omega)]
  · by_cases h : q = 0
    · have := hxy0 h; subst this; simp
    · rw [if_pos (by omega)]
  · rw [if_neg (by omega)]

end FloM
