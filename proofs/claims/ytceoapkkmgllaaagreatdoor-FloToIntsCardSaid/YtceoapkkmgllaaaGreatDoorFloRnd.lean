/- The reference's rounding, and its sums, products, quotients, as plain numbers. -/
import Derived.Test.YtceoapkkmgllaaaGreatDoorFloDig
import Derived.Test.YtceoapkkmgllaaaGreatDoorFloInts
namespace FloM
open Ieee

def rung (m : Nat) (p : Int) : Nat := if m < 2 ^ 52 then m else if 2047 ≤ p + 1075 then cap else (p + 1075).toNat * 2 ^ 52 + (m - 2 ^ 52)
/-- pack. -/
def packR (m : Nat) (p : Int) : Nat := if m = 2 ^ 53 then rung (2 ^ 52) (p + 1) else rung m p
theorem pack_eq (m k : Nat) (hm : m ≤ 2 ^ 53) (hk : 0 < k → 2 ^ 52 ≤ m) : packR m ((k : Int) - 1074) = min (k * 2 ^ 52 + m) cap := by
  have hcap : cap = 2047 * 2 ^ 52 := rfl
  unfold packR rung
  by_cases h : m = 2 ^ 53
  · rw [if_pos h, if_neg (by omega)]
    by_cases h2 : 2047 ≤ (k : Int) - 1074 + 1 + 1075
    · rw [if_pos h2]; omega
    · rw [if_neg h2]
      have : ((k : Int) - 1074 + 1 + 1075).toNat = k + 2 := by omega
      rw [this]; omega
  · rw [if_neg h]
    by_cases h1 : m < 2 ^ 52
    · rw [if_pos h1]; omega
    · rw [if_neg h1]
      by_cases h2 : 2047 ≤ (k : Int) - 1074 + 1075
      · rw [if_pos h2]; omega
      · rw [if_neg h2]
        have : ((k : Int) - 1074 + 1075).toNat = k + 1 := by omega
        rw [this]; omega

/-- The last binary digit that is kept; what is kept. -/
def nearQ (m : Nat) (p : Int) : Int := max ((bl m : Int) + p - 53) (-1074)
def nearK (m : Nat) (p : Int) : Nat := if nearQ m p ≤ p then m * 2 ^ (p - nearQ m p).toNat else rhe m (2 ^ (nearQ m p - p).toNat)

theorem near_rq (m : Nat) (p : Int) (b : Nat) (hm : m ≠ 0) (hp : -1074 - (b : Int) ≤ p) :
    packR (nearK m p) (nearQ m p) = rq (m * 2 ^ (p + 1074 + b).toNat) (2 ^ b) ∧ nearK m p ≤ 2 ^ 53 ∧ (-1074 < nearQ m p → 2 ^ 52 ≤ nearK m p) := by
  obtain ⟨t, ht⟩ : ∃ t : Nat, (t : Int) = p + 1074 + b := ⟨(p + 1074 + b).toNat, by omega⟩
  rw [← ht, Int.toNat_natCast]
  have hbl : bl m = m.log2 + 1 := by unfold bl; rw [if_neg hm]
  have hk : (m * 2 ^ t / 2 ^ b).log2 - 52 = m.log2 + t - (b + 52) := by rw [log2_div_pow, log2_mul_pow _ _ hm]
  have k1 := kept_le (m * 2 ^ t) (2 ^ b)
  have k2 := kept_ge (m * 2 ^ t) (2 ^ b)
  unfold rq
  rw [hk] at k1 k2 ⊢
  generalize m.log2 = L at *
  generalize hkk : L + t - (b + 52) = k at *
  have hQ : nearQ m p = (k : Int) - 1074 := by unfold nearQ; rw [hbl]; omega
  have hK : nearK m p = rhe (m * 2 ^ t) (2 ^ b * 2 ^ k) := by
    unfold nearK
    rw [hQ, ← Nat.pow_add]
    rcases Nat.le_total (b + k) t with h1 | h1
    · rw [if_pos (by omega)]
      have : (p - ((k : Int) - 1074)).toNat = t - (b + k) := by omega
      rw [this]
      have e := rhe_mul (m * 2 ^ (t - (b + k))) 1 (2 ^ (b + k)) (Nat.two_pow_pos _)
      rw [Nat.one_mul, Nat.mul_assoc, ← Nat.pow_add, show t - (b + k) + (b + k) = t by omega, rhe_one] at e
      exact e.symm
    · have e := rhe_mul m (2 ^ (b + k - t)) (2 ^ t) (Nat.two_pow_pos _)
      rw [← Nat.pow_add, show b + k - t + t = b + k by omega] at e
      rw [e]
      by_cases h2 : (k : Int) - 1074 ≤ p
      · rw [if_pos h2]
        have a1 : (p - ((k : Int) - 1074)).toNat = 0 := by omega
        have a2 : b + k - t = 0 := by omega
        rw [a1, a2, Nat.pow_zero, Nat.mul_one, rhe_one]
      · rw [if_neg h2]
        have a1 : ((k : Int) - 1074 - p).toNat = b + k - t := by omega
        rw [a1]
  rw [hK, hQ]
  refine ⟨pack_eq _ _ k1 k2, k1, fun h => k2 (by omega)⟩

/-- Nearest. -/
def rNear (M : Nat) (P : Int) (s : Nat) : Nat := if M = 0 then 0 else packR (nearK (4 * M + s) (P - 2)) (nearQ (4 * M + s) (P - 2))

theorem rNear_rq (M : Nat) (P : Int) (b : Nat) (hP : -1074 - (b : Int) ≤ P) : rNear M P 0 = rq (M * 2 ^ (P + 1074 + b).toNat) (2 ^ b) := by
  unfold rNear
  split
  · next h => subst h; rw [Nat.zero_mul, rq_zero]
  · next h =>
    rw [Nat.add_zero, (near_rq (4 * M) (P - 2) (b + 2) (by omega) (by omega)).1]
    have : (P - 2 + 1074 + ((b + 2 : Nat) : Int)).toNat = (P + 1074 + b).toNat := by omega
    rw [this]
    apply rq_congr (Nat.two_pow_pos _) (Nat.two_pow_pos _)
    rw [Nat.pow_add 2 b 2]
    generalize 2 ^ (P + 1074 + ↑b).toNat = x
    generalize 2 ^ b = y
    rw [show (2:Nat) ^ 2 = 4 by decide]
    simp only [Nat.mul_assoc, Nat.mul_comm, Nat.mul_left_comm]

theorem rq_more (N D a b : Nat) (hD : 0 < D) (hq : 53 ≤ (N / D).log2) :
    rq (N * 2 ^ a) (D * 2 ^ b) = rq ((4 * (N / D) + (if N % D = 0 then 0 else 1)) * 2 ^ a) (2 ^ (b + 2)) := by
  rw [rq_sticky N D a b hD hq]
  generalize N / D = q at *
  generalize hs : (if N % D = 0 then 0 else 1) = s
  have hs1 : s ≤ 1 := by subst hs; split <;> omega
  have e := rq_sticky (4 * q + s) 4 a b (by omega) (by rw [show (4 * q + s) / 4 = q by omega]; exact hq)
  rw [show (4 * q + s) / 4 = q by omega, show (4 * q + s) % 4 = s by omega] at e
  have hs2 : (if s = 0 then 0 else 1) = s := by split <;> omega
  rw [hs2] at e
  rw [← e]
  congr 1
  rw [Nat.pow_add, Nat.mul_comm]

theorem rNear_more (N D : Nat) (P : Int) (b : Nat) (hD : 0 < D) (hq : 53 ≤ (N / D).log2) (hP : -1074 - (b : Int) ≤ P) :
    rNear (N / D) P (if N % D = 0 then 0 else 1) = rq (N * 2 ^ (P + 1074 + b).toNat) (D * 2 ^ b) := by
  have h0 : N / D ≠ 0 := by intro h; rw [h] at hq; simp at hq
  unfold rNear
  rw [if_neg h0, rq_more N D _ b hD hq, (near_rq _ (P - 2) (b + 2) (by omega) (by omega)).1]
  have : (P - 2 + 1074 + ((b + 2 : Nat) : Int)).toNat = (P + 1074 + b).toNat := by omega
  rw [this]

/-! The parts of a finite real: mg (rg u) times 2^(up (rg u) - 1074). -/
def pp (u : Nat) : Int := (up (rg u) : Int) - 1074

/-- R.Add at finite reals. -/
def addM (s t : Bool) (a b : Nat) : Nat := if s = t then a + b else if a < b then b - a else a - b
def addS (s t : Bool) (a b : Nat) : Bool := if s = t then s else if a = b then false else if b < a then s else t
theorem add_val (s t : Bool) (a b : Nat) : ((if s then -(a : Int) else a) + (if t then -(b : Int) else b)).natAbs = addM s t a b := by
  unfold addM
  cases s <;> cases t <;> simp <;> (repeat' split) <;> omega

theorem mg_up (u b : Nat) (h : b ≤ up (rg u)) : val (rg u) = mg (rg u) * 2 ^ (up (rg u) - b) * 2 ^ b := by
  rw [val_eq, Nat.mul_assoc, ← Nat.pow_add, show up (rg u) - b + b = up (rg u) by omega]

theorem addM_mul (s t : Bool) (a b c : Nat) (hc : 0 < c) : addM s t (a * c) (b * c) = addM s t a b * c := by
  unfold addM
  have := @Nat.mul_lt_mul_right c a b hc
  split
  · rw [Nat.add_mul]
  · by_cases h : a < b
    · rw [if_pos h, if_pos (this.2 h), Nat.sub_mul]
    · rw [if_neg h, if_neg (by rw [this]; exact h), Nat.sub_mul]
theorem addS_mul (s t : Bool) (a b c : Nat) (hc : 0 < c) : addS s t (a * c) (b * c) = addS s t a b := by
  unfold addS
  have h1 := @Nat.mul_lt_mul_right c b a hc
  have h2 : a * c = b * c ↔ a = b := Nat.mul_left_inj (by omega)
  simp only [h1, h2]

theorem add_sign (s t : Bool) (a b : Nat) (h : ¬ (a = 0 ∧ b = 0)) :
    (if (if s then -(a : Int) else a) + (if t then -(b : Int) else b) = 0 then s && t else decide ((if s then -(a : Int) else a) + (if t then -(b : Int) else b) < 0)) = addS s t a b := by
  unfold addS
  rcases Nat.lt_trichotomy a b with h1 | h1 | h1 <;> cases s <;> cases t <;> simp only [Bool.false_eq_true, Bool.true_eq_false, if_false, if_true, Bool.and_true, Bool.and_false, Bool.and_self] <;>
    (repeat' first | rw [if_pos (by omega)] | rw [if_neg (by omega)]) <;> simp <;> omega

/-- The least power of two of the two. -/
def lo (u v : Nat) : Nat := min (up (rg u)) (up (rg v))
theorem radd_fin {u v : Nat} (hu : rg u < cap) (hv : rg v < cap) (h0 : ¬ (rg u = 0 ∧ rg v = 0)) :
    double.add u v = some (wd (addS (sgn u) (sgn v) (mg (rg u) * 2 ^ (up (rg u) - lo u v)) (mg (rg v) * 2 ^ (up (rg v) - lo u v)))
      (rNear (addM (sgn u) (sgn v) (mg (rg u) * 2 ^ (up (rg u) - lo u v)) (mg (rg v) * 2 ^ (up (rg v) - lo u v))) ((lo u v : Int) - 1074) 0)) := by
  rw [add_fin hu hv, rNear_rq _ _ 0 (by omega)]
  have e : ((lo u v : Int) - 1074 + 1074 + ((0 : Nat) : Int)).toNat = lo u v := by omega
  rw [e, Nat.pow_zero]
  have hp := Nat.two_pow_pos (lo u v)
  rw [← addM_mul _ _ _ _ _ hp, ← addS_mul _ _ _ _ _ hp, ← mg_up u (lo u v) (Nat.min_le_left _ _), ← mg_up v (lo u v) (Nat.min_le_right _ _)]
  unfold sv
  rw [add_val, add_sign _ _ _ _ (by rw [val_eq_zero, val_eq_zero]; exact h0)]

theorem rmul_fin {u v : Nat} (hu : rg u < cap) (hv : rg v < cap) :
    double.mul u v = some (wd (sgn u ^^ sgn v) (rNear (mg (rg u) * mg (rg v)) (pp u + pp v) 0)) := by
  rw [mul_fin hu hv, rNear_rq _ _ e74 (by unfold pp e74; omega)]
  have e : (pp u + pp v + 1074 + (e74 : Int)).toNat = up (rg u) + up (rg v) := by unfold pp e74; omega
  rw [e, ← KK_eq, val_eq, val_eq, Nat.pow_add]
  refine congrArg some (congrArg (wd _) (congrArg (fun x => rq x KK) ?_))
  generalize 2 ^ up (rg u) = a
  generalize 2 ^ up (rg v) = b
  simp only [Nat.mul_comm, Nat.mul_left_comm]

theorem mg_pos {u : Nat} (h : rg u ≠ 0) : 0 < mg (rg u) := by
  have := @mg_zero (rg u); omega

theorem rdiv_fin {u v : Nat} (hu : rg u < cap) (hv : rg v < cap) (h0 : rg u ≠ 0) (h1 : rg v ≠ 0) :
    double.div u v = some (wd (sgn u ^^ sgn v) (rNear (mg (rg u) * 2 ^ 128 / mg (rg v)) (pp u - pp v - 128) (if mg (rg u) * 2 ^ 128 % mg (rg v) = 0 then 0 else 1))) := by
  have hm := mg_pos h0
  have hn := mg_pos h1
  have hn2 := mg_lt (rg v)
  have hq : 53 ≤ (mg (rg u) * 2 ^ 128 / mg (rg v)).log2 := by
    have : 2 ^ 53 ≤ mg (rg u) * 2 ^ 128 / mg (rg v) := by
      rw [Nat.le_div_iff_mul_le hn]
      calc 2 ^ 53 * mg (rg v) ≤ 2 ^ 53 * 2 ^ 53 := Nat.mul_le_mul_left _ (Nat.le_of_lt hn2)
        _ ≤ 1 * 2 ^ 128 := by decide
        _ ≤ mg (rg u) * 2 ^ 128 := Nat.mul_le_mul_right _ hm
    rw [Nat.le_log2 (by have := Nat.two_pow_pos 53; omega)]
    exact this
  have hU : up (rg v) ≤ 2045 := by
    unfold up
    have : rg v / 2 ^ 52 < 2047 := Nat.div_lt_of_lt_mul (by have : cap = 2 ^ 52 * 2047 := by decide
                                                            omega)
    omega
  rw [div_fin hu hv h1, rNear_more _ _ _ (up (rg v) + 128) hn hq (by unfold pp; omega)]
  have e : (pp u - pp v - 128 + 1074 + ((up (rg v) + 128 : Nat) : Int)).toNat = up (rg u) + e74 := by unfold pp e74; omega
  rw [e]
  refine congrArg some (congrArg (wd _) ?_)
  apply rq_congr (by rw [val_eq]; exact Nat.mul_pos hn (Nat.two_pow_pos _)) (Nat.mul_pos hn (Nat.two_pow_pos _))
  rw [val_eq, val_eq, KK_eq, Nat.pow_add 2 (up (rg v)) 128, Nat.pow_add 2 (up (rg u)) e74]
  generalize 2 ^ up (rg u) = a
  generalize 2 ^ up (rg v) = b
  generalize 2 ^ e74 = c
  generalize (2:Nat) ^ 128 = d
  simp only [Nat.mul_comm, Nat.mul_left_comm]

theorem rint_all (n : Int) : ofI n = wd (decide (n < 0)) (rNear n.natAbs 0 0) := by
  unfold ofI
  rw [rNear_rq _ _ 0 (by omega)]
  have e : ((0 : Int) + 1074 + ((0 : Nat) : Int)).toNat = e74 := by unfold e74; omega
  rw [e, ← KK_eq, Nat.pow_zero]

theorem rNear_le (M : Nat) (P : Int) (s : Nat) : rNear M P s ≤ cap := by
  unfold rNear
  split
  · exact Nat.zero_le _
  · next h =>
    have h1 : 4 * M + s ≠ 0 := by omega
    rw [(near_rq (4 * M + s) (P - 2) (-1074 - (P - 2)).toNat h1 (by omega)).1]
    exact rq_le _ _
end FloM
