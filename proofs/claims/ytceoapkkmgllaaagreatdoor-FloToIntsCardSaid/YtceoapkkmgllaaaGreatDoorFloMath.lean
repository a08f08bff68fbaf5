/- The rounding of exact numbers to 64-bit reals, as plain arithmetic on natural numbers: what the model's 'nearest' is. -/
import Ieee.Arith
namespace FloM
open Ieee

/-- n / d to the nearest whole number, the even one of two. -/
def rhe (n d : Nat) : Nat := n / d + (if d < 2 * (n % d) ∨ (2 * (n % d) = d ∧ n / d % 2 = 1) then 1 else 0)

theorem rhe_le (n d : Nat) : n / d ≤ rhe n d ∧ rhe n d ≤ n / d + 1 := by
  unfold rhe; split <;> omega

theorem rhe_mul (n d c : Nat) (hc : 0 < c) : rhe (n * c) (d * c) = rhe n d := by
  unfold rhe
  rw [Nat.mul_div_mul_right _ _ hc, Nat.mul_mod_mul_right]
  have e1 : (d * c < 2 * (n % d * c)) ↔ d < 2 * (n % d) := by
    rw [← Nat.mul_assoc]; exact Nat.mul_lt_mul_right hc
  have e2 : (2 * (n % d * c) = d * c) ↔ 2 * (n % d) = d := by
    rw [← Nat.mul_assoc]; exact Nat.mul_left_inj (by omega)
  simp only [e1, e2]

theorem rhe_one (n : Nat) : rhe n 1 = n := by
  unfold rhe; simp [Nat.mod_one]

theorem rhe_exact (k d : Nat) (hd : 0 < d) : rhe (k * d) d = k := by
  have := rhe_mul k 1 d hd
  rw [Nat.one_mul] at this
  rw [this, rhe_one]

/-- Monotone, across denominators. -/
theorem rhe_mono {a b a' b' : Nat} (hb : 0 < b) (hb' : 0 < b') (h : a * b' ≤ a' * b) : rhe a b ≤ rhe a' b' := by
  -- to a common denominator
  have e1 : rhe a b = rhe (a * b') (b * b') := (rhe_mul a b b' hb').symm
  have e2 : rhe a' b' = rhe (a' * b) (b * b') := by rw [Nat.mul_comm b b']; exact (rhe_mul a' b' b hb).symm
  rw [e1, e2]
  have hd : 0 < b * b' := Nat.mul_pos hb hb'
  generalize a * b' = x at *
  generalize a' * b = y at *
  generalize b * b' = d at *
  have q1 : x / d ≤ y / d := Nat.div_le_div_right h
  rcases Nat.lt_or_ge (x / d) (y / d) with hlt | hge
  · have := (rhe_le x d).2; have := (rhe_le y d).1; omega
  · have hq : x / d = y / d := by omega
    have m1 := Nat.div_add_mod x d
    have m2 := Nat.div_add_mod y d
    rw [hq] at m1
    have hm : x % d ≤ y % d := by omega
    unfold rhe
    rw [hq]
    split <;> split <;> omega

/-- A/B (in units of the least real) rounded to a rung of the 64-bit reals. -/
def cap : Nat := 2047 * 2 ^ 52
def rq (A B : Nat) : Nat := min (((A / B).log2 - 52) * 2 ^ 52 + rhe A (B * 2 ^ ((A / B).log2 - 52))) cap

theorem rq_mul (A B c : Nat) (hc : 0 < c) : rq (A * c) (B * c) = rq A B := by
  unfold rq
  rw [Nat.mul_div_mul_right _ _ hc, Nat.mul_right_comm B c, rhe_mul _ _ _ hc]

theorem rq_zero (B : Nat) : rq 0 B = 0 := by
  unfold rq rhe; simp

theorem lt_log2 (n : Nat) : n < 2 ^ (n.log2 + 1) := Nat.lt_log2_self
theorem log2_le (n : Nat) (h : n ≠ 0) : 2 ^ n.log2 ≤ n := Nat.log2_self_le h
theorem log2_mono {a b : Nat} (h : a ≤ b) : a.log2 ≤ b.log2 := by
  rcases Nat.eq_zero_or_pos a with rfl | ha
  · simp
  · rw [Nat.le_log2 (by omega)]; exact Nat.le_trans (Nat.log2_self_le (by omega)) h
theorem log2_eq {n k : Nat} (h1 : 2 ^ k ≤ n) (h2 : n < 2 ^ (k + 1)) : n.log2 = k := by
  have hn : n ≠ 0 := by have := Nat.two_pow_pos k; omega
  have a := (Nat.le_log2 hn).2 h1
  have b := (Nat.log2_lt hn).2 h2
  omega

/-- The significand lies in its bounds: at most 2^53; at least 2^52 where the exponent is not the least. -/
theorem kept_le (A B : Nat) : rhe A (B * 2 ^ ((A / B).log2 - 52)) ≤ 2 ^ 53 := by
  have h := (rhe_le A (B * 2 ^ ((A / B).log2 - 52))).2
  have h2 : A / (B * 2 ^ ((A / B).log2 - 52)) < 2 ^ 53 := by
    rw [← Nat.div_div_eq_div_mul]
    generalize A / B = x
    apply Nat.div_lt_of_lt_mul
    rw [← Nat.pow_add]
    exact Nat.lt_of_lt_of_le (lt_log2 x) (Nat.pow_le_pow_right (by omega) (by omega))
  omega

theorem kept_ge (A B : Nat) (hk : 0 < (A / B).log2 - 52) : 2 ^ 52 ≤ rhe A (B * 2 ^ ((A / B).log2 - 52)) := by
  have h := (rhe_le A (B * 2 ^ ((A / B).log2 - 52))).1
  refine Nat.le_trans ?_ h
  rw [← Nat.div_div_eq_div_mul]
  generalize hx : A / B = x at *
  have hx0 : x ≠ 0 := by rintro rfl; simp at hk
  rw [Nat.le_div_iff_mul_le (Nat.two_pow_pos _), ← Nat.pow_add]
  have : 52 + (x.log2 - 52) = x.log2 := by omega
  rw [this]
  exact log2_le x hx0

theorem min_le_min_right (a b c : Nat) (h : a ≤ b) : min a c ≤ min b c := by omega

theorem rq_mono {A B A' B' : Nat} (hB : 0 < B) (hB' : 0 < B') (h : A * B' ≤ A' * B) : rq A B ≤ rq A' B' := by
  have hq : A / B ≤ A' / B' := by
    rw [Nat.le_div_iff_mul_le hB']
    have := Nat.div_mul_le_self A B
    have h3 : A / B * B * B' ≤ A' * B := Nat.le_trans (Nat.mul_le_mul_right _ this) h
    rw [Nat.mul_right_comm] at h3
    exact Nat.le_of_mul_le_mul_right h3 hB
  have hl := log2_mono hq
  unfold rq
  have k1 := kept_le A B
  have k2 := kept_ge A' B'
  generalize hk : (A / B).log2 - 52 = k at *
  generalize hk' : (A' / B').log2 - 52 = k' at *
  have hkk : k ≤ k' := by omega
  have key : k * 2 ^ 52 + rhe A (B * 2 ^ k) ≤ k' * 2 ^ 52 + rhe A' (B' * 2 ^ k') := by
    rcases Nat.lt_or_ge k k' with hlt | hge
    · have := k2 (by omega)
      have : (k + 1) * 2 ^ 52 ≤ k' * 2 ^ 52 := Nat.mul_le_mul_right _ hlt
      omega
    · have : k = k' := by omega
      subst this
      have : rhe A (B * 2 ^ k) ≤ rhe A' (B' * 2 ^ k) := by
        apply rhe_mono (Nat.mul_pos hB (Nat.two_pow_pos _)) (Nat.mul_pos hB' (Nat.two_pow_pos _))
        rw [← Nat.mul_assoc, ← Nat.mul_assoc]
        exact Nat.mul_le_mul_right _ h
      omega
  exact min_le_min_right _ _ _ key

/-- What a rung stands for, in units of the least real. -/
def val (r : Nat) : Nat := if r < 2 ^ 52 then r else (2 ^ 52 + r % 2 ^ 52) * 2 ^ (r / 2 ^ 52 - 1)

theorem val_log2 (r : Nat) (h : 2 ^ 52 ≤ r) : (val r).log2 = 52 + (r / 2 ^ 52 - 1) := by
  unfold val
  rw [if_neg (by omega)]
  have hm : r % 2 ^ 52 < 2 ^ 52 := Nat.mod_lt _ (by omega)
  apply log2_eq
  · rw [Nat.pow_add]; exact Nat.mul_le_mul_right _ (by omega)
  · rw [show 52 + (r / 2 ^ 52 - 1) + 1 = 53 + (r / 2 ^ 52 - 1) by omega, Nat.pow_add]
    exact (Nat.mul_lt_mul_right (Nat.two_pow_pos _)).2 (by omega)

theorem rq_val (r : Nat) : rq (val r) 1 = min r cap := by
  unfold rq
  rw [Nat.div_one, Nat.one_mul]
  rcases Nat.lt_or_ge r (2 ^ 52) with h | h
  · have hv : val r = r := by unfold val; rw [if_pos h]
    rw [hv]
    have : r.log2 - 52 = 0 := by
      rcases Nat.eq_zero_or_pos r with rfl | h0
      · simp
      · have := (Nat.log2_lt (by omega)).2 h; omega
    rw [this]; simp [rhe_one]
  · rw [val_log2 r h]
    rw [show 52 + (r / 2 ^ 52 - 1) - 52 = r / 2 ^ 52 - 1 by omega]
    have hv : val r = (2 ^ 52 + r % 2 ^ 52) * 2 ^ (r / 2 ^ 52 - 1) := by unfold val; rw [if_neg (by omega)]
    rw [hv, rhe_exact _ _ (Nat.two_pow_pos _)]
    have h1 : 1 ≤ r / 2 ^ 52 := by omega
    have h2 := Nat.div_add_mod r (2 ^ 52)
    have h3 : (r / 2 ^ 52 - 1) * 2 ^ 52 + (2 ^ 52 + r % 2 ^ 52) = r := by omega
    rw [h3]

theorem rq_val_mul (r c : Nat) (hc : 0 < c) : rq (val r * c) c = min r cap := by
  have := rq_mul (val r) 1 c hc
  rw [Nat.one_mul] at this
  rw [this, rq_val]

theorem val_lt {r s : Nat} (h : r < s) : val r < val s := by
  rcases Nat.lt_or_ge s (2 ^ 52) with hs | hs
  · unfold val; rw [if_pos hs, if_pos (by omega)]; exact h
  · rcases Nat.lt_or_ge r (2 ^ 52) with hr | hr
    · have : val r = r := by unfold val; rw [if_pos hr]
      rw [this]
      have : 2 ^ 52 ≤ val s := by
        unfold val; rw [if_neg (by omega)]
        exact Nat.le_trans (Nat.le_add_right _ _) (Nat.le_mul_of_pos_right _ (Nat.two_pow_pos _))
      omega
    · have e1 : val r = (2 ^ 52 + r % 2 ^ 52) * 2 ^ (r / 2 ^ 52 - 1) := by unfold val; rw [if_neg (by omega)]
      have e2 : val s = (2 ^ 52 + s % 2 ^ 52) * 2 ^ (s / 2 ^ 52 - 1) := by unfold val; rw [if_neg (by omega)]
      rw [e1, e2]
      have hq : r / 2 ^ 52 ≤ s / 2 ^ 52 := Nat.div_le_div_right (by omega)
      rcases Nat.lt_or_ge (r / 2 ^ 52) (s / 2 ^ 52) with hlt | hge
      · have hm : r % 2 ^ 52 < 2 ^ 52 := Nat.mod_lt _ (by omega)
        have : 2 ^ (s / 2 ^ 52 - 1) = 2 ^ (s / 2 ^ 52 - 1 - 1 - (r / 2 ^ 52 - 1)) * 2 * 2 ^ (r / 2 ^ 52 - 1) := by
          rw [← Nat.pow_succ, ← Nat.pow_add]; congr 1; omega
        rw [this, ← Nat.mul_assoc]
        apply (Nat.mul_lt_mul_right (Nat.two_pow_pos _)).2
        have hp := Nat.two_pow_pos (s / 2 ^ 52 - 1 - 1 - (r / 2 ^ 52 - 1))
        have : (2 ^ 52 + s % 2 ^ 52) * 2 ≤ (2 ^ 52 + s % 2 ^ 52) * (2 ^ (s / 2 ^ 52 - 1 - 1 - (r / 2 ^ 52 - 1)) * 2) :=
          Nat.mul_le_mul_left _ (by omega)
        omega
      · have he : r / 2 ^ 52 = s / 2 ^ 52 := by omega
        rw [he]
        apply (Nat.mul_lt_mul_right (Nat.two_pow_pos _)).2
        have := Nat.div_add_mod r (2 ^ 52)
        have := Nat.div_add_mod s (2 ^ 52)
        omega

theorem val_lt_iff {r s : Nat} : val r < val s ↔ r < s := by
  constructor
  · intro h
    rcases Nat.lt_or_ge r s with h1 | h1
    · exact h1
    · rcases Nat.lt_or_ge s r with h2 | h2
      · have := val_lt h2; omega
      · have : r = s := by omega
        subst this; omega
  · exact val_lt

theorem val_inj {r s : Nat} : val r = val s ↔ r = s := by
  constructor
  · intro h
    rcases Nat.lt_trichotomy r s with h1 | h1 | h1
    · have := val_lt h1; omega
    · exact h1
    · have := val_lt h1; omega
  · rintro rfl; rfl

theorem val_zero : val 0 = 0 := by unfold val; simp
theorem val_eq_zero {r : Nat} : val r = 0 ↔ r = 0 := by
  have := @val_inj r 0
  rwa [val_zero] at this

/-- The model's cut is this rounding. -/
theorem cut_even (neg : Bool) (n drop : Nat) : Toward.even.cut neg n drop = rhe n (2 ^ drop) := by
  unfold Toward.cut
  simp only [Nat.shiftLeft_eq, Nat.one_mul]
  have bt : ∀ b : Bool, b.toNat = if b = true then 1 else 0 := by intro b; cases b <;> rfl
  rcases Nat.le_total drop (n.log2 + 2) with h | h
  · rw [Nat.min_eq_left h]
    unfold rhe
    rw [bt]
    have e : (2 * (n % 2 ^ drop) = 2 ^ drop) = (2 ^ drop = 2 * (n % 2 ^ drop)) := propext ⟨Eq.symm, Eq.symm⟩
    simp only [Bool.or_eq_true, decide_eq_true_eq, Bool.and_eq_true, beq_iff_eq, e]
  · rw [Nat.min_eq_right h]
    have h1 : n < 2 ^ (n.log2 + 1) := lt_log2 n
    have h2 : (2:Nat) ^ (n.log2 + 2) = 2 * 2 ^ (n.log2 + 1) := by rw [Nat.pow_succ, Nat.mul_comm]
    have h3 : (2:Nat) ^ (n.log2 + 2) ≤ 2 ^ drop := Nat.pow_le_pow_right (by omega) h
    unfold rhe
    rw [Nat.div_eq_of_lt (show n < 2 ^ (n.log2 + 2) by omega), Nat.mod_eq_of_lt (show n < 2 ^ (n.log2 + 2) by omega),
      Nat.div_eq_of_lt (show n < 2 ^ drop by omega), Nat.mod_eq_of_lt (show n < 2 ^ drop by omega)]
    rw [bt]
    rw [if_neg (show ¬ (2 ^ drop < 2 * n ∨ 2 * n = 2 ^ drop ∧ 0 % 2 = 1) by omega), if_neg]
    intro hc
    simp only [Bool.or_eq_true, decide_eq_true_eq, Bool.and_eq_true, beq_iff_eq] at hc
    omega

theorem log2_mul_pow (m k : Nat) (h : m ≠ 0) : (m * 2 ^ k).log2 = m.log2 + k := by
  apply log2_eq
  · rw [Nat.pow_add]; exact Nat.mul_le_mul_right _ (log2_le m h)
  · rw [show m.log2 + k + 1 = (m.log2 + 1) + k by omega, Nat.pow_add]
    exact (Nat.mul_lt_mul_right (Nat.two_pow_pos _)).2 (lt_log2 m)

theorem log2_div_pow (x b : Nat) : (x / 2 ^ b).log2 - 52 = x.log2 - (b + 52) := by
  rcases Nat.lt_or_ge x (2 ^ b) with h | h
  · rw [Nat.div_eq_of_lt h]
    simp
    rcases Nat.eq_zero_or_pos x with rfl | h0
    · simp
    · have := (Nat.log2_lt (by omega)).2 h; omega
  · have hx : x ≠ 0 := by have := Nat.two_pow_pos b; omega
    have hb := (Nat.le_log2 hx).2 h
    have : (x / 2 ^ b).log2 = x.log2 - b := by
      apply log2_eq
      · rw [Nat.le_div_iff_mul_le (Nat.two_pow_pos _), ← Nat.pow_add, show x.log2 - b + b = x.log2 by omega]; exact log2_le x hx
      · apply Nat.div_lt_of_lt_mul
        rw [← Nat.pow_add, show b + (x.log2 - b + 1) = x.log2 + 1 by omega]; exact lt_log2 x
    omega

theorem infRung_cap : double.infRung = cap := by decide

/-- THE MODEL's nearest, at a number that is m * 2^p, p not below -1074 - b. -/
theorem nearest_rq (neg : Bool) (m : Nat) (p : Int) (b : Nat) (hp : -1074 - (b : Int) ≤ p) :
    double.nearest neg m p = double.word neg (rq (m * 2 ^ (p + 1074 + b).toNat) (2 ^ b)) := by
  unfold Format.nearest
  split
  · next h => subst h; rw [Nat.zero_mul, rq_zero]
  · next h =>
    have hl : double.leastPlace = -1074 := by decide
    have hf : (double.fractionBits : Int) = 52 := rfl
    have hbin : double.binade = 2 ^ 52 := rfl
    simp only [hl, hf, hbin, infRung_cap]
    unfold rq
    generalize cap = CC
    generalize (2:Nat) ^ 52 = TT
    rw [log2_div_pow, log2_mul_pow _ _ h, cut_even, Nat.shiftLeft_eq, ← Nat.pow_add]
    obtain ⟨t, ht⟩ : ∃ t : Nat, (t : Int) = p + 1074 + b := ⟨(p + 1074 + b).toNat, by omega⟩
    rw [← ht, Int.toNat_natCast]
    generalize hL : m.log2 = L at *
    have hlast : (max (p + ↑L - 52) (-1074) - -1074).toNat = L + t - (b + 52) := by omega
    rw [hlast]
    suffices h0 : rhe (m * 2 ^ (p - max (p + ↑L - 52) (-1074)).toNat) (2 ^ (max (p + ↑L - 52) (-1074) - p).toNat) = rhe (m * 2 ^ t) (2 ^ (b + (L + t - (b + 52)))) by rw [h0]
    generalize hk : L + t - (b + 52) = k at *
    have e1 : (p - max (p + ↑L - 52) (-1074)).toNat = t - (b + k) := by omega
    have e2 : (max (p + ↑L - 52) (-1074) - p).toNat = (b + k) - t := by omega
    rw [e1, e2]
    rcases Nat.le_total (b + k) t with h1 | h1
    · rw [Nat.sub_eq_zero_of_le h1, Nat.pow_zero]
      have := rhe_mul (m * 2 ^ (t - (b + k))) 1 (2 ^ (b + k)) (Nat.two_pow_pos _)
      rw [← this, Nat.one_mul, Nat.mul_assoc, ← Nat.pow_add, show t - (b + k) + (b + k) = t by omega]
    · rw [Nat.sub_eq_zero_of_le h1, Nat.pow_zero, Nat.mul_one]
      have := rhe_mul m (2 ^ (b + k - t)) (2 ^ t) (Nat.two_pow_pos _)
      rw [← this, ← Nat.pow_add, show b + k - t + t = b + k by omega]

def e74 : Nat := 1074
theorem e74_eq : e74 = 1074 := rfl
def KK : Nat := 2 ^ e74
theorem KK_eq : KK = 2 ^ e74 := rfl
theorem KK_pos : 0 < KK := Nat.two_pow_pos _

/-- A number with its remainder told by one digit alone rounds as the number. -/
theorem rq_sticky (N D a b : Nat) (hD : 0 < D) (hq : 53 ≤ (N / D).log2) :
    rq (N * 2 ^ a) (D * 2 ^ b) = rq ((2 * (N / D) + (if N % D = 0 then 0 else 1)) * 2 ^ a) (2 ^ (b + 1)) := by
  have hdm := Nat.div_add_mod N D
  have hr : N % D < D := Nat.mod_lt _ hD
  have hq0 : N / D ≠ 0 := by intro h; rw [h] at hq; simp at hq
  generalize hqq : N / D = q at *
  generalize hrr : N % D = r at *
  generalize hs : (if r = 0 then 0 else 1) = s
  have hs1 : s ≤ 1 := by subst hs; split <;> omega
  -- the places
  have hlog2 : (2 * q + s).log2 = q.log2 + 1 := by
    have h1 := log2_le q hq0
    have h2 := lt_log2 q
    apply log2_eq
    · rw [Nat.pow_succ]; omega
    · rw [Nat.pow_succ]; omega
  have key : (N * 2 ^ a / (D * 2 ^ b)).log2 - 52 = q.log2 + a - (b + 52) := by
    rcases Nat.le_total a b with hab | hab
    · have e : N * 2 ^ a / (D * 2 ^ b) = q / 2 ^ (b - a) := by
        rw [show D * 2 ^ b = D * 2 ^ (b - a) * 2 ^ a by rw [Nat.mul_assoc, ← Nat.pow_add, show b - a + a = b by omega],
          Nat.mul_div_mul_right _ _ (Nat.two_pow_pos _), ← Nat.div_div_eq_div_mul, hqq]
      rw [e, log2_div_pow]
      omega
    · have e : N * 2 ^ a / (D * 2 ^ b) = N * 2 ^ (a - b) / D := by
        rw [show N * 2 ^ a = N * 2 ^ (a - b) * 2 ^ b by rw [Nat.mul_assoc, ← Nat.pow_add, show a - b + b = a by omega],
          Nat.mul_div_mul_right _ _ (Nat.two_pow_pos _)]
      rw [e]
      have : (N * 2 ^ (a - b) / D).log2 = q.log2 + (a - b) := by
        apply log2_eq
        · rw [Nat.le_div_iff_mul_le hD, Nat.pow_add]
          have h1 := log2_le q hq0
          have : 2 ^ q.log2 * D ≤ N := by
            have := Nat.mul_le_mul_right D h1
            rw [Nat.mul_comm q D] at this
            omega
          calc 2 ^ q.log2 * 2 ^ (a - b) * D = 2 ^ q.log2 * D * 2 ^ (a - b) := by rw [Nat.mul_right_comm]
            _ ≤ N * 2 ^ (a - b) := Nat.mul_le_mul_right _ this
        · apply Nat.div_lt_of_lt_mul
          rw [show q.log2 + (a - b) + 1 = (q.log2 + 1) + (a - b) by omega, Nat.pow_add, ← Nat.mul_assoc]
          apply (Nat.mul_lt_mul_right (Nat.two_pow_pos _)).2
          have h2 := lt_log2 q
          have : D * (q + 1) ≤ D * 2 ^ (q.log2 + 1) := Nat.mul_le_mul_left _ h2
          rw [Nat.mul_succ] at this
          omega
      rw [this]; omega
  have key2 : ((2 * q + s) * 2 ^ a / 2 ^ (b + 1)).log2 - 52 = q.log2 + a - (b + 52) := by
    rw [log2_div_pow, log2_mul_pow _ _ (by omega), hlog2]
    omega
  unfold rq
  rw [key, key2]
  congr 2
  generalize hk : q.log2 + a - (b + 52) = k at *
  obtain ⟨g, hg⟩ : ∃ g, b + k = a + 1 + g := ⟨b + k - (a + 1), by omega⟩
  have e1 : rhe (N * 2 ^ a) (D * 2 ^ b * 2 ^ k) = rhe N (D * 2 ^ (g + 1)) := by
    rw [Nat.mul_assoc, ← Nat.pow_add, hg, show a + 1 + g = g + 1 + a by omega, Nat.pow_add 2 (g + 1) a, ← Nat.mul_assoc, rhe_mul _ _ _ (Nat.two_pow_pos _)]
  have e2 : rhe ((2 * q + s) * 2 ^ a) (2 ^ (b + 1) * 2 ^ k) = rhe (2 * q + s) (2 ^ (g + 2)) := by
    rw [← Nat.pow_add, show b + 1 + k = g + 2 + a by omega, Nat.pow_add 2 (g + 2) a, rhe_mul _ _ _ (Nat.two_pow_pos _)]
  rw [e1, e2]
  -- one floor, one side of the half
  have hG : (2:Nat) ^ (g + 1) = 2 * 2 ^ g := by rw [Nat.pow_succ, Nat.mul_comm]
  have hG2 : (2:Nat) ^ (g + 2) = 4 * 2 ^ g := by rw [Nat.pow_succ, Nat.pow_succ]; omega
  have hGp := Nat.two_pow_pos g
  have f1 : N / (D * 2 ^ (g + 1)) = q / 2 ^ (g + 1) := by rw [← Nat.div_div_eq_div_mul, hqq]
  have f2 : (2 * q + s) / 2 ^ (g + 2) = q / 2 ^ (g + 1) := by
    rw [show (2:Nat) ^ (g + 2) = 2 * 2 ^ (g + 1) by rw [Nat.pow_succ, Nat.mul_comm], ← Nat.div_div_eq_div_mul]
    congr 1; omega
  have q1 := Nat.div_add_mod q (2 ^ (g + 1))
  have q2 : q % 2 ^ (g + 1) < 2 ^ (g + 1) := Nat.mod_lt _ (Nat.two_pow_pos _)
  have m1 : N % (D * 2 ^ (g + 1)) = D * (q % 2 ^ (g + 1)) + r := by
    rw [Nat.mod_mul, hqq, hrr]; omega
  have m2 : (2 * q + s) % 2 ^ (g + 2) = 2 * (q % 2 ^ (g + 1)) + s := by
    rw [show (2:Nat) ^ (g + 2) = 2 * 2 ^ (g + 1) by rw [Nat.pow_succ, Nat.mul_comm], Nat.mod_mul]
    have a1 : (2 * q + s) % 2 = s := by omega
    have a2 : (2 * q + s) / 2 = q := by omega
    rw [a1, a2]; omega
  unfold rhe
  rw [f1, f2, m1, m2]
  generalize q / 2 ^ (g + 1) = f
  generalize q % 2 ^ (g + 1) = t at *
  congr 1
  rw [hG, hG2]
  generalize 2 ^ g = G at *
  -- compare t with G
  rcases Nat.lt_trichotomy t G with ht | ht | ht
  · -- below
    have c1 : D * (t + 1) ≤ D * G := Nat.mul_le_mul_left _ ht
    rw [Nat.mul_succ] at c1
    have c2 : D * (2 * G) = 2 * (D * G) := by rw [Nat.mul_left_comm]
    rw [c2, if_neg (by omega), if_neg (by omega)]
  · subst ht
    have c2 : D * (2 * t) = 2 * (D * t) := by rw [Nat.mul_left_comm]
    rw [c2]
    by_cases hr0 : r = 0
    · subst hr0
      have : s = 0 := by rw [← hs]; simp
      subst this
      congr 1
      apply propext
      omega
    · have : s = 1 := by rw [← hs, if_neg hr0]
      subst this
      rw [if_pos (by omega), if_pos (by omega)]
  · have c1 : D * (G + 1) ≤ D * t := Nat.mul_le_mul_left _ ht
    rw [Nat.mul_succ] at c1
    have c2 : D * (2 * G) = 2 * (D * G) := by rw [Nat.mul_left_comm]
    rw [c2, if_pos (by omega), if_pos (by omega)]

end FloM
