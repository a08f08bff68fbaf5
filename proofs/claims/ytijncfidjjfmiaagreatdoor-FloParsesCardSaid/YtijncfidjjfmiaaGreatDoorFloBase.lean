/- The rounding of exact numbers to 64-bit reals, as plain arithmetic on natural numbers: what the model's 'nearest' is. What the model's operations on the 64 bits of reals are, in whole numbers of the least real. The order of the 64-bit reals, and that rounding keeps it: plain. Whole numbers out of 64-bit reals, and back: plain. The laws of the order, of sums and products, of ints: plain. Bits of a 64-bit word: the sign turned, and left out. The reference's order of bits, plain. Amounts as digits of base 65536, the lowest first: plain. The reference's rounding, and its sums, products, quotients, as plain numbers. -/
import Ieee.Arith
import Derived.Laws.BitsAllLaws
import Derived.Laws.BitsLemmas
namespace FloM
open Ieee

/-- n / d to the nearest whole number, the even one of two. -/
def rhe (n d : Nat) : Nat := n / d + (if d < 2 * (n % d) ∨ (2 * (n % d) = d ∧ n / d % 2 = 1) then 1 else 0)

theorem rhe_le (n d : Nat) : n / d ≤ rhe n d ∧ rhe n d ≤ n / d + 1 := by
  unfold rhe; split <;> omega

theorem rhe_mul (n d c : Nat) (hc : 0 < c) : rhe (n * c) (d * c) = rhe n d := by
  unfold rhe
  rw [Nat.mul_div_mul_right _ _ hc, Nat.mul_mod_mul_right]
  have e1 : (d * c < 2 * (n % d * c)) ↔ d < 2 * (n % d) := by
    rw [← Nat.mul_assoc]; exact Nat.mul_lt_mul_right hc
  have e2 : (2 * (n % d * c) = d * c) ↔ 2 * (n % d) = d := by
    rw [← Nat.mul_assoc]; exact Nat.mul_left_inj (by omega)
  simp only [e1, e2]

theorem rhe_one (n : Nat) : rhe n 1 = n := by
  unfold rhe; simp [Nat.mod_one]

theorem rhe_exact (k d : Nat) (hd : 0 < d) : rhe (k * d) d = k := by
  have := rhe_mul k 1 d hd
  rw [Nat.one_mul] at this
  rw [this, rhe_one]

/-- Monotone, across denominators. -/
theorem rhe_mono {a b a' b' : Nat} (hb : 0 < b) (hb' : 0 < b') (h : a * b' ≤ a' * b) : rhe a b ≤ rhe a' b' := by
  -- to a common denominator
  have e1 : rhe a b = rhe (a * b') (b * b') := (rhe_mul a b b' hb').symm
  have e2 : rhe a' b' = rhe (a' * b) (b * b') := by rw [Nat.mul_comm b b']; exact (rhe_mul a' b' b hb).symm
  rw [e1, e2]
  have hd : 0 < b * b' := Nat.mul_pos hb hb'
  generalize a * b' = x at *
  generalize a' * b = y at *
  generalize b * b' = d at *
  have q1 : x / d ≤ y / d := Nat.div_le_div_right h
  rcases Nat.lt_or_ge (x / d) (y / d) with hlt | hge
  · have := (rhe_le x d).2; have := (rhe_le y d).1; omega
  · have hq : x / d = y / d := by omega
    have m1 := Nat.div_add_mod x d
    have m2 := Nat.div_add_mod y d
    rw [hq] at m1
    have hm : x % d ≤ y % d := by omega
    unfold rhe
    rw [hq]
    split <;> split <;> omega

/-- A/B (in units of the least real) rounded to a rung of the 64-bit reals. -/
def cap : Nat := 2047 * 2 ^ 52
def rq (A B : Nat) : Nat := min (((A / B).log2 - 52) * 2 ^ 52 + rhe A (B * 2 ^ ((A / B).log2 - 52))) cap

theorem rq_mul (A B c : Nat) (hc : 0 < c) : rq (A * c) (B * c) = rq A B := by
  unfold rq
  rw [Nat.mul_div_mul_right _ _ hc, Nat.mul_right_comm B c, rhe_mul _ _ _ hc]

theorem rq_zero (B : Nat) : rq 0 B = 0 := by
  unfold rq rhe; simp

theorem lt_log2 (n : Nat) : n < 2 ^ (n.log2 + 1) := Nat.lt_log2_self
theorem log2_le (n : Nat) (h : n ≠ 0) : 2 ^ n.log2 ≤ n := Nat.log2_self_le h
theorem log2_mono {a b : Nat} (h : a ≤ b) : a.log2 ≤ b.log2 := by
  rcases Nat.eq_zero_or_pos a with rfl | ha
  · simp
  · rw [Nat.le_log2 (by omega)]; exact Nat.le_trans (Nat.log2_self_le (by omega)) h
theorem log2_eq {n k : Nat} (h1 : 2 ^ k ≤ n) (h2 : n < 2 ^ (k + 1)) : n.log2 = k := by
  have hn : n ≠ 0 := by have := Nat.two_pow_pos k; omega
  have a := (Nat.le_log2 hn).2 h1
  have b := (Nat.log2_lt hn).2 h2
  omega

/-- The significand lies in its bounds: at most 2^53; at least 2^52 where the exponent is not the least. -/
theorem kept_le (A B : Nat) : rhe A (B * 2 ^ ((A / B).log2 - 52)) ≤ 2 ^ 53 := by
  have h := (rhe_le A (B * 2 ^ ((A / B).log2 - 52))).2
  have h2 : A / (B * 2 ^ ((A / B).log2 - 52)) < 2 ^ 53 := by
    rw [← Nat.div_div_eq_div_mul]
    generalize A / B = x
    apply Nat.div_lt_of_lt_mul
    rw [← Nat.pow_add]
    exact Nat.lt_of_lt_of_le (lt_log2 x) (Nat.pow_le_pow_right (by omega) (by omega))
  omega

theorem kept_ge (A B : Nat) (hk : 0 < (A / B).log2 - 52) : 2 ^ 52 ≤ rhe A (B * 2 ^ ((A / B).log2 - 52)) := by
  have h := (rhe_le A (B * 2 ^ ((A / B).log2 - 52))).1
  refine Nat.le_trans ?_ h
  rw [← Nat.div_div_eq_div_mul]
  generalize hx : A / B = x at *
  have hx0 : x ≠ 0 := by rintro rfl; simp at hk
  rw [Nat.le_div_iff_mul_le (Nat.two_pow_pos _), ← Nat.pow_add]
  have : 52 + (x.log2 - 52) = x.log2 := by omega
  rw [this]
  exact log2_le x hx0

theorem min_le_min_right (a b c : Nat) (h : a ≤ b) : min a c ≤ min b c := by omega

theorem rq_mono {A B A' B' : Nat} (hB : 0 < B) (hB' : 0 < B') (h : A * B' ≤ A' * B) : rq A B ≤ rq A' B' := by
  have hq : A / B ≤ A' / B' := by
    rw [Nat.le_div_iff_mul_le hB']
    have := Nat.div_mul_le_self A B
    have h3 : A / B * B * B' ≤ A' * B := Nat.le_trans (Nat.mul_le_mul_right _ this) h
    rw [Nat.mul_right_comm] at h3
    exact Nat.le_of_mul_le_mul_right h3 hB
  have hl := log2_mono hq
  unfold rq
  have k1 := kept_le A B
  have k2 := kept_ge A' B'
  generalize hk : (A / B).log2 - 52 = k at *
  generalize hk' : (A' / B').log2 - 52 = k' at *
  have hkk : k ≤ k' := by omega
  have key : k * 2 ^ 52 + rhe A (B * 2 ^ k) ≤ k' * 2 ^ 52 + rhe A' (B' * 2 ^ k') := by
    rcases Nat.lt_or_ge k k' with hlt | hge
    · have := k2 (by omega)
      have : (k + 1) * 2 ^ 52 ≤ k' * 2 ^ 52 := Nat.mul_le_mul_right _ hlt
      omega
    · have : k = k' := by omega
      subst this
      have : rhe A (B * 2 ^ k) ≤ rhe A' (B' * 2 ^ k) := by
        apply rhe_mono (Nat.mul_pos hB (Nat.two_pow_pos _)) (Nat.mul_pos hB' (Nat.two_pow_pos _))
        rw [← Nat.mul_assoc, ← Nat.mul_assoc]
        exact Nat.mul_le_mul_right _ h
      omega
  exact min_le_min_right _ _ _ key

/-- What a rung stands for, in units of the least real. -/
def val (r : Nat) : Nat := if r < 2 ^ 52 then r else (2 ^ 52 + r % 2 ^ 52) * 2 ^ (r / 2 ^ 52 - 1)

theorem val_log2 (r : Nat) (h : 2 ^ 52 ≤ r) : (val r).log2 = 52 + (r / 2 ^ 52 - 1) := by
  unfold val
  rw [if_neg (by omega)]
  have hm : r % 2 ^ 52 < 2 ^ 52 := Nat.mod_lt _ (by omega)
  apply log2_eq
  · rw [Nat.pow_add]; exact Nat.mul_le_mul_right _ (by omega)
  · rw [show 52 + (r / 2 ^ 52 - 1) + 1 = 53 + (r / 2 ^ 52 - 1) by omega, Nat.pow_add]
    exact (Nat.mul_lt_mul_right (Nat.two_pow_pos _)).2 (by omega)

theorem rq_val (r : Nat) : rq (val r) 1 = min r cap := by
  unfold rq
  rw [Nat.div_one, Nat.one_mul]
  rcases Nat.lt_or_ge r (2 ^ 52) with h | h
  · have hv : val r = r := by unfold val; rw [if_pos h]
    rw [hv]
    have : r.log2 - 52 = 0 := by
      rcases Nat.eq_zero_or_pos r with rfl | h0
      · simp
      · have := (Nat.log2_lt (by omega)).2 h; omega
    rw [this]; simp [rhe_one]
  · rw [val_log2 r h]
    rw [show 52 + (r / 2 ^ 52 - 1) - 52 = r / 2 ^ 52 - 1 by omega]
    have hv : val r = (2 ^ 52 + r % 2 ^ 52) * 2 ^ (r / 2 ^ 52 - 1) := by unfold val; rw [if_neg (by omega)]
    rw [hv, rhe_exact _ _ (Nat.two_pow_pos _)]
    have h1 : 1 ≤ r / 2 ^ 52 := by omega
    have h2 := Nat.div_add_mod r (2 ^ 52)
    have h3 : (r / 2 ^ 52 - 1) * 2 ^ 52 + (2 ^ 52 + r % 2 ^ 52) = r := by omega
    rw [h3]

theorem rq_val_mul (r c : Nat) (hc : 0 < c) : rq (val r * c) c = min r cap := by
  have := rq_mul (val r) 1 c hc
  rw [Nat.one_mul] at this
  rw [this, rq_val]

theorem val_lt {r s : Nat} (h : r < s) : val r < val s := by
  rcases Nat.lt_or_ge s (2 ^ 52) with hs | hs
  · unfold val; rw [if_pos hs, if_pos (by omega)]; exact h
  · rcases Nat.lt_or_ge r (2 ^ 52) with hr | hr
    · have : val r = r := by unfold val; rw [if_pos hr]
      rw [this]
      have : 2 ^ 52 ≤ val s := by
        unfold val; rw [if_neg (by omega)]
        exact Nat.le_trans (Nat.le_add_right _ _) (Nat.le_mul_of_pos_right _ (Nat.two_pow_pos _))
      omega
    · have e1 : val r = (2 ^ 52 + r % 2 ^ 52) * 2 ^ (r / 2 ^ 52 - 1) := by unfold val; rw [if_neg (by omega)]
      have e2 : val s = (2 ^ 52 + s % 2 ^ 52) * 2 ^ (s / 2 ^ 52 - 1) := by unfold val; rw [if_neg (by omega)]
      rw [e1, e2]
      have hq : r / 2 ^ 52 ≤ s / 2 ^ 52 := Nat.div_le_div_right (by omega)
      rcases Nat.lt_or_ge (r / 2 ^ 52) (s / 2 ^ 52) with hlt | hge
      · have hm : r % 2 ^ 52 < 2 ^ 52 := Nat.mod_lt _ (by omega)
        have : 2 ^ (s / 2 ^ 52 - 1) = 2 ^ (s / 2 ^ 52 - 1 - 1 - (r / 2 ^ 52 - 1)) * 2 * 2 ^ (r / 2 ^ 52 - 1) := by
          rw [← Nat.pow_succ, ← Nat.pow_add]; congr 1; omega
        rw [this, ← Nat.mul_assoc]
        apply (Nat.mul_lt_mul_right (Nat.two_pow_pos _)).2
        have hp := Nat.two_pow_pos (s / 2 ^ 52 - 1 - 1 - (r / 2 ^ 52 - 1))
        have : (2 ^ 52 + s % 2 ^ 52) * 2 ≤ (2 ^ 52 + s % 2 ^ 52) * (2 ^ (s / 2 ^ 52 - 1 - 1 - (r / 2 ^ 52 - 1)) * 2) :=
          Nat.mul_le_mul_left _ (by omega)
        omega
      · have he : r / 2 ^ 52 = s / 2 ^ 52 := by omega
        rw [he]
        apply (Nat.mul_lt_mul_right (Nat.two_pow_pos _)).2
        have := Nat.div_add_mod r (2 ^ 52)
        have := Nat.div_add_mod s (2 ^ 52)
        omega

theorem val_lt_iff {r s : Nat} : val r < val s ↔ r < s := by
  constructor
  · intro h
    rcases Nat.lt_or_ge r s with h1 | h1
    · exact h1
    · rcases Nat.lt_or_ge s r with h2 | h2
      · have := val_lt h2; omega
      · have : r = s := by omega
        subst this; omega
  · exact val_lt

theorem val_inj {r s : Nat} : val r = val s ↔ r = s := by
  constructor
  · intro h
    rcases Nat.lt_trichotomy r s with h1 | h1 | h1
    · have := val_lt h1; omega
    · exact h1
    · have := val_lt h1; omega
  · rintro rfl; rfl

theorem val_zero : val 0 = 0 := by unfold val; simp
theorem val_eq_zero {r : Nat} : val r = 0 ↔ r = 0 := by
  have := @val_inj r 0
  rwa [val_zero] at this

/-- The model's cut is this rounding. -/
theorem cut_even (neg : Bool) (n drop : Nat) : Toward.even.cut neg n drop = rhe n (2 ^ drop) := by
  unfold Toward.cut
  simp only [Nat.shiftLeft_eq, Nat.one_mul]
  have bt : ∀ b : Bool, b.toNat = if b = true then 1 else 0 := by intro b; cases b <;> rfl
  rcases Nat.le_total drop (n.log2 + 2) with h | h
  · rw [Nat.min_eq_left h]
    unfold rhe
    rw [bt]
    have e : (2 * (n % 2 ^ drop) = 2 ^ drop) = (2 ^ drop = 2 * (n % 2 ^ drop)) := propext ⟨Eq.symm, Eq.symm⟩
    simp only [Bool.or_eq_true, decide_eq_true_eq, Bool.and_eq_true, beq_iff_eq, e]
  · rw [Nat.min_eq_right h]
    have h1 : n < 2 ^ (n.log2 + 1) := lt_log2 n
    have h2 : (2:Nat) ^ (n.log2 + 2) = 2 * 2 ^ (n.log2 + 1) := by rw [Nat.pow_succ, Nat.mul_comm]
    have h3 : (2:Nat) ^ (n.log2 + 2) ≤ 2 ^ drop := Nat.pow_le_pow_right (by omega) h
    unfold rhe
    rw [Nat.div_eq_of_lt (show n < 2 ^ (n.log2 + 2) by omega), Nat.mod_eq_of_lt (show n < 2 ^ (n.log2 + 2) by omega),
      Nat.div_eq_of_lt (show n < 2 ^ drop by omega), Nat.mod_eq_of_lt (show n < 2 ^ drop by omega)]
    rw [bt]
    rw [if_neg (show ¬ (2 ^ drop < 2 * n ∨ 2 * n = 2 ^ drop ∧ 0 % 2 = 1) by omega), if_neg]
    intro hc
    simp only [Bool.or_eq_true, decide_eq_true_eq, Bool.and_eq_true, beq_iff_eq] at hc
    omega

theorem log2_mul_pow (m k : Nat) (h : m ≠ 0) : (m * 2 ^ k).log2 = m.log2 + k := by
  apply log2_eq
  · rw [Nat.pow_add]; exact Nat.mul_le_mul_right _ (log2_le m h)
  · rw [show m.log2 + k + 1 = (m.log2 + 1) + k by omega, Nat.pow_add]
    exact (Nat.mul_lt_mul_right (Nat.two_pow_pos _)).2 (lt_log2 m)

theorem log2_div_pow (x b : Nat) : (x / 2 ^ b).log2 - 52 = x.log2 - (b + 52) := by
  rcases Nat.lt_or_ge x (2 ^ b) with h | h
  · rw [Nat.div_eq_of_lt h]
    simp
    rcases Nat.eq_zero_or_pos x with rfl | h0
    · simp
    · have := (Nat.log2_lt (by omega)).2 h; omega
  · have hx : x ≠ 0 := by have := Nat.two_pow_pos b; omega
    have hb := (Nat.le_log2 hx).2 h
    have : (x / 2 ^ b).log2 = x.log2 - b := by
      apply log2_eq
      · rw [Nat.le_div_iff_mul_le (Nat.two_pow_pos _), ← Nat.pow_add, show x.log2 - b + b = x.log2 by omega]; exact log2_le x hx
      · apply Nat.div_lt_of_lt_mul
        rw [← Nat.pow_add, show b + (x.log2 - b + 1) = x.log2 + 1 by omega]; exact lt_log2 x
    omega

theorem infRung_cap : double.infRung = cap := by decide

/-- THE MODEL's nearest, at a number that is m * 2^p, p not below -1074 - b. -/
theorem nearest_rq (neg : Bool) (m : Nat) (p : Int) (b : Nat) (hp : -1074 - (b : Int) ≤ p) :
    double.nearest neg m p = double.word neg (rq (m * 2 ^ (p + 1074 + b).toNat) (2 ^ b)) := by
  unfold Format.nearest
  split
  · next h => subst h; rw [Nat.zero_mul, rq_zero]
  · next h =>
    have hl : double.leastPlace = -1074 := by decide
    have hf : (double.fractionBits : Int) = 52 := rfl
    have hbin : double.binade = 2 ^ 52 := rfl
    simp only [hl, hf, hbin, infRung_cap]
    unfold rq
    generalize cap = CC
    generalize (2:Nat) ^ 52 = TT
    rw [log2_div_pow, log2_mul_pow _ _ h, cut_even, Nat.shiftLeft_eq, ← Nat.pow_add]
    obtain ⟨t, ht⟩ : ∃ t : Nat, (t : Int) = p + 1074 + b := ⟨(p + 1074 + b).toNat, by omega⟩
    rw [← ht, Int.toNat_natCast]
    generalize hL : m.log2 = L at *
    have hlast : (max (p + ↑L - 52) (-1074) - -1074).toNat = L + t - (b + 52) := by omega
    rw [hlast]
    suffices h0 : rhe (m * 2 ^ (p - max (p + ↑L - 52) (-1074)).toNat) (2 ^ (max (p + ↑L - 52) (-1074) - p).toNat) = rhe (m * 2 ^ t) (2 ^ (b + (L + t - (b + 52)))) by rw [h0]
    generalize hk : L + t - (b + 52) = k at *
    have e1 : (p - max (p + ↑L - 52) (-1074)).toNat = t - (b + k) := by omega
    have e2 : (max (p + ↑L - 52) (-1074) - p).toNat = (b + k) - t := by omega
    rw [e1, e2]
    rcases Nat.le_total (b + k) t with h1 | h1
    · rw [Nat.sub_eq_zero_of_le h1, Nat.pow_zero]
      have := rhe_mul (m * 2 ^ (t - (b + k))) 1 (2 ^ (b + k)) (Nat.two_pow_pos _)
      rw [← this, Nat.one_mul, Nat.mul_assoc, ← Nat.pow_add, show t - (b + k) + (b + k) = t by omega]
    · rw [Nat.sub_eq_zero_of_le h1, Nat.pow_zero, Nat.mul_one]
      have := rhe_mul m (2 ^ (b + k - t)) (2 ^ t) (Nat.two_pow_pos _)
      rw [← this, ← Nat.pow_add, show b + k - t + t = b + k by omega]

def e74 : Nat := 1074
theorem e74_eq : e74 = 1074 := rfl
def KK : Nat := 2 ^ e74
theorem KK_eq : KK = 2 ^ e74 := rfl
theorem KK_pos : 0 < KK := Nat.two_pow_pos _

/-- A number with its remainder told by one digit alone rounds as the number. -/
theorem rq_sticky (N D a b : Nat) (hD : 0 < D) (hq : 53 ≤ (N / D).log2) :
    rq (N * 2 ^ a) (D * 2 ^ b) = rq ((2 * (N / D) + (if N % D = 0 then 0 else 1)) * 2 ^ a) (2 ^ (b + 1)) := by
  have hdm := Nat.div_add_mod N D
  have hr : N % D < D := Nat.mod_lt _ hD
  have hq0 : N / D ≠ 0 := by intro h; rw [h] at hq; simp at hq
  generalize hqq : N / D = q at *
  generalize hrr : N % D = r at *
  generalize hs : (if r = 0 then 0 else 1) = s
  have hs1 : s ≤ 1 := by subst hs; split <;> omega
  -- the places
  have hlog2 : (2 * q + s).log2 = q.log2 + 1 := by
    have h1 := log2_le q hq0
    have h2 := lt_log2 q
    apply log2_eq
    · rw [Nat.pow_succ]; omega
    · rw [Nat.pow_succ]; omega
  have key : (N * 2 ^ a / (D * 2 ^ b)).log2 - 52 = q.log2 + a - (b + 52) := by
    rcases Nat.le_total a b with hab | hab
    · have e : N * 2 ^ a / (D * 2 ^ b) = q / 2 ^ (b - a) := by
        rw [show D * 2 ^ b = D * 2 ^ (b - a) * 2 ^ a by rw [Nat.mul_assoc, ← Nat.pow_add, show b - a + a = b by omega],
          Nat.mul_div_mul_right _ _ (Nat.two_pow_pos _), ← Nat.div_div_eq_div_mul, hqq]
      rw [e, log2_div_pow]
      omega
    · have e : N * 2 ^ a / (D * 2 ^ b) = N * 2 ^ (a - b) / D := by
        rw [show N * 2 ^ a = N * 2 ^ (a - b) * 2 ^ b by rw [Nat.mul_assoc, ← Nat.pow_add, show a - b + b = a by omega],
          Nat.mul_div_mul_right _ _ (Nat.two_pow_pos _)]
      rw [e]
      have : (N * 2 ^ (a - b) / D).log2 = q.log2 + (a - b) := by
        apply log2_eq
        · rw [Nat.le_div_iff_mul_le hD, Nat.pow_add]
          have h1 := log2_le q hq0
          have : 2 ^ q.log2 * D ≤ N := by
            have := Nat.mul_le_mul_right D h1
            rw [Nat.mul_comm q D] at this
            omega
          calc 2 ^ q.log2 * 2 ^ (a - b) * D = 2 ^ q.log2 * D * 2 ^ (a - b) := by rw [Nat.mul_right_comm]
            _ ≤ N * 2 ^ (a - b) := Nat.mul_le_mul_right _ this
        · apply Nat.div_lt_of_lt_mul
          rw [show q.log2 + (a - b) + 1 = (q.log2 + 1) + (a - b) by omega, Nat.pow_add, ← Nat.mul_assoc]
          apply (Nat.mul_lt_mul_right (Nat.two_pow_pos _)).2
          have h2 := lt_log2 q
          have : D * (q + 1) ≤ D * 2 ^ (q.log2 + 1) := Nat.mul_le_mul_left _ h2
          rw [Nat.mul_succ] at this
          omega
      rw [this]; omega
  have key2 : ((2 * q + s) * 2 ^ a / 2 ^ (b + 1)).log2 - 52 = q.log2 + a - (b + 52) := by
    rw [log2_div_pow, log2_mul_pow _ _ (by omega), hlog2]
    omega
  unfold rq
  rw [key, key2]
  congr 2
  generalize hk : q.log2 + a - (b + 52) = k at *
  obtain ⟨g, hg⟩ : ∃ g, b + k = a + 1 + g := ⟨b + k - (a + 1), by omega⟩
  have e1 : rhe (N * 2 ^ a) (D * 2 ^ b * 2 ^ k) = rhe N (D * 2 ^ (g + 1)) := by
    rw [Nat.mul_assoc, ← Nat.pow_add, hg, show a + 1 + g = g + 1 + a by omega, Nat.pow_add 2 (g + 1) a, ← Nat.mul_assoc, rhe_mul _ _ _ (Nat.two_pow_pos _)]
  have e2 : rhe ((2 * q + s) * 2 ^ a) (2 ^ (b + 1) * 2 ^ k) = rhe (2 * q + s) (2 ^ (g + 2)) := by
    rw [← Nat.pow_add, show b + 1 + k = g + 2 + a by omega, Nat.pow_add 2 (g + 2) a, rhe_mul _ _ _ (Nat.two_pow_pos _)]
  rw [e1, e2]
  -- one floor, one side of the half
  have hG : (2:Nat) ^ (g + 1) = 2 * 2 ^ g := by rw [Nat.pow_succ, Nat.mul_comm]
  have hG2 : (2:Nat) ^ (g + 2) = 4 * 2 ^ g := by rw [Nat.pow_succ, Nat.pow_succ]; omega
  have hGp := Nat.two_pow_pos g
  have f1 : N / (D * 2 ^ (g + 1)) = q / 2 ^ (g + 1) := by rw [← Nat.div_div_eq_div_mul, hqq]
  have f2 : (2 * q + s) / 2 ^ (g + 2) = q / 2 ^ (g + 1) := by
    rw [show (2:Nat) ^ (g + 2) = 2 * 2 ^ (g + 1) by rw [Nat.pow_succ, Nat.mul_comm], ← Nat.div_div_eq_div_mul]
    congr 1; omega
  have q1 := Nat.div_add_mod q (2 ^ (g + 1))
  have q2 : q % 2 ^ (g + 1) < 2 ^ (g + 1) := Nat.mod_lt _ (Nat.two_pow_pos _)
  have m1 : N % (D * 2 ^ (g + 1)) = D * (q % 2 ^ (g + 1)) + r := by
    rw [Nat.mod_mul, hqq, hrr]; omega
  have m2 : (2 * q + s) % 2 ^ (g + 2) = 2 * (q % 2 ^ (g + 1)) + s := by
    rw [show (2:Nat) ^ (g + 2) = 2 * 2 ^ (g + 1) by rw [Nat.pow_succ, Nat.mul_comm], Nat.mod_mul]
    have a1 : (2 * q + s) % 2 = s := by omega
    have a2 : (2 * q + s) / 2 = q := by omega
    rw [a1, a2]; omega
  unfold rhe
  rw [f1, f2, m1, m2]
  generalize q / 2 ^ (g + 1) = f
  generalize q % 2 ^ (g + 1) = t at *
  congr 1
  rw [hG, hG2]
  generalize 2 ^ g = G at *
  -- compare t with G
  rcases Nat.lt_trichotomy t G with ht | ht | ht
  · -- below
    have c1 : D * (t + 1) ≤ D * G := Nat.mul_le_mul_left _ ht
    rw [Nat.mul_succ] at c1
    have c2 : D * (2 * G) = 2 * (D * G) := by rw [Nat.mul_left_comm]
    rw [c2, if_neg (by omega), if_neg (by omega)]
  · subst ht
    have c2 : D * (2 * t) = 2 * (D * t) := by rw [Nat.mul_left_comm]
    rw [c2]
    by_cases hr0 : r = 0
    · subst hr0
      have : s = 0 := by rw [← hs]; simp
      subst this
      congr 1
      apply propext
      omega
    · have : s = 1 := by rw [← hs, if_neg hr0]
      subst this
      rw [if_pos (by omega), if_pos (by omega)]
  · have c1 : D * (G + 1) ≤ D * t := Nat.mul_le_mul_left _ ht
    rw [Nat.mul_succ] at c1
    have c2 : D * (2 * G) = 2 * (D * G) := by rw [Nat.mul_left_comm]
    rw [c2, if_pos (by omega), if_pos (by omega)]

end FloM

namespace FloM
open Ieee

def sgn (u : Nat) : Bool := u / 2 ^ 63 % 2 == 1
def rg (u : Nat) : Nat := u % 2 ^ 63
def mg (r : Nat) : Nat := if r < 2 ^ 52 then r else 2 ^ 52 + r % 2 ^ 52
def up (r : Nat) : Nat := r / 2 ^ 52 - 1

theorem val_eq (r : Nat) : val r = mg r * 2 ^ up r := by
  unfold val mg up
  split
  · next h => rw [Nat.div_eq_of_lt h]; simp
  · rfl

theorem read_num {u : Nat} (h : rg u < cap) : double.read u = .number (sgn u) (mg (rg u)) (-1074 + (up (rg u) : Int)) := by
  unfold Format.read
  have hw : double.signWeight = 2 ^ 63 := by decide
  have hb : double.binade = 2 ^ 52 := rfl
  have hl : double.leastPlace = -1074 := by decide
  simp only [hw, hb, hl, infRung_cap]
  show (if rg u < 2 ^ 52 then _ else _) = _
  unfold mg up
  by_cases h1 : rg u < 2 ^ 52
  · rw [if_pos h1, if_pos h1, Nat.div_eq_of_lt h1]; rfl
  · rw [if_neg h1, if_neg h1]
    show (if rg u < cap then _ else _) = _
    rw [if_pos h]; rfl

theorem read_inf {u : Nat} (h : rg u = cap) : double.read u = .infinity (sgn u) := by
  unfold Format.read
  have hw : double.signWeight = 2 ^ 63 := by decide
  have hb : double.binade = 2 ^ 52 := rfl
  simp only [hw, hb, infRung_cap]
  show (if rg u < 2 ^ 52 then _ else if rg u < cap then _ else if rg u = cap then _ else _) = _
  rw [if_neg (by rw [h]; decide), if_neg (by omega), if_pos h]; rfl

theorem read_nan {u : Nat} (h : cap < rg u) : double.read u = .nan (sgn u) (rg u - cap) := by
  unfold Format.read
  have hw : double.signWeight = 2 ^ 63 := by decide
  have hb : double.binade = 2 ^ 52 := rfl
  simp only [hw, hb, infRung_cap]
  show (if rg u < 2 ^ 52 then _ else if rg u < cap then _ else if rg u = cap then _ else _) = _
  have hc : 2 ^ 52 ≤ cap := by decide
  rw [if_neg (by omega), if_neg (by omega), if_neg (by omega)]; rfl

def wd (neg : Bool) (r : Nat) : Nat := if neg then 2 ^ 63 + r else r
theorem word_wd (neg : Bool) (r : Nat) : double.word neg r = wd neg r := by
  unfold Format.word wd
  have hw : double.signWeight = 2 ^ 63 := by decide
  rw [hw]

theorem rq_le (A B : Nat) : rq A B ≤ cap := Nat.min_le_right _ _
theorem cap_lt : cap < 2 ^ 63 := by decide

theorem rg_wd (neg : Bool) (r : Nat) (h : r < 2 ^ 63) : rg (wd neg r) = r := by
  unfold rg wd; split <;> omega
theorem sgn_wd (neg : Bool) (r : Nat) (h : r < 2 ^ 63) : sgn (wd neg r) = neg := by
  unfold sgn wd
  cases neg
  · simp only [Bool.false_eq_true, if_false]
    rw [Nat.div_eq_of_lt h]; rfl
  · simp only [if_true]
    have : (2 ^ 63 + r) / 2 ^ 63 = 1 := by omega
    rw [this]; rfl
theorem wd_eq {u : Nat} (h : u < 2 ^ 64) : wd (sgn u) (rg u) = u := by
  unfold wd sgn rg
  have hd := Nat.div_add_mod u (2 ^ 63)
  have h2 : u / 2 ^ 63 < 2 := by omega
  rcases Nat.lt_or_ge (u / 2 ^ 63) 1 with h1 | h1
  · have : u / 2 ^ 63 = 0 := by omega
    rw [this]; simp; omega
  · have : u / 2 ^ 63 = 1 := by omega
    rw [this]; simp; omega
theorem wd_lt (neg : Bool) (r : Nat) (h : r < 2 ^ 63) : wd neg r < 2 ^ 64 := by
  unfold wd; split <;> omega
theorem rg_lt (u : Nat) : rg u < 2 ^ 63 := Nat.mod_lt _ (by omega)

/-- What finite bits stand for, in units of the least real. -/
def sv (u : Nat) : Int := if sgn u then -(val (rg u) : Int) else val (rg u)

/-- The number of a datum. -/
theorem signed_eq (neg : Bool) (m k : Nat) : signed neg m k = if neg then -((m * 2 ^ k : Nat) : Int) else ((m * 2 ^ k : Nat) : Int) := by
  unfold signed; rw [Nat.shiftLeft_eq]

/-- Numbers at a common base. -/
theorem sv_base (u : Nat) (base : Nat) (h : base ≤ up (rg u)) :
    sv u = signed (sgn u) (mg (rg u)) (up (rg u) - base) * (2 ^ base : Nat) := by
  unfold sv
  rw [signed_eq, val_eq]
  have : mg (rg u) * 2 ^ up (rg u) = mg (rg u) * 2 ^ (up (rg u) - base) * 2 ^ base := by
    rw [Nat.mul_assoc, ← Nat.pow_add, show up (rg u) - base + base = up (rg u) by omega]
  rw [this]
  split
  · rw [Int.neg_mul, Int.natCast_mul]
  · rw [Int.natCast_mul]

theorem add_core (s t : Bool) (m n i j : Nat) (x y : Int)
    (hx : x = signed s m (i - min i j) * (2 ^ min i j : Nat)) (hy : y = signed t n (j - min i j) * (2 ^ min i j : Nat)) :
    ((Datum.number s m (-1074 + (i : Int))).sum (.number t n (-1074 + (j : Int)))).map double.write
      = some (wd (if x + y = 0 then s && t else decide (x + y < 0)) (rq (x + y).natAbs 1)) := by
  simp only [Datum.sum, Option.map_some]
  have hb : min (-1074 + (i : Int)) (-1074 + (j : Int)) = -1074 + ((min i j : Nat) : Int) := by omega
  rw [hb]
  have e1 : (-1074 + (i : Int) - (-1074 + ((min i j : Nat) : Int))).toNat = i - min i j := by omega
  have e2 : (-1074 + (j : Int) - (-1074 + ((min i j : Nat) : Int))).toNat = j - min i j := by omega
  rw [e1, e2]
  generalize hb0 : min i j = b at *
  generalize hS : signed s m (i - b) = S at *
  generalize hT : signed t n (j - b) = T at *
  have hsum : x + y = (S + T) * ((2 ^ b : Nat) : Int) := by rw [hx, hy, Int.add_mul]
  have hp : (0 : Int) < ((2 ^ b : Nat) : Int) := by exact_mod_cast Nat.two_pow_pos b
  have hz : (x + y = 0) ↔ (S + T = 0) := by
    rw [hsum]
    constructor
    · intro h; rcases Int.mul_eq_zero.1 h with h | h
      · exact h
      · omega
    · intro h; rw [h, Int.zero_mul]
  have hn : (x + y < 0) ↔ (S + T < 0) := by
    rw [hsum]
    constructor
    · intro h
      rcases Int.lt_or_le (S + T) 0 with h1 | h1
      · exact h1
      · have := Int.mul_nonneg h1 (Int.le_of_lt hp); omega
    · intro h; exact Int.mul_neg_of_neg_of_pos h hp
  have ha : (x + y).natAbs = (S + T).natAbs * 2 ^ b := by rw [hsum, Int.natAbs_mul, Int.natAbs_natCast]
  simp only [Format.write]
  rw [nearest_rq _ _ _ 0 (by omega), word_wd]
  have e3 : (-1074 + (b : Int) + 1074 + ((0 : Nat) : Int)).toNat = b := by omega
  rw [e3, ← ha, Nat.pow_zero]
  simp only [hz, hn]

theorem add_fin {u v : Nat} (hu : rg u < cap) (hv : rg v < cap) :
    double.add u v = some (wd (if sv u + sv v = 0 then sgn u && sgn v else decide (sv u + sv v < 0)) (rq (sv u + sv v).natAbs 1)) := by
  unfold Format.add
  rw [read_num hu, read_num hv]
  exact add_core _ _ _ _ _ _ _ _ (sv_base u _ (Nat.min_le_left _ _)) (sv_base v _ (Nat.min_le_right _ _))

theorem signed_not (s : Bool) (m k : Nat) : signed (!s) m k = - signed s m k := by
  rw [signed_eq, signed_eq]; cases s <;> simp

theorem sub_fin {u v : Nat} (hu : rg u < cap) (hv : rg v < cap) :
    double.sub u v = some (wd (if sv u - sv v = 0 then sgn u && !sgn v else decide (sv u - sv v < 0)) (rq (sv u - sv v).natAbs 1)) := by
  unfold Format.sub
  rw [read_num hu, read_num hv]
  simp only [Datum.opposite]
  have := add_core (sgn u) (!sgn v) (mg (rg u)) (mg (rg v)) (up (rg u)) (up (rg v)) (sv u) (- sv v) (sv_base u _ (Nat.min_le_left _ _))
    (by rw [sv_base v _ (Nat.min_le_right (up (rg u)) _), signed_not, Int.neg_mul])
  rw [this]
  simp only [Int.sub_eq_add_neg]

theorem mul_fin {u v : Nat} (hu : rg u < cap) (hv : rg v < cap) :
    double.mul u v = some (wd (sgn u ^^ sgn v) (rq (val (rg u) * val (rg v)) KK)) := by
  unfold Format.mul
  rw [read_num hu, read_num hv]
  simp only [Datum.product, Option.map_some, Format.write]
  have h74 := e74_eq
  rw [nearest_rq _ _ _ e74 (by omega), word_wd, ← KK_eq]
  have : (-1074 + (up (rg u) : Int) + (-1074 + (up (rg v) : Int)) + 1074 + (e74 : Int)).toNat = up (rg u) + up (rg v) := by omega
  rw [this, val_eq, val_eq, Nat.pow_add]
  suffices h : mg (rg u) * mg (rg v) * (2 ^ up (rg u) * 2 ^ up (rg v)) = mg (rg u) * 2 ^ up (rg u) * (mg (rg v) * 2 ^ up (rg v)) by rw [h]
  generalize 2 ^ up (rg u) = a
  generalize 2 ^ up (rg v) = b
  rw [Nat.mul_assoc, Nat.mul_assoc]
  congr 1
  rw [Nat.mul_left_comm]

theorem rq_congr {A B A' B' : Nat} (hB : 0 < B) (hB' : 0 < B') (h : A * B' = A' * B) : rq A B = rq A' B' :=
  Nat.le_antisymm (rq_mono hB hB' (Nat.le_of_eq h)) (rq_mono hB' hB (Nat.le_of_eq h.symm))

/-- A quotient with a digit more, at whatever place that gives 54 digits. -/
theorem quot_rq (m n more : Nat) (i j : Nat) (neg : Bool) (hm : m ≠ 0) (hn : n ≠ 0) (hmore : 54 + n.log2 ≤ m.log2 + more) :
    double.nearest neg (2 * (m * 2 ^ more / n) + (m * 2 ^ more % n != 0).toNat) ((i : Int) - (j : Int) - (more : Int) - 1)
      = wd neg (rq (m * 2 ^ i * KK) (n * 2 ^ j)) := by
  have hb : (m * 2 ^ more % n != 0).toNat = if m * 2 ^ more % n = 0 then 0 else 1 := by
    by_cases h : m * 2 ^ more % n = 0 <;> simp [h]
  have hn0 : 0 < n := by omega
  rw [hb, nearest_rq _ _ _ (j + more + 1) (by omega), word_wd]
  have e : ((i : Int) - (j : Int) - (more : Int) - 1 + 1074 + ((j + more + 1 : Nat) : Int)).toNat = i + e74 := by rw [e74_eq]; omega
  rw [e, ← rq_sticky (m * 2 ^ more) n (i + e74) (j + more) hn0]
  · refine congrArg (wd neg) ?_
    apply rq_congr (Nat.mul_pos hn0 (Nat.two_pow_pos _)) (Nat.mul_pos hn0 (Nat.two_pow_pos _))
    rw [Nat.pow_add, Nat.pow_add, ← KK_eq]
    generalize 2 ^ more = a
    generalize 2 ^ i = b
    generalize 2 ^ j = c
    generalize KK = d
    simp only [Nat.mul_comm, Nat.mul_left_comm]
  · rw [Nat.le_log2]
    · rw [Nat.le_div_iff_mul_le hn0]
      have h1 := log2_le m hm
      have h2 := lt_log2 n
      calc 2 ^ 53 * n ≤ 2 ^ 53 * 2 ^ (n.log2 + 1) := Nat.mul_le_mul_left _ (Nat.le_of_lt h2)
        _ = 2 ^ (54 + n.log2) := by rw [← Nat.pow_add]; congr 1; omega
        _ ≤ 2 ^ (m.log2 + more) := Nat.pow_le_pow_right (by omega) hmore
        _ = 2 ^ m.log2 * 2 ^ more := Nat.pow_add _ _ _
        _ ≤ m * 2 ^ more := Nat.mul_le_mul_right _ h1
    · have : 0 < m * 2 ^ more / n := by
        apply Nat.div_pos _ hn0
        have h1 := log2_le m hm
        have h2 := lt_log2 n
        calc n ≤ 2 ^ (n.log2 + 1) := Nat.le_of_lt h2
          _ ≤ 2 ^ (m.log2 + more) := Nat.pow_le_pow_right (by omega) (by omega)
          _ = 2 ^ m.log2 * 2 ^ more := Nat.pow_add _ _ _
          _ ≤ m * 2 ^ more := Nat.mul_le_mul_right _ h1
      omega

theorem mg_zero {r : Nat} : mg r = 0 ↔ r = 0 := by
  unfold mg; split <;> omega

theorem rq_val0 {x c B : Nat} (h : x = 0) : rq (x * c) B = 0 := by rw [h, Nat.zero_mul, rq_zero]

theorem div_fin {u v : Nat} (hu : rg u < cap) (hv : rg v < cap) (h0 : rg v ≠ 0) :
    double.div u v = some (wd (sgn u ^^ sgn v) (rq (val (rg u) * KK) (val (rg v)))) := by
  unfold Format.div
  rw [read_num hu, read_num hv]
  have hn : mg (rg v) ≠ 0 := fun h => h0 (mg_zero.1 h)
  simp only [Datum.quotient]
  rw [if_neg hn]
  simp only [Option.map_some, Format.write]
  congr 1
  rcases Nat.eq_zero_or_pos (rg u) with hz | hz
  · have hm : mg (rg u) = 0 := mg_zero.2 hz
    rw [hm, rq_val0 (by rw [hz, val_zero])]
    simp only [Nat.shiftLeft_eq, Nat.zero_mul, Nat.zero_div, Nat.zero_mod, Nat.mul_zero, bne_self_eq_false, Bool.toNat_false, Nat.add_zero, Format.nearest, word_wd, if_true]
  · have hm : mg (rg u) ≠ 0 := fun h => by have := mg_zero.1 h; omega
    have hf : double.fractionBits + 2 = 54 := rfl
    rw [hf, Nat.shiftLeft_eq, val_eq, val_eq]
    have := quot_rq (mg (rg u)) (mg (rg v)) (54 + (mg (rg v)).log2 - (mg (rg u)).log2) (up (rg u)) (up (rg v)) (sgn u ^^ sgn v) hm hn (by omega)
    rw [← this]
    congr 1
    omega

theorem compare_mul (x y : Int) (c : Nat) (hc : 0 < c) : compare (x * (c : Int)) (y * (c : Int)) = compare x y := by
  have hp : (0 : Int) < (c : Int) := by exact_mod_cast hc
  rcases Int.lt_trichotomy x y with h | h | h
  · rw [Int.compare_eq_lt.2 h, Int.compare_eq_lt.2 (Int.mul_lt_mul_of_pos_right h hp)]
  · subst h; simp
  · rw [Int.compare_eq_gt.2 h, Int.compare_eq_gt.2 (Int.mul_lt_mul_of_pos_right h hp)]

theorem order_fin {u v : Nat} (hu : rg u < cap) (hv : rg v < cap) : double.order u v = some (compare (sv u) (sv v)) := by
  unfold Format.order
  rw [read_num hu, read_num hv]
  simp only [Datum.order]
  congr 1
  have hb : min (-1074 + (up (rg u) : Int)) (-1074 + (up (rg v) : Int)) = -1074 + ((min (up (rg u)) (up (rg v)) : Nat) : Int) := by omega
  rw [hb]
  have e1 : (-1074 + (up (rg u) : Int) - (-1074 + ((min (up (rg u)) (up (rg v)) : Nat) : Int))).toNat = up (rg u) - min (up (rg u)) (up (rg v)) := by omega
  have e2 : (-1074 + (up (rg v) : Int) - (-1074 + ((min (up (rg u)) (up (rg v)) : Nat) : Int))).toNat = up (rg v) - min (up (rg u)) (up (rg v)) := by omega
  rw [e1, e2, sv_base u _ (Nat.min_le_left _ (up (rg v))), sv_base v _ (Nat.min_le_right (up (rg u)) _), compare_mul _ _ _ (Nat.two_pow_pos _)]

end FloM

namespace FloM
open Ieee

theorem cap_le (r : Nat) (h : r ≤ cap) : val r ≤ val cap := by
  rcases Nat.lt_or_ge r cap with h1 | h1
  · exact Nat.le_of_lt (val_lt h1)
  · have : r = cap := by omega
    rw [this]; exact Nat.le_refl _

theorem val_cap_pos : 0 < val cap := by
  have := @val_lt 0 cap (by decide)
  rw [val_zero] at this; exact this

/-- An infinity stands above all, in the same units. -/
theorem order_all {u v : Nat} (hu : rg u ≤ cap) (hv : rg v ≤ cap) : double.order u v = some (compare (sv u) (sv v)) := by
  rcases Nat.lt_or_ge (rg u) cap with hu1 | hu1
  · rcases Nat.lt_or_ge (rg v) cap with hv1 | hv1
    · exact order_fin hu1 hv1
    · have hv2 : rg v = cap := by omega
      unfold Format.order
      rw [read_num hu1, read_inf hv2]
      have h1 := val_lt hu1
      simp only [Datum.order]
      unfold sv
      rw [hv2]
      generalize val cap = C at *
      generalize val (rg u) = x at *
      cases sgn v
      · simp only [Bool.false_eq_true, if_false]
        rw [Int.compare_eq_lt.2]
        split <;> omega
      · simp only [if_true]
        rw [Int.compare_eq_gt.2]
        split <;> omega
  · have hu2 : rg u = cap := by omega
    rcases Nat.lt_or_ge (rg v) cap with hv1 | hv1
    · unfold Format.order
      rw [read_inf hu2, read_num hv1]
      have h1 := val_lt hv1
      simp only [Datum.order]
      unfold sv
      rw [hu2]
      generalize val cap = C at *
      generalize val (rg v) = x at *
      cases sgn u
      · simp only [Bool.false_eq_true, if_false]
        rw [Int.compare_eq_gt.2]
        split <;> omega
      · simp only [if_true]
        rw [Int.compare_eq_lt.2]
        split <;> omega
    · have hv2 : rg v = cap := by omega
      unfold Format.order
      rw [read_inf hu2, read_inf hv2]
      simp only [Datum.order]
      unfold sv
      rw [hu2, hv2]
      have h1 := val_cap_pos
      generalize val cap = C at *
      cases sgn u <;> cases sgn v <;> simp only [Bool.false_eq_true, if_false, if_true]
      · simp [Std.ReflCmp.compare_self]
      · rw [Int.compare_eq_gt.2 (by omega)]; rfl
      · rw [Int.compare_eq_lt.2 (by omega)]; rfl
      · simp [Std.ReflCmp.compare_self]

theorem order_nan_l {u : Nat} (v : Nat) (hu : cap < rg u) : double.order u v = none := by
  unfold Format.order; rw [read_nan hu]; cases double.read v <;> rfl
theorem order_nan_r (u : Nat) {v : Nat} (hv : cap < rg v) : double.order u v = none := by
  unfold Format.order; rw [read_nan hv]; cases double.read u <;> rfl

/-- -1, 0, 1, or 2. -/
def cmpI (u v : Nat) : Int := if cap < rg u ∨ cap < rg v then 2 else if sv u < sv v then -1 else if sv v < sv u then 1 else 0

/-- Rounding a whole number of the least real. -/
def rv (S : Int) : Int := if S < 0 then -(val (rq S.natAbs 1) : Int) else val (rq S.natAbs 1)

theorem val_mono {a b : Nat} (h : a ≤ b) : val a ≤ val b := by
  rcases Nat.lt_or_ge a b with h1 | h1
  · exact Nat.le_of_lt (val_lt h1)
  · have : a = b := by omega
    rw [this]; exact Nat.le_refl _

theorem rv_mono {a b : Int} (h : a ≤ b) : rv a ≤ rv b := by
  unfold rv
  have m1 : a.natAbs ≤ b.natAbs → val (rq a.natAbs 1) ≤ val (rq b.natAbs 1) := fun h => val_mono (rq_mono (by omega) (by omega) (by omega))
  have m2 : b.natAbs ≤ a.natAbs → val (rq b.natAbs 1) ≤ val (rq a.natAbs 1) := fun h => val_mono (rq_mono (by omega) (by omega) (by omega))
  generalize val (rq a.natAbs 1) = x at *
  generalize val (rq b.natAbs 1) = y at *
  split <;> split <;> omega

theorem sv_wd {neg : Bool} {r : Nat} (h : r < 2 ^ 63) : sv (wd neg r) = if neg then -(val r : Int) else val r := by
  unfold sv; rw [sgn_wd _ _ h, rg_wd _ _ h]

theorem rq_lt (A B : Nat) : rq A B < 2 ^ 63 := Nat.lt_of_le_of_lt (rq_le A B) cap_lt

/-- The sum of two reals stands for the rounded sum. -/
theorem sv_sum (S : Int) (z : Bool) : sv (wd (if S = 0 then z else decide (S < 0)) (rq S.natAbs 1)) = rv S := by
  rw [sv_wd (rq_lt _ _)]
  unfold rv
  by_cases h0 : S = 0
  · subst h0
    simp [rq_zero, val_zero]
  · rw [if_neg h0]
    by_cases h1 : S < 0 <;> simp [h1]

/-- The product. -/
def pv (S : Int) : Int := if S < 0 then -(val (rq S.natAbs KK) : Int) else val (rq S.natAbs KK)

theorem pv_mono {a b : Int} (h : a ≤ b) : pv a ≤ pv b := by
  unfold pv
  have hK := KK_pos
  generalize KK = K at *
  have m1 : a.natAbs ≤ b.natAbs → val (rq a.natAbs K) ≤ val (rq b.natAbs K) := fun h => val_mono (rq_mono hK hK (Nat.mul_le_mul_right _ h))
  have m2 : b.natAbs ≤ a.natAbs → val (rq b.natAbs K) ≤ val (rq a.natAbs K) := fun h => val_mono (rq_mono hK hK (Nat.mul_le_mul_right _ h))
  generalize val (rq a.natAbs K) = x at *
  generalize val (rq b.natAbs K) = y at *
  split <;> split <;> omega

theorem sv_natAbs (u : Nat) : (sv u).natAbs = val (rg u) := by
  unfold sv; split <;> omega

theorem sv_prod (u v : Nat) : sv (wd (sgn u ^^ sgn v) (rq (val (rg u) * val (rg v)) KK)) = pv (sv u * sv v) := by
  rw [sv_wd (rq_lt _ _)]
  unfold pv
  have hn : (sv u * sv v).natAbs = val (rg u) * val (rg v) := by rw [Int.natAbs_mul, sv_natAbs, sv_natAbs]
  rw [hn]
  generalize hP : val (rq (val (rg u) * val (rg v)) KK) = P
  have hz : val (rg u) * val (rg v) = 0 → P = 0 := by
    intro h; rw [h, rq_zero, val_zero] at hP; omega
  unfold sv
  generalize val (rg u) = x at *
  generalize val (rg v) = y at *
  have hxy : (0 : Int) ≤ (x : Int) * (y : Int) := Int.mul_nonneg (by omega) (by omega)
  have hxy0 : (x : Int) * (y : Int) = 0 → P = 0 := fun h => hz (by exact_mod_cast h)
  generalize hq : (x : Int) * (y : Int) = q at *
  cases sgn u <;> cases sgn v <;> simp only [Bool.false_eq_true, if_false, if_true, Bool.xor_false, Bool.xor_true, Bool.not_false, Bool.not_true, Int.neg_mul, Int.mul_neg, hq, Int.neg_neg]
  · rw [if_neg (by omega)]
  · by_cases h : q = 0
    · have := hxy0 h; subst this; simp
    · rw [if_pos (by omega)]
  · by_cases h : q = 0
    · have := hxy0 h; subst this; simp
    · rw [if_pos (by omega)]
  · rw [if_neg (by omega)]

end FloM

namespace FloM
open Ieee

theorem div_mod_far {n drop : Nat} (h : n.log2 + 2 ≤ drop) : n < 2 ^ drop := by
  have h1 : n < 2 ^ (n.log2 + 1) := lt_log2 n
  have h3 : (2:Nat) ^ (n.log2 + 1) ≤ 2 ^ drop := Nat.pow_le_pow_right (by omega) (by omega)
  omega

/-- What a way makes of an amount n / d. -/
def cutW (way : Toward) (neg : Bool) (n d : Nat) : Nat :=
  match way with
  | .even => rhe n d
  | .down => n / d + (neg && n % d != 0).toNat
  | .up => n / d + (!neg && n % d != 0).toNat
  | .zero => n / d

theorem cut_gen (way : Toward) (neg : Bool) (n drop : Nat) : way.cut neg n drop = cutW way neg n (2 ^ drop) := by
  cases way
  case even => exact cut_even neg n drop
  all_goals
    unfold Toward.cut cutW
    simp only [Nat.shiftLeft_eq, Nat.one_mul]
    rcases Nat.le_total drop (n.log2 + 2) with h | h
    · rw [Nat.min_eq_left h]
      try simp
    · rw [Nat.min_eq_right h]
      have h1 : n < 2 ^ (n.log2 + 1) := lt_log2 n
      have h2 : (2:Nat) ^ (n.log2 + 2) = 2 * 2 ^ (n.log2 + 1) := by rw [Nat.pow_succ, Nat.mul_comm]
      have h3 := div_mod_far h
      simp only [Nat.div_eq_of_lt (show n < 2 ^ (n.log2 + 2) by omega), Nat.mod_eq_of_lt (show n < 2 ^ (n.log2 + 2) by omega),
        Nat.div_eq_of_lt h3, Nat.mod_eq_of_lt h3, Nat.zero_add, Bool.toNat_false]

theorem cutW_mul (way : Toward) (neg : Bool) (n d c : Nat) (hc : 0 < c) : cutW way neg (n * c) (d * c) = cutW way neg n d := by
  have hm : (n % d * c != 0) = (n % d != 0) := by
    by_cases h : n % d = 0
    · rw [h, Nat.zero_mul]
    · have : n % d * c ≠ 0 := Nat.mul_ne_zero h (by omega)
      rw [bne_iff_ne.2 h, bne_iff_ne.2 this]
  cases way <;> simp only [cutW, rhe_mul _ _ _ hc, Nat.mul_div_mul_right _ _ hc, Nat.mul_mod_mul_right, hm]

/-- The amount of a finite real made whole. -/
def iv (way : Toward) (u : Nat) : Nat := cutW way (sgn u) (val (rg u)) KK

theorem integral_num {u : Nat} (h : rg u < cap) (way : Toward) : (double.read u).integral way = .number (sgn u) (iv way u) 0 := by
  rw [read_num h]
  simp only [Datum.integral]
  rw [cut_gen, Nat.shiftLeft_eq]
  refine congrArg (fun z => Datum.number (sgn u) z 0) ?_
  unfold iv
  rw [val_eq, KK_eq]
  have h74 := e74_eq
  rcases Nat.le_total (up (rg u)) e74 with hu | hu
  · have e1 : (-1074 + (up (rg u) : Int)).toNat = 0 := by omega
    have e2 : (-(-1074 + (up (rg u) : Int))).toNat = e74 - up (rg u) := by omega
    rw [e1, e2, Nat.pow_zero, Nat.mul_one, ← cutW_mul way (sgn u) (mg (rg u)) (2 ^ (e74 - up (rg u))) (2 ^ up (rg u)) (Nat.two_pow_pos _), ← Nat.pow_add,
      show e74 - up (rg u) + up (rg u) = e74 by omega]
  · have e1 : (-1074 + (up (rg u) : Int)).toNat = up (rg u) - e74 := by omega
    have e2 : (-(-1074 + (up (rg u) : Int))).toNat = 0 := by omega
    rw [e1, e2, Nat.pow_zero, ← cutW_mul way (sgn u) (mg (rg u) * 2 ^ (up (rg u) - e74)) 1 (2 ^ e74) (Nat.two_pow_pos _), Nat.one_mul, Nat.mul_assoc, ← Nat.pow_add,
      show up (rg u) - e74 + e74 = up (rg u) by omega]

/-- An amount of few digits is a real. -/
theorem val_repr (n e : Nat) (hn : n < 2 ^ 53) (he : e ≤ 1900) : ∃ r, r < cap ∧ val r = n * 2 ^ e := by
  have hcap : cap = 2047 * 2 ^ 52 := rfl
  rcases Nat.eq_zero_or_pos n with rfl | h0
  · exact ⟨0, by decide, by rw [val_zero, Nat.zero_mul]⟩
  have h1 := log2_le n (by omega)
  have h2 := lt_log2 n
  have hL : n.log2 < 53 := (Nat.log2_lt (by omega)).2 hn
  generalize hl : n.log2 = L at *
  rcases Nat.lt_or_ge (L + e) 52 with hs | hs
  · have : n * 2 ^ e < 2 ^ 52 := by
      calc n * 2 ^ e < 2 ^ (L + 1) * 2 ^ e := (Nat.mul_lt_mul_right (Nat.two_pow_pos _)).2 h2
        _ = 2 ^ (L + 1 + e) := (Nat.pow_add _ _ _).symm
        _ ≤ 2 ^ 52 := Nat.pow_le_pow_right (by omega) (by omega)
    refine ⟨n * 2 ^ e, by omega, ?_⟩
    unfold val; rw [if_pos this]
  · obtain ⟨t, ht⟩ : ∃ t, L + t = 52 := ⟨52 - L, by omega⟩
    obtain ⟨x, hx⟩ : ∃ x, e = t + x := ⟨e - t, by omega⟩
    have b1 : 2 ^ 52 ≤ n * 2 ^ t := by
      calc 2 ^ 52 = 2 ^ L * 2 ^ t := by rw [← Nat.pow_add, ht]
        _ ≤ n * 2 ^ t := Nat.mul_le_mul_right _ h1
    have b2 : n * 2 ^ t < 2 ^ 53 := by
      calc n * 2 ^ t < 2 ^ (L + 1) * 2 ^ t := (Nat.mul_lt_mul_right (Nat.two_pow_pos _)).2 h2
        _ = 2 ^ (L + 1 + t) := (Nat.pow_add _ _ _).symm
        _ = 2 ^ 53 := by congr 1; omega
    rw [hx, Nat.pow_add, ← Nat.mul_assoc]
    generalize n * 2 ^ t = M at *
    refine ⟨(x + 1) * 2 ^ 52 + (M - 2 ^ 52), by omega, ?_⟩
    have d1 : ((x + 1) * 2 ^ 52 + (M - 2 ^ 52)) / 2 ^ 52 = x + 1 := by omega
    have d2 : ((x + 1) * 2 ^ 52 + (M - 2 ^ 52)) % 2 ^ 52 = M - 2 ^ 52 := by omega
    unfold val
    rw [if_neg (by omega), d1, d2, show 2 ^ 52 + (M - 2 ^ 52) = M by omega, show x + 1 - 1 = x by omega]

theorem mg_lt (r : Nat) : mg r < 2 ^ 53 := by
  unfold mg
  have : r % 2 ^ 52 < 2 ^ 52 := Nat.mod_lt _ (by omega)
  split <;> omega

/-- What is made whole is a real itself. -/
theorem iv_repr {u : Nat} (h : rg u < cap) (way : Toward) : ∃ r, r < cap ∧ val r = iv way u * KK := by
  have h74 := e74_eq
  have hKp := KK_pos
  rcases Nat.lt_or_ge (up (rg u)) e74 with hu | hu
  · have hq : val (rg u) / KK < 2 ^ 52 := by
      rw [val_eq, KK_eq]
      apply Nat.div_lt_of_lt_mul
      have := mg_lt (rg u)
      calc mg (rg u) * 2 ^ up (rg u) < 2 ^ 53 * 2 ^ up (rg u) := (Nat.mul_lt_mul_right (Nat.two_pow_pos _)).2 this
        _ = 2 ^ (53 + up (rg u)) := (Nat.pow_add _ _ _).symm
        _ ≤ 2 ^ (e74 + 52) := Nat.pow_le_pow_right (by omega) (by omega)
        _ = 2 ^ e74 * 2 ^ 52 := Nat.pow_add _ _ _
    have hi : iv way u ≤ 2 ^ 52 := by
      have b1 : ∀ b : Bool, b.toNat ≤ 1 := by intro b; cases b <;> decide
      unfold iv
      cases way <;> simp only [cutW]
      · have := (rhe_le (val (rg u)) KK).2; omega
      · have := b1 (sgn u && val (rg u) % KK != 0); omega
      · have := b1 (!sgn u && val (rg u) % KK != 0); omega
      · omega
    exact val_repr _ _ (by omega) (by omega)
  · refine ⟨rg u, h, ?_⟩
    have hd : val (rg u) = mg (rg u) * 2 ^ (up (rg u) - e74) * KK := by
      rw [val_eq, KK_eq, Nat.mul_assoc, ← Nat.pow_add, show up (rg u) - e74 + e74 = up (rg u) by omega]
    unfold iv
    rw [hd]
    generalize mg (rg u) * 2 ^ (up (rg u) - e74) = k
    have := cutW_mul way (sgn u) k 1 KK hKp
    rw [Nat.one_mul] at this
    rw [this]
    cases way <;> simp [cutW, rhe_one, Nat.mod_one]

/-- The bits of a finite real made whole. -/
theorem write_integral {u : Nat} (h : rg u < cap) (way : Toward) :
    ∃ r, r < cap ∧ val r = iv way u * KK ∧ double.write ((double.read u).integral way) = wd (sgn u) r := by
  obtain ⟨r, hr, hv⟩ := iv_repr h way
  refine ⟨r, hr, hv, ?_⟩
  rw [integral_num h]
  simp only [Format.write]
  have h74 := e74_eq
  rw [nearest_rq _ _ _ 0 (by omega), word_wd]
  have e1 : ((0 : Int) + 1074 + ((0 : Nat) : Int)).toNat = e74 := by omega
  rw [e1, ← KK_eq, ← hv, Nat.pow_zero, rq_val, Nat.min_eq_left (by omega)]

/-- The int of a finite real made whole. -/
def ii (way : Toward) (u : Nat) : Int := if sgn u then -(iv way u : Int) else iv way u

/-- What the four ways to an int tell. -/
def toI (way : Toward) (u : Nat) : Int × Int :=
  if cap < rg u then (0, 20) else if rg u = cap then (0, 10)
  else if ii way u < -4611686018427387904 ∨ 4611686018427387904 ≤ ii way u then (0, 10) else (ii way u, 0)

/-- The nearest real of an int. -/
def ofI (n : Int) : Nat := wd (decide (n < 0)) (rq (n.natAbs * KK) 1)

theorem nearest_int (n : Int) : double.write (.number (n < 0) n.natAbs 0) = ofI n := by
  simp only [Format.write]
  have h74 := e74_eq
  rw [nearest_rq _ _ _ 0 (by omega), word_wd]
  have e1 : ((0 : Int) + 1074 + ((0 : Nat) : Int)).toNat = e74 := by omega
  rw [e1, ← KK_eq, Nat.pow_zero]
  rfl

theorem sv_ofI (n : Int) : sv (ofI n) = rv (n * KK) := by
  unfold ofI
  have hp := KK_pos
  rw [sv_wd (rq_lt _ _)]
  unfold rv
  rw [Int.natAbs_mul, Int.natAbs_natCast]
  have : (n * (KK : Int) < 0) ↔ n < 0 := by
    constructor
    · intro h
      rcases Int.lt_or_le n 0 with h1 | h1
      · exact h1
      · have := Int.mul_nonneg h1 (show (0 : Int) ≤ (KK : Int) by omega); omega
    · intro h; exact Int.mul_neg_of_neg_of_pos h (by omega)
  simp only [this, decide_eq_true_eq]

theorem rg_ofI_le (n : Int) : rg (ofI n) ≤ cap := by
  unfold ofI; rw [rg_wd _ _ (rq_lt _ _)]; exact rq_le _ _

/-- A whole real comes back from its int. -/
theorem sv_back {u : Nat} (h : rg u < cap) (way : Toward) : sv (ofI (ii way u)) = ii way u * KK := by
  obtain ⟨r, hr, hv⟩ := iv_repr h way
  rw [sv_ofI]
  unfold rv
  have hp := KK_pos
  have hn : (ii way u).natAbs = iv way u := by unfold ii; split <;> omega
  rw [Int.natAbs_mul, Int.natAbs_natCast, hn, ← hv, rq_val, Nat.min_eq_left (by omega), hv]
  unfold ii
  generalize iv way u = k
  by_cases h0 : k = 0
  · subst h0; simp
  cases sgn u
  · simp only [Bool.false_eq_true, if_false]
    rw [if_neg]
    · exact Int.natCast_mul _ _
    · have : (0 : Int) ≤ (k : Int) * (KK : Int) := Int.mul_nonneg (by omega) (by omega)
      omega
  · simp only [if_true]
    rw [if_pos, Int.natCast_mul, Int.neg_mul]
    rw [Int.neg_mul]
    have : (0 : Int) < (k : Int) * (KK : Int) := Int.mul_pos (by omega) (by omega)
    omega

end FloM

namespace FloM
open Ieee

theorem cmpI_eq (u v : Nat) : cmpI u v = (match double.order u v with | some .lt => -1 | some .gt => 1 | some .eq => 0 | none => 2) := by
  unfold cmpI
  rcases Nat.lt_or_ge cap (rg u) with h | h
  · rw [order_nan_l v h, if_pos (.inl h)]
  rcases Nat.lt_or_ge cap (rg v) with h2 | h2
  · rw [order_nan_r u h2, if_pos (.inr h2)]
  rw [order_all h h2, if_neg (by omega)]
  rcases Int.lt_trichotomy (sv u) (sv v) with h3 | h3 | h3
  · rw [if_pos h3, Int.compare_eq_lt.2 h3]
  · rw [if_neg (by omega), if_neg (by omega), Int.compare_eq_eq.2 h3]
  · rw [if_neg (by omega), if_pos h3, Int.compare_eq_gt.2 h3]

theorem cmpI_vals (u v : Nat) : cmpI u v = -1 ∨ cmpI u v = 0 ∨ cmpI u v = 1 ∨ cmpI u v = 2 := by
  unfold cmpI; split <;> (try split) <;> (try split) <;> omega

theorem cmpI_two (u v : Nat) : cmpI u v = 2 ↔ cap < rg u ∨ cap < rg v := by
  unfold cmpI
  constructor
  · intro h
    by_cases hc : cap < rg u ∨ cap < rg v
    · exact hc
    · rw [if_neg hc] at h; split at h <;> (try split at h) <;> omega
  · intro h; rw [if_pos h]

/-- A sum's datum: which reals, infinities too. -/
theorem add_all {u v z : Nat} (hu : rg u ≤ cap) (hv : rg v ≤ cap) (h : double.add u v = some z) :
    rg z ≤ cap ∧ sv z = (if rg v = cap then sv v else if rg u = cap then sv u else rv (sv u + sv v)) := by
  have hcl := cap_lt
  rcases Nat.lt_or_ge (rg u) cap with hu1 | hu1
  · rcases Nat.lt_or_ge (rg v) cap with hv1 | hv1
    · rw [add_fin hu1 hv1] at h
      injection h with h
      rw [if_neg (by omega), if_neg (by omega), ← h, sv_sum]
      exact ⟨by rw [rg_wd _ _ (rq_lt _ _)]; exact rq_le _ _, rfl⟩
    · have hv2 : rg v = cap := by omega
      unfold Format.add at h
      rw [read_num hu1, read_inf hv2] at h
      simp only [Datum.sum, Option.map_some, Format.write, infRung_cap, word_wd] at h
      injection h with h
      rw [if_pos hv2, ← h, rg_wd _ _ hcl, sv_wd hcl]
      refine ⟨Nat.le_refl _, ?_⟩
      unfold sv; rw [hv2]
  · have hu2 : rg u = cap := by omega
    rcases Nat.lt_or_ge (rg v) cap with hv1 | hv1
    · unfold Format.add at h
      rw [read_inf hu2, read_num hv1] at h
      simp only [Datum.sum, Option.map_some, Format.write, infRung_cap, word_wd] at h
      injection h with h
      rw [if_neg (by omega), if_pos hu2, ← h, rg_wd _ _ hcl, sv_wd hcl]
      refine ⟨Nat.le_refl _, ?_⟩
      unfold sv; rw [hu2]
    · have hv2 : rg v = cap := by omega
      unfold Format.add at h
      rw [read_inf hu2, read_inf hv2] at h
      simp only [Datum.sum] at h
      split at h
      · next hs =>
        simp only [Option.map_some, Format.write, infRung_cap, word_wd] at h
        injection h with h
        rw [if_pos hv2, ← h, rg_wd _ _ hcl, sv_wd hcl]
        refine ⟨Nat.le_refl _, ?_⟩
        unfold sv; rw [hv2, hs]
      · simp at h

theorem rv_le (S : Int) : - (val cap : Int) ≤ rv S ∧ rv S ≤ val cap := by
  unfold rv
  have := val_mono (rq_le S.natAbs 1)
  split <;> omega
theorem pv_le (S : Int) : - (val cap : Int) ≤ pv S ∧ pv S ≤ val cap := by
  unfold pv
  have := val_mono (rq_le S.natAbs KK)
  split <;> omega
theorem sv_le {u : Nat} (h : rg u ≤ cap) : - (val cap : Int) ≤ sv u ∧ sv u ≤ val cap := by
  unfold sv
  have := cap_le _ h
  split <;> omega
theorem sv_lt {u : Nat} (h : rg u < cap) : - (val cap : Int) < sv u ∧ sv u < val cap := by
  unfold sv
  have := val_lt h
  split <;> omega
theorem sv_inf {u : Nat} (h : rg u = cap) : sv u = -(val cap : Int) ∨ sv u = val cap := by
  unfold sv
  rw [h]
  cases sgn u <;> simp

/-- Greater reals have no lesser sums. -/
theorem add_rises {x y z a b : Nat} (hx : rg x ≤ cap) (hy : rg y ≤ cap) (hz : rg z ≤ cap) (hxy : sv x ≤ sv y)
    (ha : double.add x z = some a) (hb : double.add y z = some b) : sv a ≤ sv b := by
  obtain ⟨_, ea⟩ := add_all hx hz ha
  obtain ⟨_, eb⟩ := add_all hy hz hb
  rw [ea, eb]
  by_cases hzc : rg z = cap
  · rw [if_pos hzc, if_pos hzc]; omega
  rw [if_neg hzc, if_neg hzc]
  have bx := sv_le hx
  have by' := sv_le hy
  by_cases hxc : rg x = cap
  · rw [if_pos hxc]
    by_cases hyc : rg y = cap
    · rw [if_pos hyc]; omega
    · rw [if_neg hyc]
      have := sv_lt (u := y) (by omega)
      have := rv_le (sv y + sv z)
      rcases sv_inf hxc with h | h <;> omega
  · rw [if_neg hxc]
    by_cases hyc : rg y = cap
    · rw [if_pos hyc]
      have := sv_lt (u := x) (by omega)
      have := rv_le (sv x + sv z)
      rcases sv_inf hyc with h | h <;> omega
    · rw [if_neg hyc]
      exact rv_mono (by omega)

/-- A product's datum. -/
theorem mul_all {u v z : Nat} (hu : rg u ≤ cap) (hv : rg v ≤ cap) (h : double.mul u v = some z) :
    rg z ≤ cap ∧ ((rg u = cap ∨ rg v = cap) → sv u ≠ 0 ∧ sv v ≠ 0) ∧
    sv z = (if rg u = cap ∨ rg v = cap then (if sgn u = sgn v then (val cap : Int) else -(val cap : Int)) else pv (sv u * sv v)) := by
  have hcl := cap_lt
  have hcp := val_cap_pos
  have infnz : ∀ {w : Nat}, rg w = cap → sv w ≠ 0 := by
    intro w hw; rcases sv_inf hw with h | h <;> omega
  have finnz : ∀ {w : Nat}, mg (rg w) ≠ 0 → sv w ≠ 0 := by
    intro w hw h0
    have h1 := sv_natAbs w
    rw [h0] at h1
    have : rg w = 0 := val_eq_zero.1 h1.symm
    exact hw (mg_zero.2 this)
  have sgx : ∀ s t : Bool, (if (s ^^ t) = true then -(val cap : Int) else (val cap : Int)) = (if s = t then (val cap : Int) else -(val cap : Int)) := by
    intro s t; cases s <;> cases t <;> simp
  rcases Nat.lt_or_ge (rg u) cap with hu1 | hu1
  · rcases Nat.lt_or_ge (rg v) cap with hv1 | hv1
    · rw [mul_fin hu1 hv1] at h
      injection h with h
      rw [if_neg (by omega), ← h, sv_prod]
      exact ⟨by rw [rg_wd _ _ (rq_lt _ _)]; exact rq_le _ _, by omega, rfl⟩
    · have hv2 : rg v = cap := by omega
      unfold Format.mul at h
      rw [read_num hu1, read_inf hv2] at h
      simp only [Datum.product] at h
      split at h
      · simp at h
      · next hm =>
        simp only [Option.map_some, Format.write, infRung_cap, word_wd] at h
        injection h with h
        rw [if_pos (.inr hv2), ← h, rg_wd _ _ hcl, sv_wd hcl]
        refine ⟨Nat.le_refl _, fun _ => ⟨finnz hm, infnz hv2⟩, ?_⟩
        rw [Bool.xor_comm]; exact sgx _ _
  · have hu2 : rg u = cap := by omega
    rcases Nat.lt_or_ge (rg v) cap with hv1 | hv1
    · unfold Format.mul at h
      rw [read_inf hu2, read_num hv1] at h
      simp only [Datum.product] at h
      split at h
      · simp at h
      · next hm =>
        simp only [Option.map_some, Format.write, infRung_cap, word_wd] at h
        injection h with h
        rw [if_pos (.inl hu2), ← h, rg_wd _ _ hcl, sv_wd hcl]
        exact ⟨Nat.le_refl _, fun _ => ⟨infnz hu2, finnz hm⟩, sgx _ _⟩
    · have hv2 : rg v = cap := by omega
      unfold Format.mul at h
      rw [read_inf hu2, read_inf hv2] at h
      simp only [Datum.product, Option.map_some, Format.write, infRung_cap, word_wd] at h
      injection h with h
      rw [if_pos (.inl hu2), ← h, rg_wd _ _ hcl, sv_wd hcl]
      exact ⟨Nat.le_refl _, fun _ => ⟨infnz hu2, infnz hv2⟩, sgx _ _⟩

theorem sgn_of_neg {u : Nat} (h : sv u < 0) : sgn u = true := by
  unfold sv at h; cases hs : sgn u <;> simp_all <;> omega
theorem sgn_of_pos {u : Nat} (h : 0 < sv u) : sgn u = false := by
  unfold sv at h; cases hs : sgn u <;> simp_all <;> omega

/-- One of two: z not below 0, or below. -/
theorem mul_rises {x y z a b : Nat} (hx : rg x ≤ cap) (hy : rg y ≤ cap) (hz : rg z ≤ cap) (hxy : sv x ≤ sv y)
    (ha : double.mul x z = some a) (hb : double.mul y z = some b) : (0 ≤ sv z → sv a ≤ sv b) ∧ (sv z < 0 → sv b ≤ sv a) := by
  obtain ⟨_, na, ea⟩ := mul_all hx hz ha
  obtain ⟨_, nb, eb⟩ := mul_all hy hz hb
  rw [ea, eb]
  have bx := sv_le hx
  have by' := sv_le hy
  have p1 := pv_le (sv x * sv z)
  have p2 := pv_le (sv y * sv z)
  have mono : (0 ≤ sv z → pv (sv x * sv z) ≤ pv (sv y * sv z)) ∧ (sv z < 0 → pv (sv y * sv z) ≤ pv (sv x * sv z)) :=
    ⟨fun h => pv_mono (Int.mul_le_mul_of_nonneg_right hxy h), fun h => pv_mono (Int.mul_le_mul_of_nonpos_right hxy (by omega))⟩
  have sx := @sgn_of_neg x; have sx' := @sgn_of_pos x
  have sy := @sgn_of_neg y; have sy' := @sgn_of_pos y
  have sz := @sgn_of_neg z; have sz' := @sgn_of_pos z
  have ix := @sv_inf x; have iy := @sv_inf y; have iz := @sv_inf z
  have fx := @sv_lt x; have fy := @sv_lt y
  have hcp := val_cap_pos
  generalize pv (sv x * sv z) = P at *
  generalize pv (sv y * sv z) = Q at *
  generalize sv x = X at *
  generalize sv y = Y at *
  generalize sv z = Z at *
  generalize val cap = C at *
  by_cases hca : rg x = cap ∨ rg z = cap
  · obtain ⟨hx0, hz0⟩ := na hca
    rw [if_pos hca]
    by_cases hcb : rg y = cap ∨ rg z = cap
    · obtain ⟨hy0, _⟩ := nb hcb
      rw [if_pos hcb]
      refine ⟨fun hzp => ?_, fun hzn => ?_⟩
      · rw [sz' (by omega)]
        rcases Int.lt_or_le X 0 with h | h
        · rw [sx h]; simp; split <;> omega
        · rw [sx' (by omega), sy' (by omega)]; simp
      · rw [sz hzn]
        rcases Int.lt_or_le X 0 with h | h
        · rw [sx h]; simp; split <;> omega
        · rw [sx' (by omega), sy' (by omega)]; simp
    · rw [if_neg hcb]
      have hxc : rg x = cap := by omega
      have hf := fy (by omega)
      have hX : X = -C := by rcases ix hxc with h | h <;> omega
      rw [sx (by omega)]
      refine ⟨fun hzp => ?_, fun hzn => ?_⟩
      · rw [sz' (by omega)]; simp; omega
      · rw [sz hzn]; simp; omega
  · rw [if_neg hca]
    by_cases hcb : rg y = cap ∨ rg z = cap
    · obtain ⟨hy0, hz0⟩ := nb hcb
      rw [if_pos hcb]
      have hyc : rg y = cap := by omega
      have hf := fx (by omega)
      have hY : Y = C := by rcases iy hyc with h | h <;> omega
      rw [sy' (by omega)]
      refine ⟨fun hzp => ?_, fun hzn => ?_⟩
      · rw [sz' (by omega)]; simp; omega
      · rw [sz hzn]; simp; omega
    · rw [if_neg hcb]; exact mono

theorem sum_comm (d e : Datum) : d.sum e = e.sum d := by
  cases d <;> cases e <;> simp only [Datum.sum]
  · next s m i t n j =>
    rw [Int.min_comm j i, Int.add_comm (signed t n _), Bool.and_comm t s]
  · next s t => by_cases h : s = t
                · subst h; simp
                · rw [if_neg h, if_neg (fun h' => h h'.symm)]
theorem add_comm (u v : Nat) : double.add u v = double.add v u := by unfold Format.add; rw [sum_comm]
theorem product_comm (d e : Datum) : d.product e = e.product d := by
  cases d <;> cases e <;> simp only [Datum.product, Nat.mul_comm, Int.add_comm, Bool.xor_comm]
theorem mul_comm' (u v : Nat) : double.mul u v = double.mul v u := by unfold Format.mul; rw [product_comm]

/-- A difference turned is the negation, but for zeros. -/
theorem sub_turn (u v : Nat) : (double.sub u v = none ∧ double.sub v u = none) ∨
    ∃ a b, double.sub u v = some a ∧ double.sub v u = some b ∧ rg a ≤ cap ∧ rg b ≤ cap ∧
      ((rg a = 0 ∧ rg b = 0) ∨ (rg a = rg b ∧ sgn a = !sgn b)) := by
  have hcl := cap_lt
  rcases Nat.lt_or_ge cap (rg u) with hu | hu
  · left
    unfold Format.sub
    rw [read_nan hu]
    refine ⟨by simp [Datum.sum], ?_⟩
    cases double.read v <;> simp [Datum.sum, Datum.opposite]
  rcases Nat.lt_or_ge cap (rg v) with hv | hv
  · left
    unfold Format.sub
    rw [read_nan hv]
    refine ⟨?_, by simp [Datum.sum]⟩
    cases double.read u <;> simp [Datum.sum, Datum.opposite]
  rcases Nat.lt_or_ge (rg u) cap with hu1 | hu1
  · rcases Nat.lt_or_ge (rg v) cap with hv1 | hv1
    · right
      refine ⟨_, _, sub_fin hu1 hv1, sub_fin hv1 hu1, ?_⟩
      simp only [rg_wd _ _ (rq_lt _ _), sgn_wd _ _ (rq_lt _ _)]
      refine ⟨rq_le _ _, rq_le _ _, ?_⟩
      have e : sv v - sv u = -(sv u - sv v) := by omega
      rw [e]
      generalize sv u - sv v = S
      rw [Int.natAbs_neg]
      by_cases h0 : S = 0
      · subst h0; left; simp [rq_zero]
      · right
        refine ⟨rfl, ?_⟩
        rw [if_neg h0, if_neg (by omega)]
        by_cases h1 : S < 0
        · rw [decide_eq_true h1, decide_eq_false (by omega)]; rfl
        · rw [decide_eq_false h1, decide_eq_true (by omega)]; rfl
    · have hv2 : rg v = cap := by omega
      right
      unfold Format.sub
      rw [read_num hu1, read_inf hv2]
      simp only [Datum.sum, Datum.opposite, Option.map_some, Format.write, infRung_cap, word_wd]
      refine ⟨_, _, rfl, rfl, ?_⟩
      simp only [rg_wd _ _ hcl, sgn_wd _ _ hcl]
      exact ⟨Nat.le_refl _, Nat.le_refl _, .inr (by simp)⟩
  · have hu2 : rg u = cap := by omega
    rcases Nat.lt_or_ge (rg v) cap with hv1 | hv1
    · right
      unfold Format.sub
      rw [read_inf hu2, read_num hv1]
      simp only [Datum.sum, Datum.opposite, Option.map_some, Format.write, infRung_cap, word_wd]
      refine ⟨_, _, rfl, rfl, ?_⟩
      simp only [rg_wd _ _ hcl, sgn_wd _ _ hcl]
      exact ⟨Nat.le_refl _, Nat.le_refl _, .inr (by simp)⟩
    · have hv2 : rg v = cap := by omega
      unfold Format.sub
      rw [read_inf hu2, read_inf hv2]
      simp only [Datum.sum, Datum.opposite]
      by_cases h : sgn u = sgn v
      · left
        rw [h]
        cases sgn v <;> simp
      · right
        have h1 : sgn u = !sgn v := by cases hh : sgn u <;> cases hh2 : sgn v <;> simp_all
        have h2 : sgn v = !sgn u := by rw [h1]; simp
        rw [if_pos h1, if_pos h2]
        simp only [Option.map_some, Format.write, infRung_cap, word_wd]
        refine ⟨_, _, rfl, rfl, ?_⟩
        simp only [rg_wd _ _ hcl, sgn_wd _ _ hcl]
        exact ⟨Nat.le_refl _, Nat.le_refl _, .inr (by simpa using h1)⟩

/-- Whole numbers next to a real. -/
theorem ii_down {u : Nat} : ii .down u = sv u / (KK : Int) := by
  have hp := KK_pos
  unfold ii iv cutW sv
  generalize val (rg u) = n
  generalize KK = d at *
  have hdm := Nat.div_add_mod n d
  have hlt := Nat.mod_lt n hp
  cases sgn u
  · simp
  · simp only [Bool.true_and, if_true]
    symm
    by_cases h : n % d = 0
    · have : (n % d != 0).toNat = 0 := by simp [h]
      rw [this, Nat.add_zero]
      rw [h, Nat.add_zero] at hdm
      rw [← hdm, Nat.mul_div_cancel_left _ hp]
      rw [Int.natCast_mul, Int.neg_eq_neg_one_mul, Int.mul_left_comm, Int.mul_ediv_cancel_left _ (by omega)]
      omega
    · have : (n % d != 0).toNat = 1 := by simp [h]
      rw [this]
      have e : -(n : Int) = ((d - n % d : Nat) : Int) + (d : Int) * (-((n / d + 1 : Nat) : Int)) := by
        have h2 : (d : Int) * ((n / d + 1 : Nat) : Int) = (d : Int) * ((n / d : Nat) : Int) + d := by
          rw [Int.natCast_add, Int.mul_add]; simp
        rw [Int.mul_neg, h2]
        have h3 : (d : Int) * ((n / d : Nat) : Int) = ((d * (n / d) : Nat) : Int) := (Int.natCast_mul _ _).symm
        rw [h3]
        omega
      rw [e, Int.add_mul_ediv_left _ _ (by omega)]
      rw [Int.ediv_eq_zero_of_lt (by omega) (by omega)]
      omega

theorem ii_pair (u : Nat) : (ii .down u = ii .up u ∧ ii .zero u = ii .down u ∧ ii .even u = ii .down u ∧ sv u = ii .down u * KK) ∨
    (ii .up u = ii .down u + 1 ∧ (ii .zero u = ii .down u ∨ ii .zero u = ii .up u) ∧ (ii .even u = ii .down u ∨ ii .even u = ii .up u)
      ∧ ii .down u * KK < sv u ∧ sv u < ii .up u * KK) := by
  have hp := KK_pos
  unfold ii iv cutW sv
  generalize val (rg u) = n
  generalize KK = d at *
  have hdm := Nat.div_add_mod n d
  have hlt := Nat.mod_lt n hp
  have hr := rhe_le n d
  have hc : ((d * (n / d) : Nat) : Int) = (n / d : Nat) * (d : Int) := by rw [Nat.mul_comm, Int.natCast_mul]
  by_cases h : n % d = 0
  · left
    have hrh : rhe n d = n / d := by
      unfold rhe; rw [h, if_neg (by omega)]; omega
    have hb : (n % d != 0) = false := by simp [h]
    simp only [hrh, hb, Bool.and_false, Bool.toNat_false, Nat.add_zero]
    cases sgn u
    · simp only [Bool.false_eq_true, if_false, true_and]
      omega
    · simp only [if_true, true_and]
      rw [Int.neg_mul]
      omega
  · right
    have hb : (n % d != 0) = true := by simp [h]
    have hc1 : (((n / d + 1 : Nat) : Int)) * (d : Int) = ((d * (n / d) : Nat) : Int) + d := by
      rw [Int.natCast_add, Int.add_mul, hc]; simp
    simp only [hb, Bool.and_true]
    generalize rhe n d = e at *
    generalize n / d = q at *
    generalize d * q = P at *
    generalize hf : ((q + 1 : Nat) : Int) * (d : Int) = f at *
    generalize hg : (q : Int) * (d : Int) = g at *
    cases sgn u
    · simp only [Bool.false_eq_true, if_false, Bool.toNat_false, Bool.not_false, Bool.toNat_true, Nat.add_zero]
      rw [hf, hg]
      exact ⟨by omega, by simp, by omega, by omega, by omega⟩
    · simp only [if_true, Bool.toNat_true, Bool.not_true, Bool.toNat_false, Nat.add_zero]
      rw [Int.neg_mul, Int.neg_mul, hf, hg]
      exact ⟨by omega, by simp, by omega, by omega, by omega⟩

end FloM

namespace FloM
theorem xor_top (b : Nat) (h : b < 2 ^ 63) : b ^^^ 2 ^ 63 = 2 ^ 63 + b := by
  apply Nat.eq_of_testBit_eq
  intro i
  rw [Nat.testBit_xor, Nat.testBit_two_pow]
  rcases Nat.lt_trichotomy i 63 with h1 | h1 | h1
  · rw [Nat.testBit_two_pow_add_gt h1, decide_eq_false (by omega), Bool.xor_false]
  · subst h1
    rw [Nat.testBit_two_pow_add_eq, Nat.testBit_lt_two_pow h]; simp
  · have : b.testBit i = false := Nat.testBit_lt_two_pow (Nat.lt_of_lt_of_le h (Nat.pow_le_pow_right (by omega) (by omega)))
    have h2 : (2 ^ 63 + b).testBit i = false := Nat.testBit_lt_two_pow (Nat.lt_of_lt_of_le (show 2 ^ 63 + b < 2 ^ 64 by omega) (Nat.pow_le_pow_right (by omega) (by omega)))
    rw [this, h2]; simp; omega
theorem xor_sign (u : Nat) (h : u < 2 ^ 64) : u ^^^ 2 ^ 63 = if u < 2 ^ 63 then 2 ^ 63 + u else u - 2 ^ 63 := by
  split
  · next h1 => exact xor_top u h1
  · next h1 =>
    have := xor_top (u - 2 ^ 63) (by omega)
    rw [show 2 ^ 63 + (u - 2 ^ 63) = u by omega] at this
    have h2 : u ^^^ 2 ^ 63 = (u - 2 ^ 63 ^^^ 2 ^ 63) ^^^ 2 ^ 63 := by rw [this]
    rw [h2, Nat.xor_assoc, Nat.xor_self, Nat.xor_zero]
theorem bv_xor (u : Nat) (h : u < 2 ^ 64) : (BitVec.ofNat 64 u ^^^ 9223372036854775808#64).toNat % 18446744073709551616 = if u < 2 ^ 63 then 2 ^ 63 + u else u - 2 ^ 63 := by
  rw [BitVec.toNat_xor, BitVec.toNat_ofNat, BitVec.toNat_ofNat, Nat.mod_eq_of_lt h, Nat.mod_eq_of_lt (show 9223372036854775808 < 2 ^ 64 by decide)]
  rw [← xor_sign u h]
  exact Nat.mod_eq_of_lt (Nat.xor_lt_two_pow (n := 64) h (by decide))
theorem bv_and (u : Nat) (h : u < 2 ^ 64) : (BitVec.ofNat 64 u &&& 9223372036854775807#64).toNat % 18446744073709551616 = u % 2 ^ 63 := by
  rw [BitVec.toNat_and, BitVec.toNat_ofNat, BitVec.toNat_ofNat, Nat.mod_eq_of_lt h, Nat.mod_eq_of_lt (show 9223372036854775807 < 2 ^ 64 by decide)]
  have := Nat.and_two_pow_sub_one_eq_mod u 63
  rw [show (2:Nat) ^ 63 - 1 = 9223372036854775807 by decide] at this
  rw [this]
  exact Nat.mod_eq_of_lt (Nat.lt_of_lt_of_le (Nat.mod_lt _ (by decide)) (by decide))
end FloM
namespace Go
theorem ofInt_i64 (a : Nat) (ha : a < 9223372036854775808) : (BitVec.ofInt 64 (a : Int)).toNat = a := by
  rw [BitVec.ofInt_natCast, BitVec.toNat_ofNat]; exact Nat.mod_eq_of_lt (by omega)
theorem i64_and_nat (a b : Nat) (ha : a < 9223372036854775808) (hb : b < 9223372036854775808) : bits .and .i64 (a : Int) (b : Int) = ((a &&& b : Nat) : Int) := by
  have hx : a &&& b < 2 ^ 63 := Nat.and_lt_two_pow _ (by omega)
  show IntKind.i64.wrap ((BitVec.ofInt 64 (a : Int) &&& BitVec.ofInt 64 (b : Int)).toNat : Int) = _
  rw [BitVec.toNat_and, ofInt_i64 a ha, ofInt_i64 b hb, IntKind.wrap_i64]
  omega
theorem i64_or_nat (a b : Nat) (ha : a < 9223372036854775808) (hb : b < 9223372036854775808) : bits .or .i64 (a : Int) (b : Int) = ((a ||| b : Nat) : Int) := by
  have hx : a ||| b < 2 ^ 63 := Nat.or_lt_two_pow (by omega) (by omega)
  show IntKind.i64.wrap ((BitVec.ofInt 64 (a : Int) ||| BitVec.ofInt 64 (b : Int)).toNat : Int) = _
  rw [BitVec.toNat_or, ofInt_i64 a ha, ofInt_i64 b hb, IntKind.wrap_i64]
  omega
theorem i64_xor_nat (a b : Nat) (ha : a < 9223372036854775808) (hb : b < 9223372036854775808) : bits .xor .i64 (a : Int) (b : Int) = ((a ^^^ b : Nat) : Int) := by
  have hx : a ^^^ b < 2 ^ 63 := Nat.xor_lt_two_pow (by omega) (by omega)
  show IntKind.i64.wrap ((BitVec.ofInt 64 (a : Int) ^^^ BitVec.ofInt 64 (b : Int)).toNat : Int) = _
  rw [BitVec.toNat_xor, ofInt_i64 a ha, ofInt_i64 b hb, IntKind.wrap_i64]
  omega
end Go

namespace FloM
def sgnN (u : Nat) : Nat := if u < 2 ^ 63 then 0 else 2 ^ 63
theorem sgnN_of (u : Nat) (h : u < 2 ^ 64) : sgnN u = u - rg u ∧ rg u ≤ u ∧ sgn u = decide (2 ^ 63 ≤ u) := by
  unfold sgnN rg sgn
  by_cases h1 : u < 2 ^ 63
  · rw [if_pos h1, Nat.mod_eq_of_lt h1, Nat.div_eq_of_lt h1, decide_eq_false (by omega)]
    exact ⟨by omega, by omega, rfl⟩
  · rw [if_neg h1, decide_eq_true (by omega)]
    have : u / 2 ^ 63 = 1 := by omega
    rw [this]
    exact ⟨by omega, by omega, rfl⟩
theorem and_sign (u : Nat) (h : u < 2 ^ 64) : u &&& 2 ^ 63 = sgnN u := by
  have h1 := Nat.and_two_pow_sub_one_eq_mod u 63
  have h2 : u &&& 2 ^ 63 = if u.testBit 63 then 2 ^ 63 else 0 := by
    apply Nat.eq_of_testBit_eq
    intro i
    rw [Nat.testBit_and, Nat.testBit_two_pow]
    by_cases hi : 63 = i
    · subst hi
      cases hb : u.testBit 63 <;> simp <;> decide
    · rw [decide_eq_false hi, Bool.and_false]
      split
      · rw [Nat.testBit_two_pow, decide_eq_false hi]
      · simp
  rw [h2]
  unfold sgnN
  rw [Nat.testBit_eq_decide_div_mod_eq]
  by_cases hu : u < 2 ^ 63
  · rw [Nat.div_eq_of_lt hu, if_pos hu]; rfl
  · have : u / 2 ^ 63 = 1 := by omega
    rw [this, if_neg hu]; rfl

def rCmp (u v : Nat) : Int :=
  if cap < rg u ∨ cap < rg v then 2 else if (rg u = 0 ∧ rg v = 0) ∨ u = v then 0
  else if sgnN u ≠ sgnN v then (if sgnN u ≠ 0 then -1 else 1) else if (u < v ↔ sgnN u = 0) then -1 else 1

theorem rCmp_eq (u v : Nat) (hu : u < 2 ^ 64) (hv : v < 2 ^ 64) : rCmp u v = cmpI u v := by
  unfold rCmp cmpI
  split
  · rfl
  · obtain ⟨a1, a2, a3⟩ := sgnN_of u hu
    obtain ⟨b1, b2, b3⟩ := sgnN_of v hv
    have hzu := @val_lt_iff (rg u) (rg v)
    have hzv := @val_lt_iff (rg v) (rg u)
    have z1 := @val_lt_iff 0 (rg u)
    have z2 := @val_lt_iff 0 (rg v)
    rw [val_zero] at z1 z2
    have i1 := @val_inj (rg u) (rg v)
    have l1 : rg u < 2 ^ 63 := Nat.mod_lt _ (by decide)
    have l2 : rg v < 2 ^ 63 := Nat.mod_lt _ (by decide)
    unfold sv
    rw [a3, b3]
    simp only [decide_eq_true_eq]
    rw [a1, b1]
    generalize rg u = x at *
    generalize rg v = y at *
    generalize val x = X at *
    generalize val y = Y at *
    have c1 : u - x = 0 ∨ u - x = 2 ^ 63 := by rw [← a1]; unfold sgnN; split <;> simp
    have c2 : v - y = 0 ∨ v - y = 2 ^ 63 := by rw [← b1]; unfold sgnN; split <;> simp
    clear a1 b1 a3 b3
    repeat' split
    all_goals omega
end FloM

namespace FloM

/-- Digit i of a number. -/
def dg (N i : Nat) : Nat := N / 65536 ^ i % 65536
/-- The lowest n digits. -/
def fd (n N : Nat) : List Nat := (List.range n).map (dg N)
/-- How many digits. -/
def nd (N : Nat) : Nat := if N = 0 then 0 else N.log2 / 16 + 1
/-- How many binary digits. -/
def bl (N : Nat) : Nat := if N = 0 then 0 else N.log2 + 1

theorem pow_pos (i : Nat) : 0 < 65536 ^ i := Nat.pow_pos (by decide)
theorem pow_two (i : Nat) : 65536 ^ i = 2 ^ (16 * i) := by rw [Nat.pow_mul]
theorem dg_lt (N i : Nat) : dg N i < 65536 := Nat.mod_lt _ (by decide)
theorem dg_zero {N i : Nat} (h : N < 65536 ^ i) : dg N i = 0 := by unfold dg; rw [Nat.div_eq_of_lt h]
theorem fd_succ (n N : Nat) : fd (n + 1) N = fd n N ++ [dg N n] := by unfold fd; rw [List.range_succ, List.map_append]; rfl
theorem fd_zero (N : Nat) : fd 0 N = [] := rfl
theorem fd_len (n N : Nat) : (fd n N).length = n := by unfold fd; simp
theorem fd_get {n N i : Nat} (h : i < n) : (fd n N)[i]? = some (dg N i) := by unfold fd; simp [h]
theorem bl_le (N k : Nat) : bl N ≤ k ↔ N < 2 ^ k := by
  unfold bl
  split
  · next h => subst h; simp [Nat.two_pow_pos]
  · next h => rw [← Nat.log2_lt h]; omega
theorem nd_le (N k : Nat) : nd N ≤ k ↔ N < 65536 ^ k := by
  rw [pow_two]
  unfold nd
  split
  · next h => subst h; simp [Nat.two_pow_pos]
  · next h => rw [← Nat.log2_lt h]; omega
theorem lt_nd (N : Nat) : N < 65536 ^ nd N := (nd_le N _).1 (Nat.le_refl _)
theorem lt_bl (N : Nat) : N < 2 ^ bl N := (bl_le N _).1 (Nat.le_refl _)
theorem nd_lt (N k : Nat) : k < nd N ↔ 65536 ^ k ≤ N := by have := nd_le N k; omega
theorem nd_zero : nd 0 = 0 := by simp [nd]
theorem nd_eq_zero {N : Nat} : nd N = 0 ↔ N = 0 := by unfold nd; split <;> simp_all
theorem nd_mono {a b : Nat} (h : a ≤ b) : nd a ≤ nd b := (nd_le a _).2 (Nat.lt_of_le_of_lt h (lt_nd b))
theorem nd_bound {N k : Nat} (h : N < 2 ^ (16 * k)) : nd N ≤ k := (nd_le N k).2 (by rw [pow_two]; exact h)

theorem mod_succ (N i : Nat) : N % 65536 ^ (i + 1) = N % 65536 ^ i + 65536 ^ i * dg N i := by
  unfold dg; rw [Nat.pow_succ, Nat.mod_mul]
theorem div_succ (N i : Nat) : N / 65536 ^ i = 65536 * (N / 65536 ^ (i + 1)) + dg N i := by
  unfold dg; rw [Nat.pow_succ, ← Nat.div_div_eq_div_mul]; omega
theorem pow_le {i j : Nat} (h : i ≤ j) : 65536 ^ i ≤ 65536 ^ j := Nat.pow_le_pow_right (by decide) h

/-! A number below 65536^n is its n digits. -/
theorem dg_ext {a b n : Nat} (ha : a < 65536 ^ n) (hb : b < 65536 ^ n) (h : ∀ i, i < n → dg a i = dg b i) : a = b := by
  have : ∀ k, k ≤ n → a % 65536 ^ k = b % 65536 ^ k := by
    intro k
    induction k with
    | zero => intro _; simp [Nat.mod_one]
    | succ k ih => intro hk; rw [mod_succ, mod_succ, ih (by omega), h k (by omega)]
  have := this n (Nat.le_refl _)
  rwa [Nat.mod_eq_of_lt ha, Nat.mod_eq_of_lt hb] at this

theorem top_pos {N : Nat} (h : N ≠ 0) : 0 < dg N (nd N - 1) := by
  have h0 : 0 < nd N := by have := @nd_eq_zero N; omega
  have h1 : 65536 ^ (nd N - 1) ≤ N := (nd_lt N _).1 (by omega)
  have h2 := lt_nd N
  obtain ⟨k, hk⟩ : ∃ k, nd N = k + 1 := ⟨nd N - 1, by omega⟩
  rw [hk] at h1 h2 ⊢
  rw [Nat.add_sub_cancel] at h1 ⊢
  unfold dg
  rw [Nat.mod_eq_of_lt]
  · exact Nat.div_pos h1 (pow_pos k)
  · apply Nat.div_lt_of_lt_mul; rw [← Nat.pow_succ]; exact h2
/-- The digit on top. -/
theorem top_eq {N : Nat} (h : N ≠ 0) : dg N (nd N - 1) = N / 65536 ^ (nd N - 1) := by
  have h0 : 0 < nd N := by have := @nd_eq_zero N; omega
  have h2 := lt_nd N
  obtain ⟨k, hk⟩ : ∃ k, nd N = k + 1 := ⟨nd N - 1, by omega⟩
  rw [hk] at h2 ⊢
  rw [Nat.add_sub_cancel]
  unfold dg
  rw [Nat.mod_eq_of_lt]
  apply Nat.div_lt_of_lt_mul; rw [← Nat.pow_succ]; exact h2
theorem bl_top {N : Nat} (h : N ≠ 0) : bl N = 16 * (nd N - 1) + bl (dg N (nd N - 1)) := by
  have h0 : 0 < nd N := by have := @nd_eq_zero N; omega
  rw [top_eq h, pow_two]
  have h1 : 65536 ^ (nd N - 1) ≤ N := (nd_lt N _).1 (by omega)
  rw [pow_two] at h1
  generalize 16 * (nd N - 1) = k at *
  have hp := Nat.two_pow_pos k
  have hq : N / 2 ^ k ≠ 0 := by have := Nat.div_pos h1 hp; omega
  have hk : k ≤ N.log2 := (Nat.le_log2 h).2 h1
  have : (N / 2 ^ k).log2 = N.log2 - k := by
    apply log2_eq
    · rw [Nat.le_div_iff_mul_le hp, ← Nat.pow_add, show N.log2 - k + k = N.log2 by omega]; exact log2_le N h
    · apply Nat.div_lt_of_lt_mul
      rw [← Nat.pow_add, show k + (N.log2 - k + 1) = N.log2 + 1 by omega]; exact lt_log2 N
  unfold bl
  rw [if_neg h, if_neg hq, this]
  omega
theorem bl_half {N : Nat} (h : N ≠ 0) : bl N = bl (N / 2) + 1 := by
  have h1 : N / 2 < 2 ^ bl (N / 2) := lt_bl _
  have a : bl N ≤ bl (N / 2) + 1 := (bl_le N _).2 (by rw [Nat.pow_succ]; omega)
  have b : bl (N / 2) ≤ bl N - 1 := by
    rw [bl_le]
    have h2 := lt_bl N
    have h3 : bl N ≠ 0 := by unfold bl; rw [if_neg h]; omega
    obtain ⟨k, hk⟩ : ∃ k, bl N = k + 1 := ⟨bl N - 1, by omega⟩
    rw [hk, Nat.pow_succ] at h2
    rw [hk]
    simp only [Nat.add_sub_cancel]
    omega
  have h3 : bl N ≠ 0 := by unfold bl; rw [if_neg h]; omega
  omega
theorem bl_zero : bl 0 = 0 := by simp [bl]

/-! Sums. -/
def cyA (a b i : Nat) : Nat := (a % 65536 ^ i + b % 65536 ^ i) / 65536 ^ i
theorem cyA_zero (a b : Nat) : cyA a b 0 = 0 := by unfold cyA; simp [Nat.mod_one]
theorem cyA_le (a b i : Nat) : cyA a b i ≤ 1 := by
  unfold cyA
  have h := pow_pos i
  have h1 := Nat.mod_lt a h
  have h2 := Nat.mod_lt b h
  have : (a % 65536 ^ i + b % 65536 ^ i) / 65536 ^ i < 2 := by
    apply Nat.div_lt_of_lt_mul; omega
  omega
theorem cyA_step (a b i : Nat) : (cyA a b i + dg a i + dg b i) % 65536 = dg (a + b) i ∧ (cyA a b i + dg a i + dg b i) / 65536 = cyA a b (i + 1) := by
  have hP := pow_pos i
  constructor
  · unfold cyA dg
    have e : (a + b) / 65536 ^ i = a / 65536 ^ i + b / 65536 ^ i + (a % 65536 ^ i + b % 65536 ^ i) / 65536 ^ i := by
      have h1 := Nat.div_add_mod a (65536 ^ i)
      have h2 := Nat.div_add_mod b (65536 ^ i)
      have : a + b = (a % 65536 ^ i + b % 65536 ^ i) + 65536 ^ i * (a / 65536 ^ i + b / 65536 ^ i) := by rw [Nat.mul_add]; omega
      rw [this, Nat.add_mul_div_left _ _ hP]; omega
    rw [e]; omega
  · unfold cyA
    rw [mod_succ, mod_succ, Nat.pow_succ, ← Nat.div_div_eq_div_mul]
    have : a % 65536 ^ i + 65536 ^ i * dg a i + (b % 65536 ^ i + 65536 ^ i * dg b i) = (a % 65536 ^ i + b % 65536 ^ i) + 65536 ^ i * (dg a i + dg b i) := by rw [Nat.mul_add]; omega
    rw [this, Nat.add_mul_div_left _ _ hP]
    congr 1; omega
/-- While there is a digit or a carry, the sum has one more. -/
theorem cyA_more {a b i : Nat} (h : i < nd a ∨ i < nd b ∨ 0 < cyA a b i) : i < nd (a + b) := by
  rw [nd_lt]
  rcases h with h | h | h
  · have := (nd_lt a i).1 h; omega
  · have := (nd_lt b i).1 h; omega
  · have hP := pow_pos i
    have h1 : 65536 ^ i ≤ a % 65536 ^ i + b % 65536 ^ i := by
      rcases Nat.lt_or_ge (a % 65536 ^ i + b % 65536 ^ i) (65536 ^ i) with h2 | h2
      · unfold cyA at h; rw [Nat.div_eq_of_lt h2] at h; omega
      · exact h2
    have := Nat.mod_le a (65536 ^ i)
    have := Nat.mod_le b (65536 ^ i)
    omega
theorem cyA_done {a b i : Nat} (h1 : nd a ≤ i) (h2 : nd b ≤ i) (h3 : cyA a b i = 0) : nd (a + b) ≤ i := by
  rw [nd_le] at *
  have hP := pow_pos i
  unfold cyA at h3
  rw [Nat.mod_eq_of_lt h1, Nat.mod_eq_of_lt h2] at h3
  rcases Nat.lt_or_ge (a + b) (65536 ^ i) with h | h
  · exact h
  · have := Nat.div_pos h hP; omega

/-! Differences: a = b + c. -/
theorem sub_step (b c i : Nat) : ((dg (b + c) i : Int) - (cyA b c i : Int) - (dg b i : Int) < 0 ↔ cyA b c (i + 1) = 1) ∧
    (dg c i : Int) = (dg (b + c) i : Int) - (cyA b c i : Int) - (dg b i : Int) + 65536 * (cyA b c (i + 1) : Int) := by
  have h := cyA_step b c i
  have h1 := cyA_le b c (i + 1)
  have h2 := dg_lt c i
  have h3 := dg_lt b i
  have h4 := dg_lt (b + c) i
  have h5 := cyA_le b c i
  generalize dg (b + c) i = x at *
  generalize dg b i = y at *
  generalize dg c i = z at *
  generalize cyA b c i = k at *
  generalize cyA b c (i + 1) = m at *
  omega

/-! Times a digit. -/
def cyT (a n i : Nat) : Nat := a % 65536 ^ i * n / 65536 ^ i
theorem cyT_zero (a n : Nat) : cyT a n 0 = 0 := by unfold cyT; simp [Nat.mod_one]
theorem cyT_lt (a n i : Nat) (h : n < 65536) : cyT a n i < 65536 := by
  unfold cyT
  have hP := pow_pos i
  apply Nat.div_lt_of_lt_mul
  exact Nat.lt_of_le_of_lt (Nat.mul_le_mul_right n (Nat.le_of_lt (Nat.mod_lt a hP))) ((Nat.mul_lt_mul_left hP).2 h)
theorem cyT_step (a n i : Nat) : (cyT a n i + dg a i * n) % 65536 = dg (a * n) i ∧ (cyT a n i + dg a i * n) / 65536 = cyT a n (i + 1) := by
  have hP := pow_pos i
  constructor
  · unfold cyT dg
    have e : a * n / 65536 ^ i = a / 65536 ^ i * n + a % 65536 ^ i * n / 65536 ^ i := by
      have h1 := Nat.div_add_mod a (65536 ^ i)
      have : a * n = a % 65536 ^ i * n + 65536 ^ i * (a / 65536 ^ i * n) := by
        conv => lhs; rw [← h1]
        rw [Nat.add_mul, Nat.mul_assoc]; omega
      rw [this, Nat.add_mul_div_left _ _ hP]; omega
    rw [e, Nat.add_comm, Nat.add_mod, Nat.mul_mod]
    conv => rhs; rw [Nat.add_mod, Nat.mul_mod]
    simp
  · unfold cyT
    rw [mod_succ, Nat.pow_succ, ← Nat.div_div_eq_div_mul]
    have : (a % 65536 ^ i + 65536 ^ i * dg a i) * n = a % 65536 ^ i * n + 65536 ^ i * (dg a i * n) := by rw [Nat.add_mul, Nat.mul_assoc]
    rw [this, Nat.add_mul_div_left _ _ hP]
theorem cyT_top {a n i : Nat} (h : a < 65536 ^ i) (hn : n < 65536) : dg (a * n) i = cyT a n i ∧ a * n < 65536 ^ (i + 1) := by
  have hP := pow_pos i
  have h1 : a * n < 65536 ^ (i + 1) := by
    rw [Nat.pow_succ]
    rcases Nat.eq_zero_or_pos n with rfl | h0
    · rw [Nat.mul_zero]; exact Nat.mul_pos hP (by decide)
    · exact Nat.lt_of_lt_of_le ((Nat.mul_lt_mul_right h0).2 h) (Nat.mul_le_mul_left _ (by omega))
  refine ⟨?_, h1⟩
  unfold dg cyT
  rw [Nat.mod_eq_of_lt h, Nat.mod_eq_of_lt]
  apply Nat.div_lt_of_lt_mul
  rw [← Nat.pow_succ]; exact h1

/-! Division, a digit a time. -/
theorem div_step (a b i : Nat) (hb : 0 < b) : (a / 65536 ^ (i + 1) % b * 65536 + dg a i) / b = dg (a / b) i ∧
    (a / 65536 ^ (i + 1) % b * 65536 + dg a i) % b = a / 65536 ^ i % b := by
  have e := div_succ a i
  have h1 := Nat.div_add_mod (a / 65536 ^ (i + 1)) b
  have hx : a / 65536 ^ i = (a / 65536 ^ (i + 1) % b * 65536 + dg a i) + b * (65536 * (a / 65536 ^ (i + 1) / b)) := by
    rw [e]
    conv => lhs; rw [← h1]
    rw [Nat.mul_add, Nat.mul_left_comm]; omega
  constructor
  · have : dg (a / b) i = a / 65536 ^ i / b % 65536 := by
      unfold dg; rw [Nat.div_div_eq_div_mul, Nat.mul_comm b, ← Nat.div_div_eq_div_mul]
    rw [this, hx, Nat.add_mul_div_left _ _ hb, Nat.add_mul_mod_self_left]
    symm
    apply Nat.mod_eq_of_lt
    have h2 : a / 65536 ^ (i + 1) % b < b := Nat.mod_lt _ hb
    have h3 := dg_lt a i
    apply Nat.div_lt_of_lt_mul
    have : (a / 65536 ^ (i + 1) % b + 1) * 65536 ≤ b * 65536 := Nat.mul_le_mul_right _ h2
    omega
  · rw [hx, Nat.add_mul_mod_self_left]
theorem div_room (a b i : Nat) (hb : 0 < b) : a / 65536 ^ (i + 1) % b * 65536 + dg a i < 65536 * b := by
  have h2 : a / 65536 ^ (i + 1) % b < b := Nat.mod_lt _ hb
  have h3 := dg_lt a i
  have : (a / 65536 ^ (i + 1) % b + 1) * 65536 ≤ b * 65536 := Nat.mul_le_mul_right _ h2
  omega

/-! A digit put ahead: N * 65536 + d. -/
theorem dg_cons_zero (N d : Nat) (h : d < 65536) : dg (N * 65536 + d) 0 = d := by unfold dg; simp; omega
theorem dg_cons_succ (N d i : Nat) (h : d < 65536) : dg (N * 65536 + d) (i + 1) = dg N i := by
  unfold dg
  rw [Nat.pow_succ, Nat.mul_comm (65536 ^ i), ← Nat.div_div_eq_div_mul]
  congr 2; omega
theorem fd_cons (n N d : Nat) (h : d < 65536) : fd (n + 1) (N * 65536 + d) = d :: fd n N := by
  apply List.ext_getElem?
  intro i
  rcases i with _ | i
  · rw [fd_get (by omega), dg_cons_zero N d h]; rfl
  · rcases Nat.lt_or_ge i n with hi | hi
    · rw [fd_get (by omega), dg_cons_succ N d i h, List.getElem?_cons_succ, fd_get hi]
    · rw [List.getElem?_eq_none (by rw [fd_len]; omega), List.getElem?_cons_succ, List.getElem?_eq_none (by rw [fd_len]; omega)]
theorem cons_lt (n N d : Nat) (h : d < 65536) (hN : N < 65536 ^ n) : N * 65536 + d < 65536 ^ (n + 1) := by
  have : (N + 1) * 65536 ≤ 65536 ^ n * 65536 := Nat.mul_le_mul_right _ hN
  rw [Nat.pow_succ]; omega

/-! Noughts ahead. -/
theorem dg_shift_lo (M z i : Nat) (h : i < z) : dg (M * 65536 ^ z) i = 0 := by
  unfold dg
  obtain ⟨k, rfl⟩ : ∃ k, z = i + 1 + k := ⟨z - i - 1, by omega⟩
  rw [Nat.pow_add, Nat.pow_succ, show M * (65536 ^ i * 65536 * 65536 ^ k) = 65536 ^ i * (65536 * (M * 65536 ^ k)) by simp only [Nat.mul_assoc, Nat.mul_comm, Nat.mul_left_comm],
    Nat.mul_div_cancel_left _ (pow_pos i), Nat.mul_mod_right]
theorem dg_shift_hi (M z i : Nat) : dg (M * 65536 ^ z) (z + i) = dg M i := by
  unfold dg
  rw [Nat.pow_add, ← Nat.div_div_eq_div_mul, Nat.mul_div_cancel _ (pow_pos z)]
theorem fd_shift (M z n : Nat) : fd (z + n) (M * 65536 ^ z) = List.replicate z 0 ++ fd n M := by
  apply List.ext_getElem?
  intro i
  rcases Nat.lt_or_ge i z with hi | hi
  · rw [fd_get (by omega), dg_shift_lo M z i hi, List.getElem?_append_left (by simpa using hi), List.getElem?_replicate, if_pos hi]
  · obtain ⟨k, rfl⟩ : ∃ k, i = z + k := ⟨i - z, by omega⟩
    rw [List.getElem?_append_right (by simp), List.length_replicate, Nat.add_sub_cancel_left]
    rcases Nat.lt_or_ge k n with hk | hk
    · rw [fd_get (by omega), dg_shift_hi, fd_get hk]
    · rw [List.getElem?_eq_none (by rw [fd_len]; omega), List.getElem?_eq_none (by rw [fd_len]; omega)]

/-! Digits of a list. -/
def num : List Nat → Nat
  | [] => 0
  | d :: ds => num ds * 65536 + d
theorem num_lt (ds : List Nat) (h : ∀ d ∈ ds, d < 65536) : num ds < 65536 ^ ds.length := by
  induction ds with
  | nil => simp [num]
  | cons d ds ih =>
    exact cons_lt _ _ _ (h d (by simp)) (ih fun x hx => h x (by simp [hx]))
theorem fd_num (ds : List Nat) (h : ∀ d ∈ ds, d < 65536) : fd ds.length (num ds) = ds := by
  induction ds with
  | nil => rfl
  | cons d ds ih =>
    show fd (ds.length + 1) (num ds * 65536 + d) = _
    rw [fd_cons _ _ _ (h d (by simp)), ih fun x hx => h x (by simp [hx])]
theorem fd_ok (n N : Nat) : ∀ d ∈ fd n N, d < 65536 := by
  intro d hd
  unfold fd at hd
  obtain ⟨i, _, rfl⟩ := List.mem_map.1 hd
  exact dg_lt N i
theorem num_fd (n N : Nat) (h : N < 65536 ^ n) : num (fd n N) = N := by
  have h1 := num_lt (fd n N) (fd_ok n N)
  have h2 := fd_num (fd n N) (fd_ok n N)
  rw [fd_len] at h1 h2
  refine dg_ext h1 h fun i hi => ?_
  have := congrArg (fun l : List Nat => l[i]?) h2
  simp only [fd_get hi] at this
  exact Option.some.inj this
/-- One digit set. -/
theorem num_set (ds : List Nat) (i d : Nat) (x : Nat) (hx : ds[i]? = some x) : num (ds.set i d) + x * 65536 ^ i = num ds + d * 65536 ^ i := by
  induction ds generalizing i with
  | nil => simp at hx
  | cons y ds ih =>
    rcases i with _ | i
    · simp at hx; subst hx; simp [num]; omega
    · have := ih i (by simpa using hx)
      simp only [List.set_cons_succ, num, Nat.pow_succ]
      rw [← Nat.mul_assoc, ← Nat.mul_assoc]
      omega
/-- The digits above the top are noughts: what trim keeps. -/
theorem fd_take (n m N : Nat) (h : m ≤ n) : (fd n N).take m = fd m N := by
  apply List.ext_getElem?
  intro i
  rw [List.getElem?_take]
  rcases Nat.lt_or_ge i m with hi | hi
  · rw [if_pos hi, fd_get (by omega), fd_get hi]
  · rw [if_neg (by omega), List.getElem?_eq_none (by rw [fd_len]; omega)]

/-! How two numbers compare, from the top. -/
theorem cmp_step {a b i : Nat} (h : a / 65536 ^ (i + 1) = b / 65536 ^ (i + 1)) :
    (dg a i < dg b i → a < b) ∧ (dg b i < dg a i → b < a) ∧ (dg a i = dg b i → a / 65536 ^ i = b / 65536 ^ i) := by
  have e1 := div_succ a i
  have e2 := div_succ b i
  refine ⟨fun h1 => ?_, fun h1 => ?_, fun h1 => by omega⟩
  · rcases Nat.lt_or_ge a b with h2 | h2
    · exact h2
    · have : b / 65536 ^ i ≤ a / 65536 ^ i := Nat.div_le_div_right h2; omega
  · rcases Nat.lt_or_ge b a with h2 | h2
    · exact h2
    · have : a / 65536 ^ i ≤ b / 65536 ^ i := Nat.div_le_div_right h2; omega
theorem cmp_len {a b : Nat} (h : nd a < nd b) : a < b := by
  have h1 := lt_nd a
  have h2 := (nd_lt b (nd a)).1 h
  omega
def cmpN (a b : Nat) : Int := if a < b then -1 else if b < a then 1 else 0
end FloM

namespace FloM
open Ieee

def rung (m : Nat) (p : Int) : Nat := if m < 2 ^ 52 then m else if 2047 ≤ p + 1075 then cap else (p + 1075).toNat * 2 ^ 52 + (m - 2 ^ 52)
/-- pack. -/
def packR (m : Nat) (p : Int) : Nat := if m = 2 ^ 53 then rung (2 ^ 52) (p + 1) else rung m p
theorem pack_eq (m k : Nat) (hm : m ≤ 2 ^ 53) (hk : 0 < k → 2 ^ 52 ≤ m) : packR m ((k : Int) - 1074) = min (k * 2 ^ 52 + m) cap := by
  have hcap : cap = 2047 * 2 ^ 52 := rfl
  unfold packR rung
  by_cases h : m = 2 ^ 53
  · rw [if_pos h, if_neg (by omega)]
    by_cases h2 : 2047 ≤ (k : Int) - 1074 + 1 + 1075
    · rw [if_pos h2]; omega
    · rw [if_neg h2]
      have : ((k : Int) - 1074 + 1 + 1075).toNat = k + 2 := by omega
      rw [this]; omega
  · rw [if_neg h]
    by_cases h1 : m < 2 ^ 52
    · rw [if_pos h1]; omega
    · rw [if_neg h1]
      by_cases h2 : 2047 ≤ (k : Int) - 1074 + 1075
      · rw [if_pos h2]; omega
      · rw [if_neg h2]
        have : ((k : Int) - 1074 + 1075).toNat = k + 1 := by omega
        rw [this]; omega

/-- The last binary digit that is kept; what is kept. -/
def nearQ (m : Nat) (p : Int) : Int := max ((bl m : Int) + p - 53) (-1074)
def nearK (m : Nat) (p : Int) : Nat := if nearQ m p ≤ p then m * 2 ^ (p - nearQ m p).toNat else rhe m (2 ^ (nearQ m p - p).toNat)

theorem near_rq (m : Nat) (p : Int) (b : Nat) (hm : m ≠ 0) (hp : -1074 - (b : Int) ≤ p) :
    packR (nearK m p) (nearQ m p) = rq (m * 2 ^ (p + 1074 + b).toNat) (2 ^ b) ∧ nearK m p ≤ 2 ^ 53 ∧ (-1074 < nearQ m p → 2 ^ 52 ≤ nearK m p) := by
  obtain ⟨t, ht⟩ : ∃ t : Nat, (t : Int) = p + 1074 + b := ⟨(p + 1074 + b).toNat, by omega⟩
  rw [← ht, Int.toNat_natCast]
  have hbl : bl m = m.log2 + 1 := by unfold bl; rw [if_neg hm]
  have hk : (m * 2 ^ t / 2 ^ b).log2 - 52 = m.log2 + t - (b + 52) := by rw [log2_div_pow, log2_mul_pow _ _ hm]
  have k1 := kept_le (m * 2 ^ t) (2 ^ b)
  have k2 := kept_ge (m * 2 ^ t) (2 ^ b)
  unfold rq
  rw [hk] at k1 k2 ⊢
  generalize m.log2 = L at *
  generalize hkk : L + t - (b + 52) = k at *
  have hQ : nearQ m p = (k : Int) - 1074 := by unfold nearQ; rw [hbl]; omega
  have hK : nearK m p = rhe (m * 2 ^ t) (2 ^ b * 2 ^ k) := by
    unfold nearK
    rw [hQ, ← Nat.pow_add]
    rcases Nat.le_total (b + k) t with h1 | h1
    · rw [if_pos (by omega)]
      have : (p - ((k : Int) - 1074)).toNat = t - (b + k) := by omega
      rw [this]
      have e := rhe_mul (m * 2 ^ (t - (b + k))) 1 (2 ^ (b + k)) (Nat.two_pow_pos _)
      rw [Nat.one_mul, Nat.mul_assoc, ← Nat.pow_add, show t - (b + k) + (b + k) = t by omega, rhe_one] at e
      exact e.symm
    · have e := rhe_mul m (2 ^ (b + k - t)) (2 ^ t) (Nat.two_pow_pos _)
      rw [← Nat.pow_add, show b + k - t + t = b + k by omega] at e
      rw [e]
      by_cases h2 : (k : Int) - 1074 ≤ p
      · rw [if_pos h2]
        have a1 : (p - ((k : Int) - 1074)).toNat = 0 := by omega
        have a2 : b + k - t = 0 := by omega
        rw [a1, a2, Nat.pow_zero, Nat.mul_one, rhe_one]
      · rw [if_neg h2]
        have a1 : ((k : Int) - 1074 - p).toNat = b + k - t := by omega
        rw [a1]
  rw [hK, hQ]
  refine ⟨pack_eq _ _ k1 k2, k1, fun h => k2 (by omega)⟩

/-- Nearest. -/
def rNear (M : Nat) (P : Int) (s : Nat) : Nat := if M = 0 then 0 else packR (nearK (4 * M + s) (P - 2)) (nearQ (4 * M + s) (P - 2))

theorem rNear_rq (M : Nat) (P : Int) (b : Nat) (hP : -1074 - (b : Int) ≤ P) : rNear M P 0 = rq (M * 2 ^ (P + 1074 + b).toNat) (2 ^ b) := by
  unfold rNear
  split
  · next h => subst h; rw [Nat.zero_mul, rq_zero]
  · next h =>
    rw [Nat.add_zero, (near_rq (4 * M) (P - 2) (b + 2) (by omega) (by omega)).1]
    have : (P - 2 + 1074 + ((b + 2 : Nat) : Int)).toNat = (P + 1074 + b).toNat := by omega
    rw [this]
    apply rq_congr (Nat.two_pow_pos _) (Nat.two_pow_pos _)
    rw [Nat.pow_add 2 b 2]
    generalize 2 ^ (P + 1074 + ↑b).toNat = x
    generalize 2 ^ b = y
    rw [show (2:Nat) ^ 2 = 4 by decide]
    simp only [Nat.mul_assoc, Nat.mul_comm, Nat.mul_left_comm]

theorem rq_more (N D a b : Nat) (hD : 0 < D) (hq : 53 ≤ (N / D).log2) :
    rq (N * 2 ^ a) (D * 2 ^ b) = rq ((4 * (N / D) + (if N % D = 0 then 0 else 1)) * 2 ^ a) (2 ^ (b + 2)) := by
  rw [rq_sticky N D a b hD hq]
  generalize N / D = q at *
  generalize hs : (if N % D = 0 then 0 else 1) = s
  have hs1 : s ≤ 1 := by subst hs; split <;> omega
  have e := rq_sticky (4 * q + s) 4 a b (by omega) (by rw [show (4 * q + s) / 4 = q by omega]; exact hq)
  rw [show (4 * q + s) / 4 = q by omega, show (4 * q + s) % 4 = s by omega] at e
  have hs2 : (if s = 0 then 0 else 1) = s := by split <;> omega
  rw [hs2] at e
  rw [← e]
  congr 1
  rw [Nat.pow_add, Nat.mul_comm]

theorem rNear_more (N D : Nat) (P : Int) (b : Nat) (hD : 0 < D) (hq : 53 ≤ (N / D).log2) (hP : -1074 - (b : Int) ≤ P) :
    rNear (N / D) P (if N % D = 0 then 0 else 1) = rq (N * 2 ^ (P + 1074 + b).toNat) (D * 2 ^ b) := by
  have h0 : N / D ≠ 0 := by intro h; rw [h] at hq; simp at hq
  unfold rNear
  rw [if_neg h0, rq_more N D _ b hD hq, (near_rq _ (P - 2) (b + 2) (by omega) (by omega)).1]
  have : (P - 2 + 1074 + ((b + 2 : Nat) : Int)).toNat = (P + 1074 + b).toNat := by omega
  rw [this]

/-! The parts of a finite real: mg (rg u) times 2^(up (rg u) - 1074). -/
def pp (u : Nat) : Int := (up (rg u) : Int) - 1074

/-- R.Add at finite reals. -/
def addM (s t : Bool) (a b : Nat) : Nat := if s = t then a + b else if a < b then b - a else a - b
def addS (s t : Bool) (a b : Nat) : Bool := if s = t then s else if a = b then false else if b < a then s else t
theorem add_val (s t : Bool) (a b : Nat) : ((if s then -(a : Int) else a) + (if t then -(b : Int) else b)).natAbs = addM s t a b := by
  unfold addM
  cases s <;> cases t <;> simp <;> (repeat' split) <;> omega

theorem mg_up (u b : Nat) (h : b ≤ up (rg u)) : val (rg u) = mg (rg u) * 2 ^ (up (rg u) - b) * 2 ^ b := by
  rw [val_eq, Nat.mul_assoc, ← Nat.pow_add, show up (rg u) - b + b = up (rg u) by omega]

theorem addM_mul (s t : Bool) (a b c : Nat) (hc : 0 < c) : addM s t (a * c) (b * c) = addM s t a b * c := by
  unfold addM
  have := @Nat.mul_lt_mul_right c a b hc
  split
  · rw [Nat.add_mul]
  · by_cases h : a < b
    · rw [if_pos h, if_pos (this.2 h), Nat.sub_mul]
    · rw [if_neg h, if_neg (by rw [this]; exact h), Nat.sub_mul]
theorem addS_mul (s t : Bool) (a b c : Nat) (hc : 0 < c) : addS s t (a * c) (b * c) = addS s t a b := by
  unfold addS
  have h1 := @Nat.mul_lt_mul_right c b a hc
  have h2 : a * c = b * c ↔ a = b := Nat.mul_left_inj (by omega)
  simp only [h1, h2]

theorem add_sign (s t : Bool) (a b : Nat) (h : ¬ (a = 0 ∧ b = 0)) :
    (if (if s then -(a : Int) else a) + (if t then -(b : Int) else b) = 0 then s && t else decide ((if s then -(a : Int) else a) + (if t then -(b : Int) else b) < 0)) = addS s t a b := by
  unfold addS
  rcases Nat.lt_trichotomy a b with h1 | h1 | h1 <;> cases s <;> cases t <;> simp only [Bool.false_eq_true, Bool.true_eq_false, if_false, if_true, Bool.and_true, Bool.and_false, Bool.and_self] <;>
    (repeat' first | rw [if_pos (by omega)] | rw [if_neg (by omega)]) <;> simp <;> omega

/-- The least power of two of the two. -/
def lo (u v : Nat) : Nat := min (up (rg u)) (up (rg v))
theorem radd_fin {u v : Nat} (hu : rg u < cap) (hv : rg v < cap) (h0 : ¬ (rg u = 0 ∧ rg v = 0)) :
    double.add u v = some (wd (addS (sgn u) (sgn v) (mg (rg u) * 2 ^ (up (rg u) - lo u v)) (mg (rg v) * 2 ^ (up (rg v) - lo u v)))
      (rNear (addM (sgn u) (sgn v) (mg (rg u) * 2 ^ (up (rg u) - lo u v)) (mg (rg v) * 2 ^ (up (rg v) - lo u v))) ((lo u v : Int) - 1074) 0)) := by
  rw [add_fin hu hv, rNear_rq _ _ 0 (by omega)]
  have e : ((lo u v : Int) - 1074 + 1074 + ((0 : Nat) : Int)).toNat = lo u v := by omega
  rw [e, Nat.pow_zero]
  have hp := Nat.two_pow_pos (lo u v)
  rw [← addM_mul _ _ _ _ _ hp, ← addS_mul _ _ _ _ _ hp, ← mg_up u (lo u v) (Nat.min_le_left _ _), ← mg_up v (lo u v) (Nat.min_le_right _ _)]
  unfold sv
  rw [add_val, add_sign _ _ _ _ (by rw [val_eq_zero, val_eq_zero]; exact h0)]

theorem rmul_fin {u v : Nat} (hu : rg u < cap) (hv : rg v < cap) :
    double.mul u v = some (wd (sgn u ^^ sgn v) (rNear (mg (rg u) * mg (rg v)) (pp u + pp v) 0)) := by
  rw [mul_fin hu hv, rNear_rq _ _ e74 (by unfold pp e74; omega)]
  have e : (pp u + pp v + 1074 + (e74 : Int)).toNat = up (rg u) + up (rg v) := by unfold pp e74; omega
  rw [e, ← KK_eq, val_eq, val_eq, Nat.pow_add]
  refine congrArg some (congrArg (wd _) (congrArg (fun x => rq x KK) ?_))
  generalize 2 ^ up (rg u) = a
  generalize 2 ^ up (rg v) = b
  simp only [Nat.mul_comm, Nat.mul_left_comm]

theorem mg_pos {u : Nat} (h : rg u ≠ 0) : 0 < mg (rg u) := by
  have := @mg_zero (rg u); omega

theorem rdiv_fin {u v : Nat} (hu : rg u < cap) (hv : rg v < cap) (h0 : rg u ≠ 0) (h1 : rg v ≠ 0) :
    double.div u v = some (wd (sgn u ^^ sgn v) (rNear (mg (rg u) * 2 ^ 128 / mg (rg v)) (pp u - pp v - 128) (if mg (rg u) * 2 ^ 128 % mg (rg v) = 0 then 0 else 1))) := by
  have hm := mg_pos h0
  have hn := mg_pos h1
  have hn2 := mg_lt (rg v)
  have hq : 53 ≤ (mg (rg u) * 2 ^ 128 / mg (rg v)).log2 := by
    have : 2 ^ 53 ≤ mg (rg u) * 2 ^ 128 / mg (rg v) := by
      rw [Nat.le_div_iff_mul_le hn]
      calc 2 ^ 53 * mg (rg v) ≤ 2 ^ 53 * 2 ^ 53 := Nat.mul_le_mul_left _ (Nat.le_of_lt hn2)
        _ ≤ 1 * 2 ^ 128 := by decide
        _ ≤ mg (rg u) * 2 ^ 128 := Nat.mul_le_mul_right _ hm
    rw [Nat.le_log2 (by have := Nat.two_pow_pos 53; omega)]
    exact this
  have hU : up (rg v) ≤ 2045 := by
    unfold up
    have : rg v / 2 ^ 52 < 2047 := Nat.div_lt_of_lt_mul (by have : cap = 2 ^ 52 * 2047 := by decide
                                                            omega)
    omega
  rw [div_fin hu hv h1, rNear_more _ _ _ (up (rg v) + 128) hn hq (by unfold pp; omega)]
  have e : (pp u - pp v - 128 + 1074 + ((up (rg v) + 128 : Nat) : Int)).toNat = up (rg u) + e74 := by unfold pp e74; omega
  rw [e]
  refine congrArg some (congrArg (wd _) ?_)
  apply rq_congr (by rw [val_eq]; exact Nat.mul_pos hn (Nat.two_pow_pos _)) (Nat.mul_pos hn (Nat.two_pow_pos _))
  rw [val_eq, val_eq, KK_eq, Nat.pow_add 2 (up (rg v)) 128, Nat.pow_add 2 (up (rg u)) e74]
  generalize 2 ^ up (rg u) = a
  generalize 2 ^ up (rg v) = b
  generalize 2 ^ e74 = c
  generalize (2:Nat) ^ 128 = d
  simp only [Nat.mul_comm, Nat.mul_left_comm]

theorem rint_all (n : Int) : ofI n = wd (decide (n < 0)) (rNear n.natAbs 0 0) := by
  unfold ofI
  rw [rNear_rq _ _ 0 (by omega)]
  have e : ((0 : Int) + 1074 + ((0 : Nat) : Int)).toNat = e74 := by unfold e74; omega
  rw [e, ← KK_eq, Nat.pow_zero]

theorem rNear_le (M : Nat) (P : Int) (s : Nat) : rNear M P s ≤ cap := by
  unfold rNear
  split
  · exact Nat.zero_le _
  · next h =>
    have h1 : 4 * M + s ≠ 0 := by omega
    rw [(near_rq (4 * M + s) (P - 2) (-1074 - (P - 2)).toNat h1 (by omega)).1]
    exact rq_le _ _
end FloM
