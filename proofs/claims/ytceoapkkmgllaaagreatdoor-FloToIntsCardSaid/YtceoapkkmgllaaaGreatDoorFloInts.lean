/- Whole numbers out of 64-bit reals, and back: plain. -/
import Derived.Test.YtceoapkkmgllaaaGreatDoorFloOrder
namespace FloM
open Ieee

theorem div_mod_far {n drop : Nat} (h : n.log2 + 2 ≤ drop) : n < 2 ^ drop := by
  have h1 : n < 2 ^ (n.log2 + 1) := lt_log2 n
  have h3 : (2:Nat) ^ (n.log2 + 1) ≤ 2 ^ drop := Nat.pow_le_pow_right (by omega) (by omega)
  omega

/-- What a way makes of an amount n / d. -/
def cutW (way : Toward) (neg : Bool) (n d : Nat) : Nat :=
  match way with
  | .even => rhe n d
  | .down => n / d + (neg && n % d != 0).toNat
  | .up => n / d + (!neg && n % d != 0).toNat
  | .zero => n / d

theorem cut_gen (way : Toward) (neg : Bool) (n drop : Nat) : way.cut neg n drop = cutW way neg n (2 ^ drop) := by
  cases way
  case even => exact cut_even neg n drop
  all_goals
    unfold Toward.cut cutW
    simp only [Nat.shiftLeft_eq, Nat.one_mul]
    rcases Nat.le_total drop (n.log2 + 2) with h | h
    · rw [Nat.min_eq_left h]
      try simp
    · rw [Nat.min_eq_right h]
      have h1 : n < 2 ^ (n.log2 + 1) := lt_log2 n
      have h2 : (2:Nat) ^ (n.log2 + 2) = 2 * 2 ^ (n.log2 + 1) := by rw [Nat.pow_succ, Nat.mul_comm]
      have h3 := div_mod_far h
      simp only [Nat.div_eq_of_lt (show n < 2 ^ (n.log2 + 2) by omega), Nat.mod_eq_of_lt (show n < 2 ^ (n.log2 + 2) by omega),
        Nat.div_eq_of_lt h3, Nat.mod_eq_of_lt h3, Nat.zero_add, Bool.toNat_false]

theorem cutW_mul (way : Toward) (neg : Bool) (n d c : Nat) (hc : 0 < c) : cutW way neg (n * c) (d * c) = cutW way neg n d := by
  have hm : (n % d * c != 0) = (n % d != 0) := by
    by_cases h : n % d = 0
    · rw [h, Nat.zero_mul]
    · have : n % d * c ≠ 0 := Nat.mul_ne_zero h (by omega)
      rw [bne_iff_ne.2 h, bne_iff_ne.2 this]
  cases way <;> simp only [cutW, rhe_mul _ _ _ hc, Nat.mul_div_mul_right _ _ hc, Nat.mul_mod_mul_right, hm]

/-- The amount of a finite real made whole. -/
def iv (way : Toward) (u : Nat) : Nat := cutW way (sgn u) (val (rg u)) KK

theorem integral_num {u : Nat} (h : rg u < cap) (way : Toward) : (double.read u).integral way = .number (sgn u) (iv way u) 0 := by
  rw [read_num h]
  simp only [Datum.integral]
  rw [cut_gen, Nat.shiftLeft_eq]
  refine congrArg (fun z => Datum.number (sgn u) z 0) ?_
  unfold iv
  rw [val_eq, KK_eq]
  have h74 := e74_eq
  rcases Nat.le_total (up (rg u)) e74 with hu | hu
  · have e1 : (-1074 + (up (rg u) : Int)).toNat = 0 := by omega
    have e2 : (-(-1074 + (up (rg u) : Int))).toNat = e74 - up (rg u) := by omega
    rw [e1, e2, Nat.pow_zero, Nat.mul_one, ← cutW_mul way (sgn u) (mg (rg u)) (2 ^ (e74 - up (rg u))) (2 ^ up (rg u)) (Nat.two_pow_pos _), ← Nat.pow_add,
      show e74 - up (rg u) + up (rg u) = e74 by omega]
  · have e1 : (-1074 + (up (rg u) : Int)).toNat = up (rg u) - e74 := by omega
    have e2 : (-(-1074 + (up (rg u) : Int))).toNat = 0 := by omega
    rw [e1, e2, Nat.pow_zero, ← cutW_mul way (sgn u) (mg (rg u) * 2 ^ (up (rg u) - e74)) 1 (2 ^ e74) (Nat.two_pow_pos _), Nat.one_mul, Nat.mul_assoc, ← Nat.pow_add,
      show up (rg u) - e74 + e74 = up (rg u) by omega]

/-- An amount of few digits is a real. -/
theorem val_repr (n e : Nat) (hn : n < 2 ^ 53) (he : e ≤ 1900) : ∃ r, r < cap ∧ val r = n * 2 ^ e := by
  have hcap : cap = 2047 * 2 ^ 52 := rfl
  rcases Nat.eq_zero_or_pos n with rfl | h0
  · exact ⟨0, by decide, by rw [val_zero, Nat.zero_mul]⟩
  have h1 := log2_le n (by omega)
  have h2 := lt_log2 n
  have hL : n.log2 < 53 := (Nat.log2_lt (by omega)).2 hn
  generalize hl : n.log2 = L at *
  rcases Nat.lt_or_ge (L + e) 52 with hs | hs
  · have : n * 2 ^ e < 2 ^ 52 := by
      calc n * 2 ^ e < 2 ^ (L + 1) * 2 ^ e := (Nat.mul_lt_mul_right (Nat.two_pow_pos _)).2 h2
        _ = 2 ^ (L + 1 + e) := (Nat.pow_add _ _ _).symm
        _ ≤ 2 ^ 52 := Nat.pow_le_pow_right (by omega) (by omega)
    refine ⟨n * 2 ^ e, by omega, ?_⟩
    unfold val; rw [if_pos this]
  · obtain ⟨t, ht⟩ : ∃ t, L + t = 52 := ⟨52 - L, by omega⟩
    obtain ⟨x, hx⟩ : ∃ x, e = t + x := ⟨e - t, by omega⟩
    have b1 : 2 ^ 52 ≤ n * 2 ^ t := by
      calc 2 ^ 52 = 2 ^ L * 2 ^ t := by rw [← Nat.pow_add, ht]
        _ ≤ n * 2 ^ t := Nat.mul_le_mul_right _ h1
    have b2 : n * 2 ^ t < 2 ^ 53 := by
      calc n * 2 ^ t < 2 ^ (L + 1) * 2 ^ t := (Nat.mul_lt_mul_right (Nat.two_pow_pos _)).2 h2
        _ = 2 ^ (L + 1 + t) := (Nat.pow_add _ _ _).symm
        _ = 2 ^ 53 := by congr 1; omega
    rw [hx, Nat.pow_add, ← Nat.mul_assoc]
    generalize n * 2 ^ t = M at *
    refine ⟨(x + 1) * 2 ^ 52 + (M - 2 ^ 52), by omega, ?_⟩
    have d1 : ((x + 1) * 2 ^ 52 + (M - 2 ^ 52)) / 2 ^ 52 = x + 1 := by omega
    have d2 : ((x + 1) * 2 ^ 52 + (M - 2 ^ 52)) % 2 ^ 52 = M - 2 ^ 52 := by omega
    unfold val
    rw [if_neg (by omega), d1, d2, show 2 ^ 52 + (M - 2 ^ 52) = M by omega, show x + 1 - 1 = x by omega]

theorem mg_lt (r : Nat) : mg r < 2 ^ 53 := by
  unfold mg
  have : r % 2 ^ 52 < 2 ^ 52 := Nat.mod_lt _ (by omega)
  split <;> omega

/-- What is made whole is a real itself. -/
theorem iv_repr {u : Nat} (h : rg u < cap) (way : Toward) : ∃ r, r < cap ∧ val r = iv way u * KK := by
  have h74 := e74_eq
  have hKp := KK_pos
  rcases Nat.lt_or_ge (up (rg u)) e74 with hu | hu
  · have hq : val (rg u) / KK < 2 ^ 52 := by
      rw [val_eq, KK_eq]
      apply Nat.div_lt_of_lt_mul
      have := mg_lt (rg u)
      calc mg (rg u) * 2 ^ up (rg u) < 2 ^ 53 * 2 ^ up (rg u) := (Nat.mul_lt_mul_right (Nat.two_pow_pos _)).2 this
        _ = 2 ^ (53 + up (rg u)) := (Nat.pow_add _ _ _).symm
        _ ≤ 2 ^ (e74 + 52) := Nat.pow_le_pow_right (by omega) (by omega)
        _ = 2 ^ e74 * 2 ^ 52 := Nat.pow_add _ _ _
    have hi : iv way u ≤ 2 ^ 52 := by
      have b1 : ∀ b : Bool, b.toNat ≤ 1 := by intro b; cases b <;> decide
      unfold iv
      cases way <;> simp only [cutW]
      · have := (rhe_le (val (rg u)) KK).2; omega
      · have := b1 (sgn u && val (rg u) % KK != 0); omega
      · have := b1 (!sgn u && val (rg u) % KK != 0); omega
      · omega
    exact val_repr _ _ (by omega) (by omega)
  · refine ⟨rg u, h, ?_⟩
    have hd : val (rg u) = mg (rg u) * 2 ^ (up (rg u) - e74) * KK := by
      rw [val_eq, KK_eq, Nat.mul_assoc, ← Nat.pow_add, show up (rg u) - e74 + e74 = up (rg u) by omega]
    unfold iv
    rw [hd]
    generalize mg (rg u) * 2 ^ (up (rg u) - e74) = k
    have := cutW_mul way (sgn u) k 1 KK hKp
    rw [Nat.one_mul] at this
    rw [this]
    cases way <;> simp [cutW, rhe_one, Nat.mod_one]

/-- The bits of a finite real made whole. -/
theorem write_integral {u : Nat} (h : rg u < cap) (way : Toward) :
    ∃ r, r < cap ∧ val r = iv way u * KK ∧ double.write ((double.read u).integral way) = wd (sgn u) r := by
  obtain ⟨r, hr, hv⟩ := iv_repr h way
  refine ⟨r, hr, hv, ?_⟩
  rw [integral_num h]
  simp only [Format.write]
  have h74 := e74_eq
  rw [nearest_rq _ _ _ 0 (by omega), word_wd]
  have e1 : ((0 : Int) + 1074 + ((0 : Nat) : Int)).toNat = e74 := by omega
  rw [e1, ← KK_eq, ← hv, Nat.pow_zero, rq_val, Nat.min_eq_left (by omega)]

/-- The int of a finite real made whole. -/
def ii (way : Toward) (u : Nat) : Int := if sgn u then -(iv way u : Int) else iv way u

/-- What the four ways to an int tell. -/
def toI (way : Toward) (u : Nat) : Int × Int :=
  if cap < rg u then (0, 20) else if rg u = cap then (0, 10)
  else if ii way u < -4611686018427387904 ∨ 4611686018427387904 ≤ ii way u then (0, 10) else (ii way u, 0)

/-- The nearest real of an int. -/
def ofI (n : Int) : Nat := wd (decide (n < 0)) (rq (n.natAbs * KK) 1)

theorem nearest_int (n : Int) : double.write (.number (n < 0) n.natAbs 0) = ofI n := by
  simp only [Format.write]
  have h74 := e74_eq
  rw [nearest_rq _ _ _ 0 (by omega), word_wd]
  have e1 : ((0 : Int) + 1074 + ((0 : Nat) : Int)).toNat = e74 := by omega
  rw [e1, ← KK_eq, Nat.pow_zero]
  rfl

theorem sv_ofI (n : Int) : sv (ofI n) = rv (n * KK) := by
  unfold ofI
  have hp := KK_pos
  rw [sv_wd (rq_lt _ _)]
  unfold rv
  rw [Int.natAbs_mul, Int.natAbs_natCast]
  have : (n * (KK : Int) < 0) ↔ n < 0 := by
    constructor
    · intro h
      rcases Int.lt_or_le n 0 with h1 | h1
      · exact h1
      · have := Int.mul_nonneg h1 (show (0 : Int) ≤ (KK : Int) by omega); omega
    · intro h; exact Int.mul_neg_of_neg_of_pos h (by omega)
  simp only [this, decide_eq_true_eq]

theorem rg_ofI_le (n : Int) : rg (ofI n) ≤ cap := by
  unfold ofI; rw [rg_wd _ _ (rq_lt _ _)]; exact rq_le _ _

/-- A whole real comes back from its int. -/
theorem sv_back {u : Nat} (h : rg u < cap) (way : Toward) : sv (ofI (ii way u)) = ii way u * KK := by
  obtain ⟨r, hr, hv⟩ := iv_repr h way
  rw [sv_ofI]
  unfold rv
  have hp := KK_pos
  have hn : (ii way u).natAbs = iv way u := by unfold ii; split <;> omega
  rw [Int.natAbs_mul, Int.natAbs_natCast, hn, ← hv, rq_val, Nat.min_eq_left (by omega), hv]
  unfold ii
  generalize iv way u = k
  by_cases h0 : k = 0
  · subst h0; simp
  cases sgn u
  · simp only [Bool.false_eq_true, if_false]
    rw [if_neg]
    · exact Int.natCast_mul _ _
    · have : (0 : Int) ≤ (k : Int) * (KK : Int) := Int.mul_nonneg (by omega) (by omega)
      omega
  · simp only [if_true]
    rw [if_pos, Int.natCast_mul, Int.neg_mul]
    rw [Int.neg_mul]
    have : (0 : Int) < (k : Int) * (KK : Int) := Int.mul_pos (by omega) (by omega)
    omega

end FloM
