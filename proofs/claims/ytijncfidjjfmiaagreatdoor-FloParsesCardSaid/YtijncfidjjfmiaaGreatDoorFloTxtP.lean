/- Plain facts for the reference's texts: what decimal, cut and against reckon. -/
import Derived.Test.YtijncfidjjfmiaaGreatDoorFloPows
import Derived.Test.YtijncfidjjfmiaaGreatDoorFloBase
namespace FloM

theorem tA_n (n : Nat) : tA (n : Int) = 10 ^ n ∧ tB (n : Int) = 1 := by
  unfold tA tB
  rw [Int.toNat_natCast, show (-(n : Int)).toNat = 0 by omega]; exact ⟨rfl, rfl⟩
theorem tA_m (n : Nat) : tA (-(n : Int)) = 1 ∧ tB (-(n : Int)) = 10 ^ n := by
  unfold tA tB
  rw [Int.neg_neg, Int.toNat_natCast, show (-(n : Int)).toNat = 0 by omega]; exact ⟨rfl, rfl⟩

/-- decimal, at a power that is not below 0. -/
theorem dec_pos (d n : Nat) : rNear (d * 10 ^ n) 0 0 = rq (d * tA (n : Int) * KK) (tB (n : Int)) := by
  rw [rNear_rq _ _ 0 (by omega), (tA_n n).1, (tA_n n).2, show ((0 : Int) + 1074 + ((0 : Nat) : Int)).toNat = 1074 from rfl, ← KK_val, Nat.pow_zero]

theorem dec_neg0 (n L : Nat) (d : Nat) (hl : n < 2 ^ L) (ht : 0 < n) (h0 : 0 < d) : 53 ≤ (d * 2 ^ (L + 128) / n).log2 := by
  have this : 2 ^ 53 ≤ d * 2 ^ (L + 128) / n := by
    rw [Nat.le_div_iff_mul_le ht]
    have h1 : 2 ^ 53 * n ≤ 2 ^ 53 * 2 ^ L := Nat.mul_le_mul_left _ (Nat.le_of_lt hl)
    have h2 : 2 ^ (L + 128) = 2 ^ 53 * 2 ^ L * 2 ^ 75 := by rw [← Nat.pow_add, ← Nat.pow_add]; congr 1; omega
    have h3 : 2 ^ 53 * 2 ^ L ≤ 2 ^ 53 * 2 ^ L * 2 ^ 75 := Nat.le_mul_of_pos_right _ (Nat.two_pow_pos _)
    have h4 : 2 ^ (L + 128) ≤ d * 2 ^ (L + 128) := Nat.le_mul_of_pos_left _ h0
    rw [← h2] at h3
    exact Nat.le_trans h1 (Nat.le_trans h3 h4)
  exact (Nat.le_log2 (Nat.ne_of_gt (Nat.lt_of_lt_of_le (Nat.two_pow_pos 53) this))).2 this

/-- decimal, at a power below 0. -/
theorem dec_neg (d n L : Nat) (hL : bl (10 ^ n) = L) : rNear (d * 2 ^ (L + 128) / 10 ^ n) (-((L + 128 : Nat) : Int)) (if d * 2 ^ (L + 128) % 10 ^ n = 0 then 0 else 1) = rq (d * tA (-(n : Int)) * KK) (tB (-(n : Int))) := by
  rw [(tA_m n).1, (tA_m n).2, Nat.mul_one]
  have hl : 10 ^ n < 2 ^ L := (bl_le _ _).1 (Nat.le_of_eq hL)
  have ht : 0 < 10 ^ n := Nat.pow_pos (by decide)
  clear hL
  generalize 10 ^ n = t at *
  rcases Nat.eq_zero_or_pos d with rfl | h0
  · rw [Nat.zero_mul, Nat.zero_div, Nat.zero_mul, rq_zero]; rfl
  rw [rNear_more _ _ _ (L + 128) ht (dec_neg0 t L d hl ht h0) (by omega)]
  have e : (-((L + 128 : Nat) : Int) + 1074 + ((L + 128 : Nat) : Int)).toNat = 1074 := by omega
  rw [e, ← KK_val]
  refine rq_congr (Nat.mul_pos ht (Nat.two_pow_pos _)) ht ?_
  generalize 2 ^ (L + 128) = X
  grind

/-- A power of two, up and down. -/
theorem two_up (P : Int) (i : Nat) (h : P = (i : Int) - 1074) : 2 ^ P.toNat * KK = 2 ^ i * 2 ^ (-P).toNat := by
  subst h
  have h2 := e74_eq
  rw [KK_eq, ← Nat.pow_add, ← Nat.pow_add]; congr 1; omega

theorem cut_eq (r : Nat) (P s : Int) (h : P = (up r : Int) - 1074) : mg r * 2 ^ P.toNat * tB s / (2 ^ (-P).toNat * tA s) = rFl r s := by
  have e := two_up P (up r) h
  unfold rFl
  rw [val_eq]
  refine div_congr (Nat.mul_pos (Nat.two_pow_pos _) (tA_pos s)) (Nat.mul_pos (tA_pos s) KK_pos) ?_
  generalize 2 ^ P.toNat = X at *
  generalize 2 ^ (-P).toNat = Y at *
  generalize 2 ^ up r = Z at *
  generalize tA s = A
  generalize tB s = B
  generalize mg r = M
  generalize KK = K at *
  have : M * X * B * (A * K) = M * B * A * (X * K) := by grind
  rw [this, e]; grind

theorem cmpN_scale {a b c : Nat} (hc : 0 < c) : cmpN (a * c) (b * c) = cmpN a b := by
  unfold cmpN
  simp only [Nat.mul_lt_mul_right hc]

theorem cmp_eq_val (r d m : Nat) (P s : Int) (h : P = (up r : Int) - 1074) : cmpN (d * tA s * 2 ^ (-P).toNat) (m * mg r * tB s * 2 ^ P.toNat) = cmpN (d * tA s * KK) (m * val r * tB s) := by
  have e := two_up P (up r) h
  rw [val_eq]
  have hX : 0 < 2 ^ P.toNat := Nat.two_pow_pos _
  have hZ : 0 < 2 ^ up r := Nat.two_pow_pos _
  generalize 2 ^ P.toNat = X at *
  generalize 2 ^ (-P).toNat = Y at *
  generalize 2 ^ up r = Z at *
  generalize tA s = A
  generalize tB s = B
  generalize mg r = M
  generalize KK = K at *
  rw [← cmpN_scale hZ, ← cmpN_scale (a := d * A * K) hX]
  have e1 : d * A * Y * Z = d * A * K * X := by
    have : d * A * Y * Z = d * A * (Z * Y) := by grind
    rw [this, ← e]; grind
  have e2 : m * M * B * X * Z = m * (M * Z) * B * X := by grind
  rw [e1, e2]

/-- Tests on which is greater. -/
theorem cmpN_le {a b : Nat} : cmpN a b ≤ 0 ↔ a ≤ b := by
  unfold cmpN
  split
  · omega
  · split <;> omega
theorem cmpN_gt' {a b : Nat} : 0 < cmpN a b ↔ b < a := by
  unfold cmpN
  split
  · omega
  · split <;> omega
theorem cmpN_z {a b : Nat} : cmpN a b = 0 ↔ a = b := by
  unfold cmpN
  split
  · omega
  · split <;> omega

/-- The reference's first guess of the power lies below. -/
def guess (L : Int) : Int := (L * 30103).tdiv 100000 - 2
def guessOk (j : Nat) : Bool := Nat.ble (tA (guess ((j : Int) - 1100)) * 2 ^ (1 - ((j : Int) - 1100)).toNat) (tB (guess ((j : Int) - 1100)) * 2 ^ ((j : Int) - 1100 - 1).toNat)
theorem guess_ok0 : below (fun j => guessOk (0 + j)) 256 = true := by decide +kernel
theorem guess_ok1 : below (fun j => guessOk (256 + j)) 256 = true := by decide +kernel
theorem guess_ok2 : below (fun j => guessOk (512 + j)) 256 = true := by decide +kernel
theorem guess_ok3 : below (fun j => guessOk (768 + j)) 256 = true := by decide +kernel
theorem guess_ok4 : below (fun j => guessOk (1024 + j)) 256 = true := by decide +kernel
theorem guess_ok5 : below (fun j => guessOk (1280 + j)) 256 = true := by decide +kernel
theorem guess_ok6 : below (fun j => guessOk (1536 + j)) 256 = true := by decide +kernel
theorem guess_ok7 : below (fun j => guessOk (1792 + j)) 256 = true := by decide +kernel
theorem guess_ok8 : below (fun j => guessOk (2048 + j)) 256 = true := by decide +kernel
theorem guess_ok (j : Nat) (hj : j < 2304) : guessOk j = true := by
  rcases Nat.lt_or_ge j 256 with h0 | h0
  · have := below_of guess_ok0 (j - 0) (by omega)
    rwa [show 0 + (j - 0) = j by omega] at this
  rcases Nat.lt_or_ge j 512 with h1 | h1
  · have := below_of guess_ok1 (j - 256) (by omega)
    rwa [show 256 + (j - 256) = j by omega] at this
  rcases Nat.lt_or_ge j 768 with h2 | h2
  · have := below_of guess_ok2 (j - 512) (by omega)
    rwa [show 512 + (j - 512) = j by omega] at this
  rcases Nat.lt_or_ge j 1024 with h3 | h3
  · have := below_of guess_ok3 (j - 768) (by omega)
    rwa [show 768 + (j - 768) = j by omega] at this
  rcases Nat.lt_or_ge j 1280 with h4 | h4
  · have := below_of guess_ok4 (j - 1024) (by omega)
    rwa [show 1024 + (j - 1024) = j by omega] at this
  rcases Nat.lt_or_ge j 1536 with h5 | h5
  · have := below_of guess_ok5 (j - 1280) (by omega)
    rwa [show 1280 + (j - 1280) = j by omega] at this
  rcases Nat.lt_or_ge j 1792 with h6 | h6
  · have := below_of guess_ok6 (j - 1536) (by omega)
    rwa [show 1536 + (j - 1536) = j by omega] at this
  rcases Nat.lt_or_ge j 2048 with h7 | h7
  · have := below_of guess_ok7 (j - 1792) (by omega)
    rwa [show 1792 + (j - 1792) = j by omega] at this
  rcases Nat.lt_or_ge j 2304 with h8 | h8
  · have := below_of guess_ok8 (j - 2048) (by omega)
    rwa [show 2048 + (j - 2048) = j by omega] at this
  omega

theorem bl_low {M : Nat} (hM : M ≠ 0) : 1 ≤ bl M ∧ 2 ^ (bl M - 1) ≤ M := by
  have h1 : bl M ≠ 0 := fun h => by have := (bl_le M 0).1 (by omega); omega
  refine ⟨by omega, Nat.le_of_not_lt fun h => ?_⟩
  have := (bl_le M (bl M - 1)).2 h
  omega

theorem guess_le (M : Nat) (P : Int) (hM : M ≠ 0) (h1 : -1100 ≤ (bl M : Int) + P) (h2 : (bl M : Int) + P ≤ 1200) :
    tA (guess ((bl M : Int) + P)) * 2 ^ (-P).toNat ≤ M * tB (guess ((bl M : Int) + P)) * 2 ^ P.toNat := by
  have g := guess_ok ((bl M : Int) + P + 1100).toNat (by omega)
  unfold guessOk at g
  rw [Nat.ble_eq, show (((((bl M : Int) + P + 1100).toNat : Nat) : Int) - 1100) = bl M + P by omega] at g
  obtain ⟨hb1, hb⟩ := bl_low hM
  have e1 : 2 ^ P.toNat * 2 ^ (bl M - 1) * 2 ^ (1 - ((bl M : Int) + P)).toNat = 2 ^ ((bl M : Int) + P - 1).toNat * 2 ^ (-P).toNat := by
    rw [← Nat.pow_add, ← Nat.pow_add, ← Nat.pow_add]; congr 1; omega
  have hZ : 0 < 2 ^ (1 - ((bl M : Int) + P)).toNat := Nat.two_pow_pos _
  generalize tA (guess ((bl M : Int) + P)) = A at *
  generalize tB (guess ((bl M : Int) + P)) = B at *
  generalize 2 ^ (1 - ((bl M : Int) + P)).toNat = Z at *
  generalize 2 ^ ((bl M : Int) + P - 1).toNat = W at *
  generalize 2 ^ (bl M - 1) = H at *
  generalize 2 ^ P.toNat = X at *
  generalize 2 ^ (-P).toNat = Y at *
  refine Nat.le_of_mul_le_mul_right ?_ hZ
  calc A * Y * Z = A * Z * Y := by grind
    _ ≤ B * W * Y := Nat.mul_le_mul_right _ g
    _ = B * (X * H * Z) := by rw [e1]; grind
    _ = H * (B * X * Z) := by grind
    _ ≤ M * (B * X * Z) := Nat.mul_le_mul_right _ hb
    _ = M * B * X * Z := by grind

theorem ten_two : ∃ a b : Nat, a = 1024 ∧ b = 310 ∧ 2 ^ a < 10 ^ b := ⟨1024, 310, rfl, rfl, by decide +kernel⟩
theorem top_e {u : Nat} (hu : u < cap) {e : Int} (he : 310 ≤ e) : val u * tB e < tA e * KK := by
  obtain ⟨a, b, ha, hb, h⟩ := ten_two
  have e1 : tB e = 1 := by unfold tB; rw [show (-e).toNat = 0 by omega]
  have e2 : 10 ^ b ≤ tA e := Nat.pow_le_pow_right (by decide) (by omega)
  have e3 : val u ≤ 2 ^ a * KK := by
    rw [val_eq, KK_eq, ← Nat.pow_add]
    have h1 : up u ≤ 2045 := by unfold up; have : cap = 2047 * 2 ^ 52 := rfl; omega
    have h2 := e74_eq
    refine Nat.le_trans (Nat.mul_le_mul_right _ (Nat.le_of_lt (mg_lt u))) ?_
    rw [← Nat.pow_add]
    exact Nat.pow_le_pow_right (by decide) (by omega)
  rw [e1, Nat.mul_one]
  exact Nat.lt_of_le_of_lt e3 (Nat.mul_lt_mul_of_pos_right (Nat.lt_of_lt_of_le h e2) KK_pos)

/-- How many digits the floor has. -/
theorem fl_below {u n : Nat} {e : Int} (h1 : val u * tB e < tA e * KK) : rFl u (e - n) < 10 ^ n := by
  have ht := t_add (e - n) n
  rw [show e - (n : Int) + (n : Int) = e by omega] at ht
  unfold rFl
  rw [Nat.div_lt_iff_lt_mul (Nat.mul_pos (tA_pos _) KK_pos)]
  have hB := tB_pos e
  have hb := tB_pos (e - n)
  generalize tA (e - n) = a at *
  generalize tB (e - n) = b at *
  generalize tA e = A at *
  generalize tB e = B at *
  generalize val u = V at *
  generalize KK = K at *
  generalize 10 ^ n = t at *
  refine Nat.lt_of_mul_lt_mul_right (a := B) ?_
  calc V * b * B = V * B * b := by grind
    _ < A * K * b := Nat.mul_lt_mul_of_pos_right h1 hb
    _ = A * b * K := by grind
    _ = t * (a * K) * B := by rw [ht]; grind
theorem fl_above {u n : Nat} {e : Int} (hn : 1 ≤ n) (h2 : tA (e - 1) * KK ≤ val u * tB (e - 1)) : 10 ^ (n - 1) ≤ rFl u (e - n) := by
  have ht := t_add (e - n) (n - 1)
  rw [show e - (n : Int) + ((n - 1 : Nat) : Int) = e - 1 by omega] at ht
  unfold rFl
  rw [Nat.le_div_iff_mul_le (Nat.mul_pos (tA_pos _) KK_pos)]
  have hB := tB_pos (e - 1)
  generalize tA (e - n) = a at *
  generalize tB (e - n) = b at *
  generalize tA (e - 1) = A at *
  generalize tB (e - 1) = B at *
  generalize val u = V at *
  generalize KK = K at *
  generalize 10 ^ (n - 1) = t at *
  refine Nat.le_of_mul_le_mul_right ?_ hB
  calc t * (a * K) * B = t * a * B * K := by grind
    _ = A * b * K := by rw [ht]
    _ = A * K * b := by grind
    _ ≤ V * B * b := Nat.mul_le_mul_right _ h2
    _ = V * b * B := by grind

theorem takes_hit {u k : Nat} {s : Int} (h : takes u s k) : Hit u k s ∧ (k = rFl u s ∨ k = rFl u s + 1) := by
  rcases h with ⟨h1, h2, h3⟩ | ⟨h1, _, h3⟩ | ⟨_, h2, h3⟩
  · split at h3
    · subst h3; exact ⟨h1, .inl rfl⟩
    · subst h3; exact ⟨h2, .inr rfl⟩
  · subst h3; exact ⟨h1, .inl rfl⟩
  · subst h3; exact ⟨h2, .inr rfl⟩

/-- Where what is taken ends in a nought, fewer digits do. -/
theorem takes_ten {u k : Nat} {s : Int} (h : takes u s k) (h0 : k % 10 = 0) : hitR u (s + 1) := by
  obtain ⟨h1, h2⟩ := takes_hit h
  have hk : k = k / 10 * 10 ^ 1 := by omega
  rw [hk] at h1
  have h3 : Hit u (k / 10) (s + 1) := (hit_scale u (k / 10) s 1).2 h1
  have h4 := fl_ten u s
  rcases h2 with h2 | h2
  · exact .inl (by rw [h4, ← h2]; exact h3)
  · exact .inr (by rw [h4, show rFl u s / 10 + 1 = k / 10 by omega]; exact h3)

end FloM
