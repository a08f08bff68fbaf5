/- Amounts as digits of base 65536, the lowest first: plain. -/
import Derived.Test.YtceoapkkmgllaaaGreatDoorFloMath
namespace FloM

/-- Digit i of a number. -/
def dg (N i : Nat) : Nat := N / 65536 ^ i % 65536
/-- The lowest n digits. -/
def fd (n N : Nat) : List Nat := (List.range n).map (dg N)
/-- How many digits. -/
def nd (N : Nat) : Nat := if N = 0 then 0 else N.log2 / 16 + 1
/-- How many binary digits. -/
def bl (N : Nat) : Nat := if N = 0 then 0 else N.log2 + 1

theorem pow_pos (i : Nat) : 0 < 65536 ^ i := Nat.pow_pos (by decide)
theorem pow_two (i : Nat) : 65536 ^ i = 2 ^ (16 * i) := by rw [Nat.pow_mul]
theorem dg_lt (N i : Nat) : dg N i < 65536 := Nat.mod_lt _ (by decide)
theorem dg_zero {N i : Nat} (h : N < 65536 ^ i) : dg N i = 0 := by unfold dg; rw [Nat.div_eq_of_lt h]
theorem fd_succ (n N : Nat) : fd (n + 1) N = fd n N ++ [dg N n] := by unfold fd; rw [List.range_succ, List.map_append]; rfl
theorem fd_zero (N : Nat) : fd 0 N = [] := rfl
theorem fd_len (n N : Nat) : (fd n N).length = n := by unfold fd; simp
theorem fd_get {n N i : Nat} (h : i < n) : (fd n N)[i]? = some (dg N i) := by unfold fd; simp [h]
theorem bl_le (N k : Nat) : bl N ≤ k ↔ N < 2 ^ k := by
  unfold bl
  split
  · next h => subst h; simp [Nat.two_pow_pos]
  · next h => rw [← Nat.log2_lt h]; omega
theorem nd_le (N k : Nat) : nd N ≤ k ↔ N < 65536 ^ k := by
  rw [pow_two]
  unfold nd
  split
  · next h => subst h; simp [Nat.two_pow_pos]
  · next h => rw [← Nat.log2_lt h]; omega
theorem lt_nd (N : Nat) : N < 65536 ^ nd N := (nd_le N _).1 (Nat.le_refl _)
theorem lt_bl (N : Nat) : N < 2 ^ bl N := (bl_le N _).1 (Nat.le_refl _)
theorem nd_lt (N k : Nat) : k < nd N ↔ 65536 ^ k ≤ N := by have := nd_le N k; omega
theorem nd_zero : nd 0 = 0 := by simp [nd]
theorem nd_eq_zero {N : Nat} : nd N = 0 ↔ N = 0 := by unfold nd; split <;> simp_all
theorem nd_mono {a b : Nat} (h : a ≤ b) : nd a ≤ nd b := (nd_le a _).2 (Nat.lt_of_le_of_lt h (lt_nd b))
theorem nd_bound {N k : Nat} (h : N < 2 ^ (16 * k)) : nd N ≤ k := (nd_le N k).2 (by rw [pow_two]; exact h)

theorem mod_succ (N i : Nat) : N % 65536 ^ (i + 1) = N % 65536 ^ i + 65536 ^ i * dg N i := by
  unfold dg; rw [Nat.pow_succ, Nat.mod_mul]
theorem div_succ (N i : Nat) : N / 65536 ^ i = 65536 * (N / 65536 ^ (i + 1)) + dg N i := by
  unfold dg; rw [Nat.pow_succ, ← Nat.div_div_eq_div_mul]; omega
theorem pow_le {i j : Nat} (h : i ≤ j) : 65536 ^ i ≤ 65536 ^ j := Nat.pow_le_pow_right (by decide) h

/-! A number below 65536^n is its n digits. -/
theorem dg_ext {a b n : Nat} (ha : a < 65536 ^ n) (hb : b < 65536 ^ n) (h : ∀ i, i < n → dg a i = dg b i) : a = b := by
  have : ∀ k, k ≤ n → a % 65536 ^ k = b % 65536 ^ k := by
    intro k
    induction k with
    | zero => intro _; simp [Nat.mod_one]
    | succ k ih => intro hk; rw [mod_succ, mod_succ, ih (by omega), h k (by omega)]
  have := this n (Nat.le_refl _)
  rwa [Nat.mod_eq_of_lt ha, Nat.mod_eq_of_lt hb] at this

theorem top_pos {N : Nat} (h : N ≠ 0) : 0 < dg N (nd N - 1) := by
  have h0 : 0 < nd N := by have := @nd_eq_zero N; omega
  have h1 : 65536 ^ (nd N - 1) ≤ N := (nd_lt N _).1 (by omega)
  have h2 := lt_nd N
  obtain ⟨k, hk⟩ : ∃ k, nd N = k + 1 := ⟨nd N - 1, by omega⟩
  rw [hk] at h1 h2 ⊢
  rw [Nat.add_sub_cancel] at h1 ⊢
  unfold dg
  rw [Nat.mod_eq_of_lt]
  · exact Nat.div_pos h1 (pow_pos k)
  · apply Nat.div_lt_of_lt_mul; rw [← Nat.pow_succ]; exact h2
/-- The digit on top. -/
theorem top_eq {N : Nat} (h : N ≠ 0) : dg N (nd N - 1) = N / 65536 ^ (nd N - 1) := by
  have h0 : 0 < nd N := by have := @nd_eq_zero N; omega
  have h2 := lt_nd N
  obtain ⟨k, hk⟩ : ∃ k, nd N = k + 1 := ⟨nd N - 1, by omega⟩
  rw [hk] at h2 ⊢
  rw [Nat.add_sub_cancel]
  unfold dg
  rw [Nat.mod_eq_of_lt]
  apply Nat.div_lt_of_lt_mul; rw [← Nat.pow_succ]; exact h2
theorem bl_top {N : Nat} (h : N ≠ 0) : bl N = 16 * (nd N - 1) + bl (dg N (nd N - 1)) := by
  have h0 : 0 < nd N := by have := @nd_eq_zero N; omega
  rw [top_eq h, pow_two]
  have h1 : 65536 ^ (nd N - 1) ≤ N := (nd_lt N _).1 (by omega)
  rw [pow_two] at h1
  generalize 16 * (nd N - 1) = k at *
  have hp := Nat.two_pow_pos k
  have hq : N / 2 ^ k ≠ 0 := by have := Nat.div_pos h1 hp; omega
  have hk : k ≤ N.log2 := (Nat.le_log2 h).2 h1
  have : (N / 2 ^ k).log2 = N.log2 - k := by
    apply log2_eq
    · rw [Nat.le_div_iff_mul_le hp, ← Nat.pow_add, show N.log2 - k + k = N.log2 by omega]; exact log2_le N h
    · apply Nat.div_lt_of_lt_mul
      rw [← Nat.pow_add, show k + (N.log2 - k + 1) = N.log2 + 1 by omega]; exact lt_log2 N
  unfold bl
  rw [if_neg h, if_neg hq, this]
  omega
theorem bl_half {N : Nat} (h : N ≠ 0) : bl N = bl (N / 2) + 1 := by
  have h1 : N / 2 < 2 ^ bl (N / 2) := lt_bl _
  have a : bl N ≤ bl (N / 2) + 1 := (bl_le N _).2 (by rw [Nat.pow_succ]; omega)
  have b : bl (N / 2) ≤ bl N - 1 := by
    rw [bl_le]
    have h2 := lt_bl N
    have h3 : bl N ≠ 0 := by unfold bl; rw [if_neg h]; omega
    obtain ⟨k, hk⟩ : ∃ k, bl N = k + 1 := ⟨bl N - 1, by omega⟩
    rw [hk, Nat.pow_succ] at h2
    rw [hk]
    simp only [Nat.add_sub_cancel]
    omega
  have h3 : bl N ≠ 0 := by unfold bl; rw [if_neg h]; omega
  omega
theorem bl_zero : bl 0 = 0 := by simp [bl]

/-! Sums. -/
def cyA (a b i : Nat) : Nat := (a % 65536 ^ i + b % 65536 ^ i) / 65536 ^ i
theorem cyA_zero (a b : Nat) : cyA a b 0 = 0 := by unfold cyA; simp [Nat.mod_one]
theorem cyA_le (a b i : Nat) : cyA a b i ≤ 1 := by
  unfold cyA
  have h := pow_pos i
  have h1 := Nat.mod_lt a h
  have h2 := Nat.mod_lt b h
  have : (a % 65536 ^ i + b % 65536 ^ i) / 65536 ^ i < 2 := by
    apply Nat.div_lt_of_lt_mul; omega
  omega
theorem cyA_step (a b i : Nat) : (cyA a b i + dg a i + dg b i) % 65536 = dg (a + b) i ∧ (cyA a b i + dg a i + dg b i) / 65536 = cyA a b (i + 1) := by
  have hP := pow_pos i
  constructor
  · unfold cyA dg
    have e : (a + b) / 65536 ^ i = a / 65536 ^ i + b / 65536 ^ i + (a % 65536 ^ i + b % 65536 ^ i) / 65536 ^ i := by
      have h1 := Nat.div_add_mod a (65536 ^ i)
      have h2 := Nat.div_add_mod b (65536 ^ i)
      have : a + b = (a % 65536 ^ i + b % 65536 ^ i) + 65536 ^ i * (a / 65536 ^ i + b / 65536 ^ i) := by rw [Nat.mul_add]; omega
      rw [this, Nat.add_mul_div_left _ _ hP]; omega
    rw [e]; omega
  · unfold cyA
    rw [mod_succ, mod_succ, Nat.pow_succ, ← Nat.div_div_eq_div_mul]
    have : a % 65536 ^ i + 65536 ^ i * dg a i + (b % 65536 ^ i + 65536 ^ i * dg b i) = (a % 65536 ^ i + b % 65536 ^ i) + 65536 ^ i * (dg a i + dg b i) := by rw [Nat.mul_add]; omega
    rw [this, Nat.add_mul_div_left _ _ hP]
    congr 1; omega
/-- While there is a digit or a carry, the sum has one more. -/
theorem cyA_more {a b i : Nat} (h : i < nd a ∨ i < nd b ∨ 0 < cyA a b i) : i < nd (a + b) := by
  rw [nd_lt]
  rcases h with h | h | h
  · have := (nd_lt a i).1 h; omega
  · have := (nd_lt b i).1 h; omega
  · have hP := pow_pos i
    have h1 : 65536 ^ i ≤ a % 65536 ^ i + b % 65536 ^ i := by
      rcases Nat.lt_or_ge (a % 65536 ^ i + b % 65536 ^ i) (65536 ^ i) with h2 | h2
      · unfold cyA at h; rw [Nat.div_eq_of_lt h2] at h; omega
      · exact h2
    have := Nat.mod_le a (65536 ^ i)
    have := Nat.mod_le b (65536 ^ i)
    omega
theorem cyA_done {a b i : Nat} (h1 : nd a ≤ i) (h2 : nd b ≤ i) (h3 : cyA a b i = 0) : nd (a + b) ≤ i := by
  rw [nd_le] at *
  have hP := pow_pos i
  unfold cyA at h3
  rw [Nat.mod_eq_of_lt h1, Nat.mod_eq_of_lt h2] at h3
  rcases Nat.lt_or_ge (a + b) (65536 ^ i) with h | h
  · exact h
  · have := Nat.div_pos h hP; omega

/-! Differences: a = b + c. -/
theorem sub_step (b c i : Nat) : ((dg (b + c) i : Int) - (cyA b c i : Int) - (dg b i : Int) < 0 ↔ cyA b c (i + 1) = 1) ∧
    (dg c i : Int) = (dg (b + c) i : Int) - (cyA b c i : Int) - (dg b i : Int) + 65536 * (cyA b c (i + 1) : Int) := by
  have h := cyA_step b c i
  have h1 := cyA_le b c (i + 1)
  have h2 := dg_lt c i
  have h3 := dg_lt b i
  have h4 := dg_lt (b + c) i
  have h5 := cyA_le b c i
  generalize dg (b + c) i = x at *
  generalize dg b i = y at *
  generalize dg c i = z at *
  generalize cyA b c i = k at *
  generalize cyA b c (i + 1) = m at *
  omega

/-! Times a digit. -/
def cyT (a n i : Nat) : Nat := a % 65536 ^ i * n / 65536 ^ i
theorem cyT_zero (a n : Nat) : cyT a n 0 = 0 := by unfold cyT; simp [Nat.mod_one]
theorem cyT_lt (a n i : Nat) (h : n < 65536) : cyT a n i < 65536 := by
  unfold cyT
  have hP := pow_pos i
  apply Nat.div_lt_of_lt_mul
  exact Nat.lt_of_le_of_lt (Nat.mul_le_mul_right n (Nat.le_of_lt (Nat.mod_lt a hP))) ((Nat.mul_lt_mul_left hP).2 h)
theorem cyT_step (a n i : Nat) : (cyT a n i + dg a i * n) % 65536 = dg (a * n) i ∧ (cyT a n i + dg a i * n) / 65536 = cyT a n (i + 1) := by
  have hP := pow_pos i
  constructor
  · unfold cyT dg
    have e : a * n / 65536 ^ i = a / 65536 ^ i * n + a % 65536 ^ i * n / 65536 ^ i := by
      have h1 := Nat.div_add_mod a (65536 ^ i)
      have : a * n = a % 65536 ^ i * n + 65536 ^ i * (a / 65536 ^ i * n) := by
        conv => lhs; rw [← h1]
        rw [Nat.add_mul, Nat.mul_assoc]; omega
      rw [this, Nat.add_mul_div_left _ _ hP]; omega
    rw [e, Nat.add_comm, Nat.add_mod, Nat.mul_mod]
    conv => rhs; rw [Nat.add_mod, Nat.mul_mod]
    simp
  · unfold cyT
    rw [mod_succ, Nat.pow_succ, ← Nat.div_div_eq_div_mul]
    have : (a % 65536 ^ i + 65536 ^ i * dg a i) * n = a % 65536 ^ i * n + 65536 ^ i * (dg a i * n) := by rw [Nat.add_mul, Nat.mul_assoc]
    rw [this, Nat.add_mul_div_left _ _ hP]
theorem cyT_top {a n i : Nat} (h : a < 65536 ^ i) (hn : n < 65536) : dg (a * n) i = cyT a n i ∧ a * n < 65536 ^ (i + 1) := by
  have hP := pow_pos i
  have h1 : a * n < 65536 ^ (i + 1) := by
    rw [Nat.pow_succ]
    rcases Nat.eq_zero_or_pos n with rfl | h0
    · rw [Nat.mul_zero]; exact Nat.mul_pos hP (by decide)
    · exact Nat.lt_of_lt_of_le ((Nat.mul_lt_mul_right h0).2 h) (Nat.mul_le_mul_left _ (by omega))
  refine ⟨?_, h1⟩
  unfold dg cyT
  rw [Nat.mod_eq_of_lt h, Nat.mod_eq_of_lt]
  apply Nat.div_lt_of_lt_mul
  rw [← Nat.pow_succ]; exact h1

/-! Division, a digit a time. -/
theorem div_step (a b i : Nat) (hb : 0 < b) : (a / 65536 ^ (i + 1) % b * 65536 + dg a i) / b = dg (a / b) i ∧
    (a / 65536 ^ (i + 1) % b * 65536 + dg a i) % b = a / 65536 ^ i % b := by
  have e := div_succ a i
  have h1 := Nat.div_add_mod (a / 65536 ^ (i + 1)) b
  have hx : a / 65536 ^ i = (a / 65536 ^ (i + 1) % b * 65536 + dg a i) + b * (65536 * (a / 65536 ^ (i + 1) / b)) := by
    rw [e]
    conv => lhs; rw [← h1]
    rw [Nat.mul_add, Nat.mul_left_comm]; omega
  constructor
  · have : dg (a / b) i = a / 65536 ^ i / b % 65536 := by
      unfold dg; rw [Nat.div_div_eq_div_mul, Nat.mul_comm b, ← Nat.div_div_eq_div_mul]
    rw [this, hx, Nat.add_mul_div_left _ _ hb, Nat.add_mul_mod_self_left]
    symm
    apply Nat.mod_eq_of_lt
    have h2 : a / 65536 ^ (i + 1) % b < b := Nat.mod_lt _ hb
    have h3 := dg_lt a i
    apply Nat.div_lt_of_lt_mul
    have : (a / 65536 ^ (i + 1) % b + 1) * 65536 ≤ b * 65536 := Nat.mul_le_mul_right _ h2
    omega
  · rw [hx, Nat.add_mul_mod_self_left]
theorem div_room (a b i : Nat) (hb : 0 < b) : a / 65536 ^ (i + 1) % b * 65536 + dg a i < 65536 * b := by
  have h2 : a / 65536 ^ (i + 1) % b < b := Nat.mod_lt _ hb
  have h3 := dg_lt a i
  have : (a / 65536 ^ (i + 1) % b + 1) * 65536 ≤ b * 65536 := Nat.mul_le_mul_right _ h2
  omega

/-! A digit put ahead: N * 65536 + d. -/
theorem dg_cons_zero (N d : Nat) (h : d < 65536) : dg (N * 65536 + d) 0 = d := by unfold dg; simp; omega
theorem dg_cons_succ (N d i : Nat) (h : d < 65536) : dg (N * 65536 + d) (i + 1) = dg N i := by
  unfold dg
  rw [Nat.pow_succ, Nat.mul_comm (65536 ^ i), ← Nat.div_div_eq_div_mul]
  congr 2; omega
theorem fd_cons (n N d : Nat) (h : d < 65536) : fd (n + 1) (N * 65536 + d) = d :: fd n N := by
  apply List.ext_getElem?
  intro i
  rcases i with _ | i
  · rw [fd_get (by omega), dg_cons_zero N d h]; rfl
  · rcases Nat.lt_or_ge i n with hi | hi
    · rw [fd_get (by omega), dg_cons_succ N d i h, List.getElem?_cons_succ, fd_get hi]
    · rw [List.getElem?_eq_none (by rw [fd_len]; omega), List.getElem?_cons_succ, List.getElem?_eq_none (by rw [fd_len]; omega)]
theorem cons_lt (n N d : Nat) (h : d < 65536) (hN : N < 65536 ^ n) : N * 65536 + d < 65536 ^ (n + 1) := by
  have : (N + 1) * 65536 ≤ 65536 ^ n * 65536 := Nat.mul_le_mul_right _ hN
  rw [Nat.pow_succ]; omega

/-! Noughts ahead. -/
theorem dg_shift_lo (M z i : Nat) (h : i < z) : dg (M * 65536 ^ z) i = 0 := by
  unfold dg
  obtain ⟨k, rfl⟩ : ∃ k, z = i + 1 + k := ⟨z - i - 1, by omega⟩
  rw [Nat.pow_add, Nat.pow_succ, show M * (65536 ^ i * 65536 * 65536 ^ k) = 65536 ^ i * (65536 * (M * 65536 ^ k)) by simp only [Nat.mul_assoc, Nat.mul_comm, Nat.mul_left_comm],
    Nat.mul_div_cancel_left _ (pow_pos i), Nat.mul_mod_right]
theorem dg_shift_hi (M z i : Nat) : dg (M * 65536 ^ z) (z + i) = dg M i := by
  unfold dg
  rw [Nat.pow_add, ← Nat.div_div_eq_div_mul, Nat.mul_div_cancel _ (pow_pos z)]
theorem fd_shift (M z n : Nat) : fd (z + n) (M * 65536 ^ z) = List.replicate z 0 ++ fd n M := by
  apply List.ext_getElem?
  intro i
  rcases Nat.lt_or_ge i z with hi | hi
  · rw [fd_get (by omega), dg_shift_lo M z i hi, List.getElem?_append_left (by simpa using hi), List.getElem?_replicate, if_pos hi]
  · obtain ⟨k, rfl⟩ : ∃ k, i = z + k := ⟨i - z, by omega⟩
    rw [List.getElem?_append_right (by simp), List.length_replicate, Nat.add_sub_cancel_left]
    rcases Nat.lt_or_ge k n with hk | hk
    · rw [fd_get (by omega), dg_shift_hi, fd_get hk]
    · rw [List.getElem?_eq_none (by rw [fd_len]; omega), List.getElem?_eq_none (by rw [fd_len]; omega)]

/-! Digits of a list. -/
def num : List Nat → Nat
  | [] => 0
  | d :: ds => num ds * 65536 + d
theorem num_lt (ds : List Nat) (h : ∀ d ∈ ds, d < 65536) : num ds < 65536 ^ ds.length := by
  induction ds with
  | nil => simp [num]
  | cons d ds ih =>
    exact cons_lt _ _ _ (h d (by simp)) (ih fun x hx => h x (by simp [hx]))
theorem fd_num (ds : List Nat) (h : ∀ d ∈ ds, d < 65536) : fd ds.length (num ds) = ds := by
  induction ds with
  | nil => rfl
  | cons d ds ih =>
    show fd (ds.length + 1) (num ds * 65536 + d) = _
    rw [fd_cons _ _ _ (h d (by simp)), ih fun x hx => h x (by simp [hx])]
theorem fd_ok (n N : Nat) : ∀ d ∈ fd n N, d < 65536 := by
  intro d hd
  unfold fd at hd
  obtain ⟨i, _, rfl⟩ := List.mem_map.1 hd
  exact dg_lt N i
theorem num_fd (n N : Nat) (h : N < 65536 ^ n) : num (fd n N) = N := by
  have h1 := num_lt (fd n N) (fd_ok n N)
  have h2 := fd_num (fd n N) (fd_ok n N)
  rw [fd_len] at h1 h2
  refine dg_ext h1 h fun i hi => ?_
  have := congrArg (fun l : List Nat => l[i]?) h2
  simp only [fd_get hi] at this
  exact Option.some.inj this
/-- One digit set. -/
theorem num_set (ds : List Nat) (i d : Nat) (x : Nat) (hx : ds[i]? = some x) : num (ds.set i d) + x * 65536 ^ i = num ds + d * 65536 ^ i := by
  induction ds generalizing i with
  | nil => simp at hx
  | cons y ds ih =>
    rcases i with _ | i
    · simp at hx; subst hx; simp [num]; omega
    · have := ih i (by simpa using hx)
      simp only [List.set_cons_succ, num, Nat.pow_succ]
      rw [← Nat.mul_assoc, ← Nat.mul_assoc]
      omega
/-- The digits above the top are noughts: what trim keeps. -/
theorem fd_take (n m N : Nat) (h : m ≤ n) : (fd n N).take m = fd m N := by
  apply List.ext_getElem?
  intro i
  rw [List.getElem?_take]
  rcases Nat.lt_or_ge i m with hi | hi
  · rw [if_pos hi, fd_get (by omega), fd_get hi]
  · rw [if_neg (by omega), List.getElem?_eq_none (by rw [fd_len]; omega)]

/-! How two numbers compare, from the top. -/
theorem cmp_step {a b i : Nat} (h : a / 65536 ^ (i + 1) = b / 65536 ^ (i + 1)) :
    (dg a i < dg b i → a < b) ∧ (dg b i < dg a i → b < a) ∧ (dg a i = dg b i → a / 65536 ^ i = b / 65536 ^ i) := by
  have e1 := div_succ a i
  have e2 := div_succ b i
  refine ⟨fun h1 => ?_, fun h1 => ?_, fun h1 => by omega⟩
  · rcases Nat.lt_or_ge a b with h2 | h2
    · exact h2
    · have : b / 65536 ^ i ≤ a / 65536 ^ i := Nat.div_le_div_right h2; omega
  · rcases Nat.lt_or_ge b a with h2 | h2
    · exact h2
    · have : a / 65536 ^ i ≤ b / 65536 ^ i := Nat.div_le_div_right h2; omega
theorem cmp_len {a b : Nat} (h : nd a < nd b) : a < b := by
  have h1 := lt_nd a
  have h2 := (nd_lt b (nd a)).1 h
  omega
def cmpN (a b : Nat) : Int := if a < b then -1 else if b < a then 1 else 0
end FloM
