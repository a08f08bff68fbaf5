/- The slow decimal, plain: cutting at 800 digits never crosses a step of the last binary digit; the rounding is the nearest real. The slow decimal, plain: the conditions that hold at every shift, and where the scaling ends. The slow decimal, plain: the digits in their cells, shifts of them, the rounding, the bits. The slow decimal, plain: comparisons, the rounding of the digits, the bits, the start. -/
import Derived.Test.YtijncfidjjfmiaaGreatDoorFloBase
import Derived.Test.YtijncfidjjfmiaaGreatDoorFloFastA
namespace FloM

/-- The offset of exponents. -/
def oo : Nat := 8000
theorem oo_eq : oo = 8000 := rfl
theorem pw2 {a b : Nat} (h : a = b) : 2 ^ a = 2 ^ b := by rw [h]
theorem pw10 {a b : Nat} (h : a = b) : 10 ^ a = 10 ^ b := by rw [h]

/-- The stored amount (in 10^-oo) against A/B times 2^(b - oo); K: how fine the steps are that are never crossed. -/
structure Fl (A B K b V : Nat) (tr : Bool) : Prop where
  le : V * (B * 2 ^ oo) ≤ A * 2 ^ b * 10 ^ oo
  ex : tr = false ↔ V * (B * 2 ^ oo) = A * 2 ^ b * 10 ^ oo
  grid : (A * 2 ^ K / (B * 2 ^ oo)) * 2 ^ b * 10 ^ oo ≤ V * 2 ^ K

/-- One shift: X over m, cut at 10^c. -/
def Cut (X V m c : Nat) (tr tr' : Bool) : Prop := (V * m = X ∧ tr' = tr) ∨ (V * m < X ∧ X < (V + 10 ^ c) * m ∧ 10 ^ c ∣ V ∧ tr' = true)

theorem Fl.step {A B K b b' V V' X m c : Nat} {tr tr' : Bool} (h : Fl A B K b V tr) (hB : 0 < B) (hX : V * 2 ^ b' * m = X * 2 ^ b) (hm : 0 < m) (hc : Cut X V' m c tr tr')
    (hcond : c ≤ oo ∧ c + K ≤ b' + oo) : Fl A B K b' V' tr' := by
  have hb : 0 < 2 ^ b := Nat.two_pow_pos _
  have hb2 : 0 < 2 ^ b' := Nat.two_pow_pos _
  have hD : 0 < B * 2 ^ oo := Nat.mul_pos hB (Nat.two_pow_pos _)
  obtain ⟨h1, h2, h3⟩ := h
  have hgrid : X * 2 ^ b < (V' + 10 ^ c) * (m * 2 ^ b) → 10 ^ c ∣ V' → (A * 2 ^ K / (B * 2 ^ oo)) * 2 ^ b' * 10 ^ oo ≤ V' * 2 ^ K := by
    intro hx ⟨P, hP⟩
    obtain ⟨M, hM⟩ : ∃ M, 2 ^ b' * 10 ^ oo = 10 ^ c * 2 ^ K * M := by
      refine ⟨2 ^ (b' + oo - (c + K)) * 5 ^ (oo - c), ?_⟩
      obtain ⟨i, hi⟩ : ∃ i, oo = c + i := ⟨oo - c, by omega⟩
      obtain ⟨j, hj⟩ : ∃ j, b' + oo = c + K + j := ⟨b' + oo - (c + K), by omega⟩
      rw [hj, Nat.add_sub_cancel_left]
      have e1 : (10 : Nat) ^ oo = 10 ^ c * (2 ^ i * 5 ^ i) := by rw [hi, Nat.pow_add, ← Nat.mul_pow]
      have e2 : oo - c = i := by omega
      rw [e1, e2]
      have e3 : 2 ^ b' * 2 ^ i = 2 ^ K * 2 ^ j := by rw [← Nat.pow_add, ← Nat.pow_add]; exact pw2 (by omega)
      calc 2 ^ b' * (10 ^ c * (2 ^ i * 5 ^ i)) = 10 ^ c * 5 ^ i * (2 ^ b' * 2 ^ i) := by grind
        _ = 10 ^ c * 2 ^ K * (2 ^ j * 5 ^ i) := by rw [e3]; grind
    generalize A * 2 ^ K / (B * 2 ^ oo) = H at *
    have k1 : H * 2 ^ b' * 10 ^ oo * (2 ^ b * m) ≤ X * 2 ^ b * 2 ^ K := by
      calc H * 2 ^ b' * 10 ^ oo * (2 ^ b * m) = (H * 2 ^ b * 10 ^ oo) * (2 ^ b' * m) := by grind
        _ ≤ (V * 2 ^ K) * (2 ^ b' * m) := Nat.mul_le_mul_right _ h3
        _ = X * 2 ^ b * 2 ^ K := by rw [← hX]; grind
    have k2 : H * 2 ^ b' * 10 ^ oo * (2 ^ b * m) < (V' + 10 ^ c) * 2 ^ K * (2 ^ b * m) := by
      refine Nat.lt_of_le_of_lt k1 ?_
      calc X * 2 ^ b * 2 ^ K < (V' + 10 ^ c) * (m * 2 ^ b) * 2 ^ K := Nat.mul_lt_mul_of_pos_right hx (Nat.two_pow_pos _)
        _ = (V' + 10 ^ c) * 2 ^ K * (2 ^ b * m) := by grind
    have k3 : H * 2 ^ b' * 10 ^ oo < (V' + 10 ^ c) * 2 ^ K := Nat.lt_of_mul_lt_mul_right k2
    rw [Nat.mul_assoc, hM, hP] at k3
    rw [Nat.mul_assoc, hM, hP]
    have hpos : 0 < 10 ^ c * 2 ^ K := Nat.mul_pos (Nat.pow_pos (by decide)) (Nat.two_pow_pos _)
    have k4 : (10 ^ c * 2 ^ K) * (H * M) < (10 ^ c * 2 ^ K) * (P + 1) := by
      calc (10 ^ c * 2 ^ K) * (H * M) = H * (10 ^ c * 2 ^ K * M) := by grind
        _ < _ := k3
        _ = (10 ^ c * 2 ^ K) * (P + 1) := by grind
    have k5 : H * M ≤ P := Nat.le_of_lt_succ (Nat.lt_of_mul_lt_mul_left k4)
    calc H * (10 ^ c * 2 ^ K * M) = (10 ^ c * 2 ^ K) * (H * M) := by grind
      _ ≤ (10 ^ c * 2 ^ K) * P := Nat.mul_le_mul_left _ k5
      _ = 10 ^ c * P * 2 ^ K := by grind
  have hmb : 0 < m * 2 ^ b := Nat.mul_pos hm hb
  rcases hc with ⟨e1, e2⟩ | ⟨l1, l2, l3, l4⟩
  · -- nothing was cut
    have e3 : V' * 2 ^ b * m = V * 2 ^ b' * m := by rw [hX, ← e1]; grind
    have e4 : V' * 2 ^ b = V * 2 ^ b' := Nat.eq_of_mul_eq_mul_right hm e3
    refine ⟨?_, ?_, ?_⟩
    · refine Nat.le_of_mul_le_mul_right ?_ hb
      calc V' * (B * 2 ^ oo) * 2 ^ b = (V * (B * 2 ^ oo)) * 2 ^ b' := by rw [Nat.mul_right_comm V', e4]; grind
        _ ≤ (A * 2 ^ b * 10 ^ oo) * 2 ^ b' := Nat.mul_le_mul_right _ h1
        _ = A * 2 ^ b' * 10 ^ oo * 2 ^ b := by grind
    · rw [e2, h2]
      have q1 : V' * (B * 2 ^ oo) * 2 ^ b = (V * (B * 2 ^ oo)) * 2 ^ b' := by rw [Nat.mul_right_comm V', e4]; grind
      have q2 : A * 2 ^ b' * 10 ^ oo * 2 ^ b = (A * 2 ^ b * 10 ^ oo) * 2 ^ b' := by grind
      constructor
      · intro h; refine Nat.eq_of_mul_eq_mul_right hb ?_; rw [q1, q2, h]
      · intro h; refine Nat.eq_of_mul_eq_mul_right hb2 ?_; rw [← q1, ← q2, h]
    · refine Nat.le_of_mul_le_mul_right ?_ hb
      calc (A * 2 ^ K / (B * 2 ^ oo)) * 2 ^ b' * 10 ^ oo * 2 ^ b = ((A * 2 ^ K / (B * 2 ^ oo)) * 2 ^ b * 10 ^ oo) * 2 ^ b' := by grind
        _ ≤ (V * 2 ^ K) * 2 ^ b' := Nat.mul_le_mul_right _ h3
        _ = V' * 2 ^ K * 2 ^ b := by rw [Nat.mul_right_comm V', e4]; grind
  · have lt : V' * (B * 2 ^ oo) < A * 2 ^ b' * 10 ^ oo := by
      refine Nat.lt_of_mul_lt_mul_right (a := m * 2 ^ b) ?_
      calc V' * (B * 2 ^ oo) * (m * 2 ^ b) = (V' * m) * (2 ^ b * (B * 2 ^ oo)) := by grind
        _ < X * (2 ^ b * (B * 2 ^ oo)) := Nat.mul_lt_mul_of_pos_right l1 (Nat.mul_pos hb hD)
        _ = (V * (B * 2 ^ oo)) * (2 ^ b' * m) := by
          rw [show X * (2 ^ b * (B * 2 ^ oo)) = (X * 2 ^ b) * (B * 2 ^ oo) by grind, ← hX]; grind
        _ ≤ (A * 2 ^ b * 10 ^ oo) * (2 ^ b' * m) := Nat.mul_le_mul_right _ h1
        _ = A * 2 ^ b' * 10 ^ oo * (m * 2 ^ b) := by grind
    refine ⟨Nat.le_of_lt lt, ⟨fun h => (by rw [l4] at h; cases h), fun h => absurd h (by omega)⟩, ?_⟩
    refine hgrid ?_ l3
    calc X * 2 ^ b < (V' + 10 ^ c) * m * 2 ^ b := Nat.mul_lt_mul_of_pos_right l2 hb
      _ = _ := by rw [Nat.mul_assoc]

/-- Rounded: the half's digit, and what was cut. -/
def rndV (V : Nat) (tr : Bool) : Nat :=
  V / 10 ^ oo + (if 10 ^ oo < 2 * (V % 10 ^ oo) ∨ (2 * (V % 10 ^ oo) = 10 ^ oo ∧ (tr = true ∨ V / 10 ^ oo % 2 = 1)) then 1 else 0)

theorem half_cmp (N D h : Nat) (hD : 0 < D) (h1 : h * D ≤ 2 * N) (h2 : 2 * N < (h + 1) * D) : N / D = h / 2 ∧ (h % 2 = 0 → 2 * (N % D) < D) ∧ (h % 2 = 1 → D ≤ 2 * (N % D) ∧ (2 * (N % D) = D ↔ 2 * N = h * D)) := by
  have hm := Nat.div_add_mod N D
  have hl := Nat.mod_lt N hD
  generalize N / D = q at *
  generalize N % D = r at *
  have e1 : D * q = q * D := Nat.mul_comm _ _
  have q1 : q = h / 2 := by
    have a1 : h * D < (2 * q + 2) * D := by
      calc h * D ≤ 2 * N := h1
        _ < (2 * q + 2) * D := by rw [Nat.add_mul, Nat.mul_assoc]; omega
    have a2 : 2 * q * D < (h + 1) * D := by
      calc 2 * q * D ≤ 2 * N := by rw [Nat.mul_assoc]; omega
        _ < _ := h2
    have b1 := Nat.lt_of_mul_lt_mul_right a1
    have b2 := Nat.lt_of_mul_lt_mul_right a2
    omega
  refine ⟨q1, ?_, ?_⟩
  · intro he
    have e2 : h = 2 * q := by omega
    subst e2
    rw [Nat.add_mul, Nat.mul_assoc] at h2
    omega
  · intro ho
    have e2 : h = 2 * q + 1 := by omega
    subst e2
    rw [Nat.add_mul, Nat.mul_assoc] at h1 ⊢
    omega

theorem rnd_core (N D V U h : Nat) (tr : Bool) (hD : 0 < D) (hU : 0 < U) (le : V * D ≤ N * U) (ex : tr = false ↔ V * D = N * U)
    (h1 : h * D ≤ 2 * N) (h2 : 2 * N < (h + 1) * D) (h3 : h * U ≤ 2 * V) :
    V / U + (if U < 2 * (V % U) ∨ (2 * (V % U) = U ∧ (tr = true ∨ V / U % 2 = 1)) then 1 else 0) = rhe N D := by
  have h4 : 2 * V < (h + 1) * U := by
    refine Nat.lt_of_mul_lt_mul_right (a := D) ?_
    calc 2 * V * D ≤ 2 * N * U := by rw [Nat.mul_assoc, Nat.mul_assoc]; exact Nat.mul_le_mul_left _ le
      _ < (h + 1) * D * U := Nat.mul_lt_mul_of_pos_right h2 hU
      _ = (h + 1) * U * D := by grind
  obtain ⟨a1, a2, a3⟩ := half_cmp N D h hD h1 h2
  obtain ⟨b1, b2, b3⟩ := half_cmp V U h hU h3 h4
  unfold rhe
  rw [a1, b1]
  congr 1
  rcases Nat.mod_two_eq_zero_or_one h with h0 | h0
  · have := a2 h0
    have := b2 h0
    rw [if_neg (by omega), if_neg (by omega)]
  · obtain ⟨c1, c2⟩ := a3 h0
    obtain ⟨d1, d2⟩ := b3 h0
    cases htr : tr
    · have e : V * D = N * U := ex.1 htr
      have key : 2 * (V % U) = U ↔ 2 * (N % D) = D := by
        rw [c2, d2]
        constructor
        · intro hh
          refine Nat.eq_of_mul_eq_mul_right hU ?_
          rw [Nat.mul_assoc, ← e, ← Nat.mul_assoc, hh]; grind
        · intro hh
          refine Nat.eq_of_mul_eq_mul_right hD ?_
          rw [Nat.mul_assoc, e, ← Nat.mul_assoc, hh]; grind
      by_cases hk : 2 * (V % U) = U
      · have hk2 := key.1 hk
        by_cases ho : h / 2 % 2 = 1
        · rw [if_pos (.inr ⟨hk, .inr ho⟩), if_pos (.inr ⟨hk2, ho⟩)]
        · rw [if_neg (by intro hh; rcases hh with hh | ⟨_, hh | hh⟩; omega; cases hh; exact ho hh), if_neg (by intro hh; rcases hh with hh | ⟨_, hh⟩; omega; exact ho hh)]
      · have hk2 : ¬ 2 * (N % D) = D := fun hh => hk (key.2 hh)
        rw [if_pos (.inl (by omega)), if_pos (.inl (by omega))]
    · have ne : V * D ≠ N * U := fun hh => by rw [ex.2 hh] at htr; cases htr
      have hk2 : ¬ 2 * (N % D) = D := by
        rw [c2]
        intro hh
        have : 2 * V * D < h * U * D := by
          calc 2 * V * D = 2 * (V * D) := Nat.mul_assoc _ _ _
            _ < 2 * (N * U) := by omega
            _ = h * U * D := by rw [← Nat.mul_assoc, hh]; grind
        have := Nat.lt_of_mul_lt_mul_right this
        omega
      rw [if_pos (show D < 2 * (N % D) ∨ _ from .inl (by omega))]
      by_cases hk : 2 * (V % U) = U
      · rw [if_pos (.inr ⟨hk, .inl rfl⟩)]
      · rw [if_pos (.inl (by omega))]

theorem Fl.round {A B K b V j : Nat} {tr : Bool} (h : Fl A B K b V tr) (hB : 0 < B) (hK : K = b + 1 + j) : rndV V tr = rhe (A * 2 ^ b) (B * 2 ^ oo) := by
  have hD : 0 < B * 2 ^ oo := Nat.mul_pos hB (Nat.two_pow_pos _)
  obtain ⟨h1, h2, h3⟩ := h
  have hU : 0 < 10 ^ oo := Nat.pow_pos (by decide)
  have m1 := Nat.div_mul_le_self (2 * (A * 2 ^ b)) (B * 2 ^ oo)
  have m2 := Nat.lt_div_mul_add (a := 2 * (A * 2 ^ b)) hD
  refine rnd_core (A * 2 ^ b) (B * 2 ^ oo) V (10 ^ oo) (2 * (A * 2 ^ b) / (B * 2 ^ oo)) tr hD hU h1 h2 m1 (by rw [Nat.add_mul, Nat.one_mul]; exact m2) ?_
  generalize hh : 2 * (A * 2 ^ b) / (B * 2 ^ oo) = q at *
  have k1 : q * 2 ^ j ≤ A * 2 ^ K / (B * 2 ^ oo) := by
    rw [Nat.le_div_iff_mul_le hD]
    calc q * 2 ^ j * (B * 2 ^ oo) = q * (B * 2 ^ oo) * 2 ^ j := by grind
      _ ≤ 2 * (A * 2 ^ b) * 2 ^ j := Nat.mul_le_mul_right _ m1
      _ = A * (2 ^ b * 2 ^ 1 * 2 ^ j) := by rw [Nat.pow_one]; grind
      _ = A * 2 ^ K := by rw [← Nat.pow_add, ← Nat.pow_add, ← hK]
  have hp : 0 < 2 ^ (b + j) := Nat.two_pow_pos _
  refine Nat.le_of_mul_le_mul_right (c := 2 ^ (b + j)) ?_ hp
  calc q * 10 ^ oo * 2 ^ (b + j) = q * 2 ^ j * 2 ^ b * 10 ^ oo := by rw [Nat.pow_add]; grind
    _ ≤ A * 2 ^ K / (B * 2 ^ oo) * 2 ^ b * 10 ^ oo := Nat.mul_le_mul_right _ (Nat.mul_le_mul_right _ k1)
    _ ≤ V * 2 ^ K := h3
    _ = 2 * V * 2 ^ (b + j) := by rw [hK, show b + 1 + j = (b + j) + 1 by omega, Nat.pow_succ]; grind
end FloM

namespace FloM

theorem f967 : (10 : Nat) ^ 291 ≤ 2 ^ 967 := by decide +kernel
theorem f731 : (10 : Nat) ^ 220 ≤ 2 ^ 731 := by decide +kernel
theorem f1037 : ∃ a : Nat, a = 1037 ∧ (10 : Nat) ^ 312 ≤ 2 ^ a := ⟨1037, rfl, by decide +kernel⟩
theorem cond_core {u v : Nat} (h : 2 ^ u < 10 ^ v) : (u ≤ 1037 → u ≤ 745 + v) ∧ (1037 < u → 312 < v) := by
  constructor
  · intro hu
    rcases Nat.lt_or_ge v 292 with h1 | h1
    · have a1 : 2 ^ u < 2 ^ 967 := Nat.lt_of_lt_of_le h (Nat.le_trans (Nat.pow_le_pow_right (by decide) (by omega)) f967)
      have a2 := (Nat.pow_lt_pow_iff_right (by decide)).1 a1
      rcases Nat.lt_or_ge v 221 with h2 | h2
      · have b1 : 2 ^ u < 2 ^ 731 := Nat.lt_of_lt_of_le h (Nat.le_trans (Nat.pow_le_pow_right (by decide) (by omega)) f731)
        have b2 := (Nat.pow_lt_pow_iff_right (by decide)).1 b1
        omega
      · omega
    · omega
  · intro hu
    obtain ⟨a, ha, hf⟩ := f1037
    rcases Nat.lt_or_ge 312 v with h1 | h1
    · exact h1
    · have a1 : 2 ^ u < 2 ^ a := Nat.lt_of_lt_of_le h (Nat.le_trans (Nat.pow_le_pow_right (by decide) h1) hf)
      have a2 := (Nat.pow_lt_pow_iff_right (by decide)).1 a1
      omega

/-- 10^i 2^j < 10^k 2^l, told of the differences. -/
theorem pow_cond {i j k l : Nat} (h : 10 ^ i * 2 ^ j < 10 ^ k * 2 ^ l) {dp t : Int} (hdp : dp = (i : Int) - k + 1) (ht : t = (l : Int) - j) :
    (1 ≤ dp → dp ≤ t) ∧ (dp ≤ 0 → t < 0 → (-1037 ≤ t → dp ≤ 746 + t) ∧ (t < -1037 → dp ≤ -312)) := by
  constructor
  · intro h1
    obtain ⟨m, rfl⟩ : ∃ m, i = k + m := ⟨i - k, by omega⟩
    have h2 : 10 ^ m * 2 ^ j < 2 ^ l := by
      rw [Nat.pow_add, Nat.mul_assoc] at h
      exact Nat.lt_of_mul_lt_mul_left h
    have h3 : 2 ^ (m + j) < 2 ^ l := by
      rw [Nat.pow_add]
      exact Nat.lt_of_le_of_lt (Nat.mul_le_mul_right _ (Nat.pow_le_pow_left (by decide) m)) h2
    have := (Nat.pow_lt_pow_iff_right (by decide)).1 h3
    omega
  · intro h1 h2
    obtain ⟨v, rfl⟩ : ∃ v, k = i + v := ⟨k - i, by omega⟩
    obtain ⟨u, rfl⟩ : ∃ u, j = l + u := ⟨j - l, by omega⟩
    have h3 : 2 ^ u < 10 ^ v := by
      rw [Nat.pow_add, Nat.pow_add, Nat.mul_assoc, Nat.mul_comm (2 ^ l)] at h
      have h4 := Nat.lt_of_mul_lt_mul_left h
      exact Nat.lt_of_mul_lt_mul_right h4
    obtain ⟨a, b⟩ := cond_core h3
    omega

/-- A/B lies in [2^(e-1), 2^e). -/
structure At (A B : Nat) (e : Int) : Prop where
  lo : B * 2 ^ (e - 1 + oo).toNat ≤ A * 2 ^ oo
  hi : A * 2 ^ oo < B * 2 ^ (e + oo).toNat
  b0 : 0 < B
  e1 : -1099 ≤ e
  e2 : e ≤ 2000
/-- How fine the steps are. -/
def stepK (e : Int) : Nat := (min (54 - e) 1100 + oo).toNat
theorem tn (e : Int) (h : 0 ≤ e) : ((e.toNat : Nat) : Int) = e := by omega

theorem cond_at {A B : Nat} {e dp s : Int} {b V : Nat} (ha : At A B e) (hle : V * (B * 2 ^ oo) ≤ A * 2 ^ b * 10 ^ oo) (hV : 10 ^ (dp - 1 + oo).toNat ≤ V) (hb : (b : Int) = s + oo) (hd : -1000 ≤ dp) :
    dp ≤ 800 → (s ≥ 0 ∨ -100 ≤ e + s) → (dp - 800 + oo).toNat ≤ oo ∧ (dp - 800 + oo).toNat + stepK e ≤ b + oo := by
  intro h800 hs2
  have hoo := oo_eq
  have h1 := ha.e1
  have h2 := ha.e2
  have k : 10 ^ (dp - 1 + oo).toNat * 2 ^ (oo + oo) < 10 ^ oo * 2 ^ (b + (e + oo).toNat) := by
    refine Nat.lt_of_mul_lt_mul_left (a := B) ?_
    calc B * (10 ^ (dp - 1 + oo).toNat * 2 ^ (oo + oo)) ≤ B * (V * 2 ^ (oo + oo)) := Nat.mul_le_mul_left _ (Nat.mul_le_mul_right _ hV)
      _ = V * (B * 2 ^ oo) * 2 ^ oo := by rw [Nat.pow_add]; grind
      _ ≤ A * 2 ^ b * 10 ^ oo * 2 ^ oo := Nat.mul_le_mul_right _ hle
      _ = (A * 2 ^ oo) * (2 ^ b * 10 ^ oo) := by grind
      _ < (B * 2 ^ (e + oo).toNat) * (2 ^ b * 10 ^ oo) := Nat.mul_lt_mul_of_pos_right ha.hi (Nat.mul_pos (Nat.two_pow_pos _) (Nat.pow_pos (by decide)))
      _ = B * (10 ^ oo * 2 ^ (b + (e + oo).toNat)) := by rw [Nat.pow_add]; grind
  obtain ⟨c1, c2⟩ := pow_cond k (dp := dp) (t := e + s) (by rw [tn _ (by omega)]; omega) (by rw [Int.natCast_add, tn _ (by omega), Int.natCast_add]; omega)
  have hKK : ((stepK e : Nat) : Int) = min (54 - e) 1100 + oo := tn _ (by omega)
  have hc : (((dp - 800 + oo).toNat : Nat) : Int) = dp - 800 + oo := tn _ (by omega)
  omega

/-- Against a power of two, what is stored says the same as the number. -/
theorem Fl.one_le {A B K b V : Nat} {tr : Bool} (h : Fl A B K b V tr) (hB : 0 < B) {i : Nat} (hK : K = b + i) (hx : B * 2 ^ oo ≤ A * 2 ^ b) : 10 ^ oo ≤ V := by
  obtain ⟨_, _, h3⟩ := h
  have hD : 0 < B * 2 ^ oo := Nat.mul_pos hB (Nat.two_pow_pos _)
  have k1 : 2 ^ i ≤ A * 2 ^ K / (B * 2 ^ oo) := by
    rw [Nat.le_div_iff_mul_le hD]
    calc 2 ^ i * (B * 2 ^ oo) = B * 2 ^ oo * 2 ^ i := by grind
      _ ≤ A * 2 ^ b * 2 ^ i := Nat.mul_le_mul_right _ hx
      _ = A * 2 ^ K := by rw [hK, Nat.pow_add]; grind
  refine Nat.le_of_mul_le_mul_right (c := 2 ^ (b + i)) ?_ (Nat.two_pow_pos _)
  calc 10 ^ oo * 2 ^ (b + i) = 2 ^ i * 2 ^ b * 10 ^ oo := by rw [Nat.pow_add]; grind
    _ ≤ A * 2 ^ K / (B * 2 ^ oo) * 2 ^ b * 10 ^ oo := Nat.mul_le_mul_right _ (Nat.mul_le_mul_right _ k1)
    _ ≤ V * 2 ^ K := h3
    _ = V * 2 ^ (b + i) := by rw [hK]

theorem Fl.above {A B K b V : Nat} {tr : Bool} (h : Fl A B K b V tr) {c : Nat} (hV : c * 10 ^ oo ≤ V * 2) : c * (B * 2 ^ oo) ≤ A * 2 ^ b * 2 := by
  refine Nat.le_of_mul_le_mul_right (c := 10 ^ oo) ?_ (Nat.pow_pos (by decide))
  calc c * (B * 2 ^ oo) * 10 ^ oo = c * 10 ^ oo * (B * 2 ^ oo) := by grind
    _ ≤ V * 2 * (B * 2 ^ oo) := Nat.mul_le_mul_right _ hV
    _ = V * (B * 2 ^ oo) * 2 := by grind
    _ ≤ A * 2 ^ b * 10 ^ oo * 2 := Nat.mul_le_mul_right _ h.le
    _ = A * 2 ^ b * 2 * 10 ^ oo := by grind
/-- The number is below twice what is stored. -/
theorem Fl.below {A B K b V : Nat} {tr : Bool} (h : Fl A B K b V tr) (hB : 0 < B) (hK : B * 2 ^ oo ≤ A * 2 ^ K) : A * 2 ^ b * 10 ^ oo < 2 * V * (B * 2 ^ oo) := by
  obtain ⟨_, _, h3⟩ := h
  have hD : 0 < B * 2 ^ oo := Nat.mul_pos hB (Nat.two_pow_pos _)
  generalize B * 2 ^ oo = D at *
  have hH : 1 ≤ A * 2 ^ K / D := (Nat.le_div_iff_mul_le hD).2 (by rw [Nat.one_mul]; exact hK)
  have hl := Nat.lt_div_mul_add (a := A * 2 ^ K) hD
  generalize A * 2 ^ K / D = H at *
  have k1 : A * 2 ^ K < 2 * H * D := by
    refine Nat.lt_of_lt_of_le hl ?_
    have := Nat.mul_le_mul_right D hH
    rw [Nat.mul_assoc]
    omega
  refine Nat.lt_of_mul_lt_mul_right (a := 2 ^ K) ?_
  calc A * 2 ^ b * 10 ^ oo * 2 ^ K = (A * 2 ^ K) * (2 ^ b * 10 ^ oo) := by grind
    _ < (2 * H * D) * (2 ^ b * 10 ^ oo) := Nat.mul_lt_mul_of_pos_right k1 (Nat.mul_pos (Nat.two_pow_pos _) (Nat.pow_pos (by decide)))
    _ = 2 * D * (H * 2 ^ b * 10 ^ oo) := by grind
    _ ≤ 2 * D * (V * 2 ^ K) := Nat.mul_le_mul_left _ h3
    _ = 2 * V * D * 2 ^ K := by grind

section
variable {A B : Nat} {e s : Int} {b V : Nat} {tr : Bool}
theorem At.grid_pos (ha : At A B e) : B * 2 ^ oo ≤ A * 2 ^ stepK e := by
  have hoo := oo_eq
  have h1 := ha.e1
  have h2 := ha.e2
  have hKK : ((stepK e : Nat) : Int) = min (54 - e) 1100 + oo := tn _ (by omega)
  refine Nat.le_of_mul_le_mul_right (c := 2 ^ oo) ?_ (Nat.two_pow_pos _)
  calc B * 2 ^ oo * 2 ^ oo = B * 2 ^ (oo + oo) := by rw [Nat.pow_add]; grind
    _ ≤ B * 2 ^ ((e - 1 + oo).toNat + stepK e) := Nat.mul_le_mul_left _ (Nat.pow_le_pow_right (by decide) (by omega))
    _ = B * 2 ^ (e - 1 + oo).toNat * 2 ^ stepK e := by rw [Nat.pow_add]; grind
    _ ≤ A * 2 ^ oo * 2 ^ stepK e := Nat.mul_le_mul_right _ ha.lo
    _ = A * 2 ^ stepK e * 2 ^ oo := by grind
/-- At least one: the power of two. -/
theorem Fl.ge_one (h : Fl A B (stepK e) b V tr) (ha : At A B e) (hb : (b : Int) = s + oo) (hV : 10 ^ oo ≤ V) : 1 ≤ e + s := by
  have hoo := oo_eq
  have h1 := ha.e1
  have hp := Fl.above h (c := 2) (by omega)
  have k : B * 2 ^ (oo + oo) < B * 2 ^ (b + (e + oo).toNat) := by
    calc B * 2 ^ (oo + oo) = B * 2 ^ oo * 2 ^ oo := by rw [Nat.pow_add]; grind
      _ ≤ A * 2 ^ b * 2 ^ oo := Nat.mul_le_mul_right _ (by omega)
      _ = A * 2 ^ oo * 2 ^ b := by grind
      _ < B * 2 ^ (e + oo).toNat * 2 ^ b := Nat.mul_lt_mul_of_pos_right ha.hi (Nat.two_pow_pos _)
      _ = B * 2 ^ (b + (e + oo).toNat) := by rw [Nat.pow_add]; grind
  have := (Nat.pow_lt_pow_iff_right (by decide)).1 (Nat.lt_of_mul_lt_mul_left k)
  omega
/-- At least a half. -/
theorem Fl.ge_half (h : Fl A B (stepK e) b V tr) (ha : At A B e) (hb : (b : Int) = s + oo) (hV : 10 ^ oo ≤ V * 2) : 0 ≤ e + s := by
  have hoo := oo_eq
  have h1 := ha.e1
  have hp := Fl.above h (c := 1) (by omega)
  have k : B * 2 ^ (oo + oo) < B * 2 ^ (b + (e + oo).toNat + 1) := by
    calc B * 2 ^ (oo + oo) = 1 * (B * 2 ^ oo) * 2 ^ oo := by rw [Nat.pow_add]; grind
      _ ≤ A * 2 ^ b * 2 * 2 ^ oo := Nat.mul_le_mul_right _ hp
      _ = A * 2 ^ oo * (2 ^ b * 2) := by grind
      _ < B * 2 ^ (e + oo).toNat * (2 ^ b * 2) := Nat.mul_lt_mul_of_pos_right ha.hi (Nat.mul_pos (Nat.two_pow_pos _) (by decide))
      _ = B * 2 ^ (b + (e + oo).toNat + 1) := by rw [Nat.pow_succ, Nat.pow_add]; grind
  have := (Nat.pow_lt_pow_iff_right (by decide)).1 (Nat.lt_of_mul_lt_mul_left k)
  omega
/-- Below 2^i (stored): the number is below 2^(i+1). -/
theorem Fl.lt_pow (h : Fl A B (stepK e) b V tr) (ha : At A B e) (hb : (b : Int) = s + oo) {i : Nat} (hV : V * 2 ≤ 2 ^ i * 10 ^ oo) : e + s ≤ i := by
  have hoo := oo_eq
  have h1 := ha.e1
  have hp := Fl.below h ha.b0 ha.grid_pos
  have k2 : A * 2 ^ b < 2 ^ i * (B * 2 ^ oo) := by
    refine Nat.lt_of_mul_lt_mul_right (a := 10 ^ oo) ?_
    calc A * 2 ^ b * 10 ^ oo < 2 * V * (B * 2 ^ oo) := hp
      _ ≤ 2 ^ i * 10 ^ oo * (B * 2 ^ oo) := Nat.mul_le_mul_right _ (by omega)
      _ = 2 ^ i * (B * 2 ^ oo) * 10 ^ oo := by grind
  have k : B * 2 ^ ((e - 1 + oo).toNat + b) < B * 2 ^ (i + oo + oo) := by
    calc B * 2 ^ ((e - 1 + oo).toNat + b) = B * 2 ^ (e - 1 + oo).toNat * 2 ^ b := by rw [Nat.pow_add]; grind
      _ ≤ A * 2 ^ oo * 2 ^ b := Nat.mul_le_mul_right _ ha.lo
      _ = A * 2 ^ b * 2 ^ oo := by grind
      _ < 2 ^ i * (B * 2 ^ oo) * 2 ^ oo := Nat.mul_lt_mul_of_pos_right k2 (Nat.two_pow_pos _)
      _ = B * 2 ^ (i + oo + oo) := by rw [Nat.pow_add, Nat.pow_add]; grind
  have := (Nat.pow_lt_pow_iff_right (by decide)).1 (Nat.lt_of_mul_lt_mul_left k)
  omega
/-- Scaled into [1/2, 1): the exponent. -/
theorem Fl.scaled (h : Fl A B (stepK e) b V tr) (ha : At A B e) (hb : (b : Int) = s + oo) (h1 : 10 ^ oo ≤ V * 2) (h2 : V < 10 ^ oo) : e + s = 0 := by
  have hoo := oo_eq
  have h3 := ha.e1
  have h4 := ha.e2
  have g1 := Fl.ge_half h ha hb h1
  have g2 := Fl.lt_pow h ha hb (i := 1) (by omega)
  rcases Int.lt_or_le 0 (e + s) with h5 | h5
  · exfalso
    have hKK : ((stepK e : Nat) : Int) = min (54 - e) 1100 + oo := tn _ (by omega)
    refine absurd (Fl.one_le h ha.b0 (i := (stepK e - b)) (by omega) ?_) (by omega)
    refine Nat.le_of_mul_le_mul_right (c := 2 ^ oo) ?_ (Nat.two_pow_pos _)
    calc B * 2 ^ oo * 2 ^ oo = B * 2 ^ (oo + oo) := by rw [Nat.pow_add]; grind
      _ ≤ B * 2 ^ ((e - 1 + oo).toNat + b) := Nat.mul_le_mul_left _ (Nat.pow_le_pow_right (by decide) (by omega))
      _ = B * 2 ^ (e - 1 + oo).toNat * 2 ^ b := by rw [Nat.pow_add]; grind
      _ ≤ A * 2 ^ oo * 2 ^ b := Nat.mul_le_mul_right _ ha.lo
      _ = A * 2 ^ b * 2 ^ oo := by grind
  · omega
end
end FloM

namespace FloM

/-- The number of the first n digits. -/
def pre (g : Nat → Nat) : Nat → Nat
  | 0 => 0
  | n + 1 => pre g n * 10 + (g n - 48)
theorem pre_congr {g g' : Nat → Nat} : ∀ {n : Nat}, (∀ i, i < n → g i = g' i) → pre g n = pre g' n
  | 0, _ => rfl
  | n + 1, h => by
    show pre g n * 10 + _ = pre g' n * 10 + _
    rw [pre_congr (n := n) (fun i hi => h i (by omega)), h n (by omega)]
/-- Digits, no nought ahead. -/
structure Dok (g : Nat → Nat) (nd : Nat) : Prop where
  dig : ∀ i, i < nd → 48 ≤ g i ∧ g i ≤ 57
  le : nd ≤ 800
  pos : 0 < nd
  lead : g 0 ≠ 48
theorem pre_lt {g : Nat → Nat} : ∀ {n : Nat}, (∀ i, i < n → 48 ≤ g i ∧ g i ≤ 57) → pre g n < 10 ^ n
  | 0, _ => by rw [Nat.pow_zero]; exact Nat.one_pos
  | n + 1, h => by
    have ih := pre_lt (n := n) (fun i hi => h i (by omega))
    have hn := h n (by omega)
    show pre g n * 10 + _ < _
    rw [Nat.pow_succ]; omega
theorem pre_ge {g : Nat → Nat} : ∀ {n : Nat}, 48 < g 0 → 10 ^ n ≤ pre g (n + 1)
  | 0, h => by rw [Nat.pow_zero]; show 1 ≤ 0 * 10 + (g 0 - 48); omega
  | n + 1, h => by
    have ih := pre_ge (n := n) h
    show _ ≤ pre g (n + 1) * 10 + _
    rw [Nat.pow_succ]; omega
theorem pre_pos {g : Nat → Nat} {n : Nat} (h : 48 < g 0) (hn : 0 < n) : 0 < pre g n := by
  obtain ⟨m, rfl⟩ : ∃ m, n = m + 1 := ⟨n - 1, by omega⟩
  exact Nat.lt_of_lt_of_le (Nat.pow_pos (by decide)) (pre_ge h)
theorem Dok.hi {g : Nat → Nat} {nd : Nat} (h : Dok g nd) : 48 < g 0 := by
  have := h.dig 0 h.pos
  have := h.lead
  omega
/-- The stored amount, in 10^-oo. -/
def dV (g : Nat → Nat) (nd : Nat) (dp : Int) : Nat := pre g nd * 10 ^ (dp - nd + oo).toNat
theorem dV_ge {g : Nat → Nat} {nd : Nat} {dp : Int} (h : Dok g nd) (hd : -2000 ≤ dp) : 10 ^ (dp - 1 + oo).toNat ≤ dV g nd dp := by
  have hoo := oo_eq
  have hp := h.pos
  have hl := h.le
  obtain ⟨m, rfl⟩ : ∃ m, nd = m + 1 := ⟨nd - 1, by omega⟩
  unfold dV
  rw [show (dp - 1 + oo).toNat = m + (dp - ((m + 1 : Nat) : Int) + oo).toNat by omega, Nat.pow_add]
  exact Nat.mul_le_mul_right _ (pre_ge h.hi)
theorem dV_lt {g : Nat → Nat} {nd : Nat} {dp : Int} (h : Dok g nd) (hd : -2000 ≤ dp) : dV g nd dp < 10 ^ (dp + oo).toNat := by
  have hoo := oo_eq
  have hl := h.le
  unfold dV
  rw [show (dp + oo).toNat = nd + (dp - nd + oo).toNat by omega, Nat.pow_add]
  exact Nat.mul_lt_mul_of_pos_right (pre_lt h.dig) (Nat.pow_pos (by decide))

/-- How many digits are left, without the noughts at the end. -/
def tzN (g : Nat → Nat) : Nat → Nat
  | 0 => 0
  | n + 1 => if g n = 48 then tzN g n else n + 1
theorem tz_le (g : Nat → Nat) : ∀ n, tzN g n ≤ n
  | 0 => Nat.le_refl _
  | n + 1 => by unfold tzN; split; exact Nat.le_trans (tz_le g n) (by omega); exact Nat.le_refl _
theorem tz_pre (g : Nat → Nat) : ∀ n, pre g n = pre g (tzN g n) * 10 ^ (n - tzN g n)
  | 0 => by simp [tzN]
  | n + 1 => by
    have ih := tz_pre g n
    have hl := tz_le g n
    unfold tzN
    split
    · next h =>
      show pre g n * 10 + (g n - 48) = _
      rw [h, show n + 1 - tzN g n = (n - tzN g n) + 1 by omega, Nat.pow_succ, ← Nat.mul_assoc, ← ih]
      omega
    · simp
theorem tz_pos {g : Nat → Nat} : ∀ {n : Nat}, g 0 ≠ 48 → 0 < n → 0 < tzN g n
  | n + 1, h0, _ => by
    unfold tzN
    split
    · next h =>
      rcases Nat.eq_zero_or_pos n with hn | hn
      · subst hn; exact absurd h h0
      · exact tz_pos h0 hn
    · exact Nat.succ_pos _
theorem tz_last {g : Nat → Nat} : ∀ {n : Nat}, 0 < tzN g n → g (tzN g n - 1) ≠ 48
  | 0, h => by simp [tzN] at h
  | n + 1, h => by
    unfold tzN at h ⊢
    split
    · next hh => rw [if_pos hh] at h; exact tz_last h
    · next hh => exact hh
theorem Dok.trim {g : Nat → Nat} {nd : Nat} (h : Dok g nd) : Dok g (tzN g nd) :=
  ⟨fun i hi => h.dig i (Nat.lt_of_lt_of_le hi (tz_le g nd)), Nat.le_trans (tz_le g nd) h.le, tz_pos h.lead h.pos, h.lead⟩
theorem dV_trim {g : Nat → Nat} {nd : Nat} {dp : Int} (h : Dok g nd) (hd : -2000 ≤ dp) : dV g (tzN g nd) dp = dV g nd dp := by
  have hoo := oo_eq
  have hl := tz_le g nd
  have h8 := h.le
  unfold dV
  have e := tz_pre g nd
  generalize tzN g nd = t at *
  rw [e, Nat.mul_assoc, ← Nat.pow_add, show (dp - (t : Nat) + oo).toNat = nd - t + (dp - nd + oo).toNat by omega]

/-- What a shift to the right leaves. -/
theorem right_cut {g g' : Nat → Nat} {nd r0 a k W w nst : Nat} {dp dp' : Int} {tr tr' : Bool} (hD : pre g nd * 10 ^ a = 10 * 2 ^ k * W + nst) (hw : w + r0 = nd + a) (hn : nst < 10 * 2 ^ k)
    (ht : (nst = 0 ∧ tr' = tr) ∨ (0 < nst ∧ w = 800 ∧ tr' = true)) (hd : dp' = dp - r0 + 1) (hW : pre g' w = W) (hw8 : w ≤ 800) (hdp : -2000 ≤ dp') :
    Cut (dV g nd dp) (dV g' w dp') (2 ^ k) (dp' - 800 + oo).toNat tr tr' := by
  have hoo := oo_eq
  obtain ⟨x, hx⟩ : ∃ x : Nat, ((x : Nat) : Int) + 1 = dp' - w + oo := ⟨(dp' - w + oo - 1).toNat, by omega⟩
  have e1 : dV g nd dp = (10 * 2 ^ k * W + nst) * 10 ^ x := by
    unfold dV
    rw [show (dp - nd + oo).toNat = a + x by omega, Nat.pow_add, ← Nat.mul_assoc, hD]
  have e2 : dV g' w dp' = W * 10 * 10 ^ x := by
    unfold dV
    rw [hW, show (dp' - w + oo).toNat = x + 1 by omega, Nat.pow_succ]; grind
  rw [e1, e2]
  have hp : 0 < 10 ^ x := Nat.pow_pos (by decide)
  rcases ht with ⟨h0, h1⟩ | ⟨h0, h1, h2⟩
  · left
    refine ⟨?_, h1⟩
    rw [h0]; grind
  · right
    have hc : (dp' - 800 + oo).toNat = x + 1 := by omega
    rw [hc]
    refine ⟨?_, ?_, ⟨W, by rw [Nat.pow_succ]; grind⟩, h2⟩
    · have := Nat.mul_lt_mul_of_pos_right h0 hp
      calc W * 10 * 10 ^ x * 2 ^ k = 10 * 2 ^ k * W * 10 ^ x + 0 * 10 ^ x := by grind
        _ < 10 * 2 ^ k * W * 10 ^ x + nst * 10 ^ x := by omega
        _ = _ := by rw [Nat.add_mul]
    · have := Nat.mul_lt_mul_of_pos_right hn hp
      calc (10 * 2 ^ k * W + nst) * 10 ^ x = 10 * 2 ^ k * W * 10 ^ x + nst * 10 ^ x := by rw [Nat.add_mul]
        _ < 10 * 2 ^ k * W * 10 ^ x + 10 * 2 ^ k * 10 ^ x := by omega
        _ = (W * 10 * 10 ^ x + 10 ^ (x + 1)) * 2 ^ k := by rw [Nat.pow_succ]; grind

/-- The digits of M, the first m of N. -/
theorem pre_of_digits {g : Nat → Nat} {M N : Nat} (hM : M < 10 ^ N) : ∀ {m : Nat}, m ≤ N → (∀ i, i < m → g i = 48 + M / 10 ^ (N - 1 - i) % 10) → pre g m = M / 10 ^ (N - m)
  | 0, _, _ => by rw [Nat.sub_zero, Nat.div_eq_of_lt hM]; rfl
  | m + 1, hm, h => by
    have ih := pre_of_digits hM (m := m) (by omega) (fun i hi => h i (by omega))
    have hi := h m (by omega)
    show pre g m * 10 + (g m - 48) = _
    rw [ih, hi, show N - 1 - m = N - (m + 1) by omega, show N - m = (N - (m + 1)) + 1 by omega, Nat.pow_succ, ← Nat.div_div_eq_div_mul]
    omega

theorem left_cut {g g' : Nat → Nat} {nd delta k : Nat} {dp : Int} {tr tr' : Bool} (hM2 : pre g nd * 2 ^ k < 10 ^ (nd + delta))
    (hg : ∀ i, i < min (nd + delta) 800 → g' i = 48 + pre g nd * 2 ^ k / 10 ^ (nd + delta - 1 - i) % 10)
    (ht : tr' = (tr || decide (pre g nd * 2 ^ k % 10 ^ (nd + delta - min (nd + delta) 800) ≠ 0))) (hdp : -2000 ≤ dp) (hnd : nd ≤ 800) :
    Cut (dV g nd dp * 2 ^ k) (dV g' (min (nd + delta) 800) (dp + delta)) 1 (dp + delta - 800 + oo).toNat tr tr' := by
  have hoo := oo_eq
  have hp := pre_of_digits hM2 (Nat.min_le_left _ _) hg
  generalize hMM : pre g nd * 2 ^ k = M at *
  obtain ⟨z, hz⟩ : ∃ z : Nat, ((z : Nat) : Int) = dp - nd + oo := ⟨(dp - nd + oo).toNat, by omega⟩
  have e1 : dV g nd dp * 2 ^ k = M * 10 ^ z := by
    unfold dV
    rw [show (dp - nd + oo).toNat = z by omega, ← hMM]; grind
  have hy : (dp + delta - (min (nd + delta) 800 : Nat) + oo).toNat = (nd + delta - min (nd + delta) 800) + z := by omega
  have e2 : dV g' (min (nd + delta) 800) (dp + delta) = M / 10 ^ (nd + delta - min (nd + delta) 800) * 10 ^ (nd + delta - min (nd + delta) 800) * 10 ^ z := by
    unfold dV
    rw [hp, hy, Nat.pow_add, Nat.mul_assoc]
  rw [e1, e2]
  have hpz : 0 < 10 ^ z := Nat.pow_pos (by decide)
  have hdm := Nat.div_add_mod M (10 ^ (nd + delta - min (nd + delta) 800))
  have hml := Nat.mod_lt M (show 0 < 10 ^ (nd + delta - min (nd + delta) 800) from Nat.pow_pos (by decide))
  by_cases h0 : M % 10 ^ (nd + delta - min (nd + delta) 800) = 0
  · left
    refine ⟨?_, by rw [ht, decide_eq_false (by omega), Bool.or_false]⟩
    rw [h0] at hdm
    rw [Nat.mul_one, Nat.mul_comm (M / _)]
    exact congrArg (· * 10 ^ z) hdm
  · right
    have h8 : min (nd + delta) 800 = 800 := by
      rcases Nat.le_total (nd + delta) 800 with h | h
      · rw [Nat.min_eq_left h, Nat.sub_self, Nat.pow_zero, Nat.mod_one] at h0
        exact absurd rfl h0
      · exact Nat.min_eq_right h
    have hc : (dp + delta - 800 + oo).toNat = (nd + delta - min (nd + delta) 800) + z := by rw [← hy, h8]; rfl
    rw [hc, Nat.pow_add]
    generalize 10 ^ (nd + delta - min (nd + delta) 800) = P at *
    generalize M / P = q at *
    generalize M % P = r at *
    rw [Nat.mul_one, Nat.mul_one, ← hdm, Nat.mul_comm P q]
    refine ⟨Nat.mul_lt_mul_of_pos_right (by omega) hpz, ?_, ⟨q, by grind⟩, by rw [ht, decide_eq_true h0, Bool.or_true]⟩
    rw [← Nat.add_mul]
    exact Nat.mul_lt_mul_of_pos_right (by omega) hpz

/-- How many digits a shift to the left adds. -/
theorem delta_core {g : Nat → Nat} {nd k Δ L C : Nat} (h : Dok g nd) (hC : C = 5 ^ k) (hL : L + Δ = k + 1) (hΔ : 1 ≤ Δ) (h1 : 10 ^ (Δ - 1) ≤ 2 ^ k) (h2 : 2 ^ k ≤ 10 ^ Δ) (less : Bool)
    (hl : less = true ↔ pre g nd * 10 ^ L < C * 10 ^ nd) :
    10 ^ (nd + (Δ - less.toNat) - 1) ≤ pre g nd * 2 ^ k ∧ pre g nd * 2 ^ k < 10 ^ (nd + (Δ - less.toNat)) := by
  have hp := pre_lt h.dig
  have hn := h.pos
  obtain ⟨m, rfl⟩ : ∃ m, nd = m + 1 := ⟨nd - 1, by omega⟩
  have hg := pre_ge (n := m) h.hi
  generalize pre g (m + 1) = P at *
  have e10 : C * 2 ^ k = 10 ^ k := by rw [hC, ← Nat.mul_pow]
  have hL10 : 0 < 10 ^ L := Nat.pow_pos (by decide)
  have hk2 : 0 < 2 ^ k := Nat.two_pow_pos _
  obtain ⟨δ, rfl⟩ : ∃ δ, Δ = δ + 1 := ⟨Δ - 1, by omega⟩
  have hkL : k = L + δ := by omega
  cases less
  · rw [show m + 1 + (δ + 1 - false.toNat) - 1 = m + 1 + δ by simp, show m + 1 + (δ + 1 - false.toNat) = m + 1 + (δ + 1) by simp]
    constructor
    · have hge : C * 10 ^ (m + 1) ≤ P * 10 ^ L := by
        rcases Nat.lt_or_ge (P * 10 ^ L) (C * 10 ^ (m + 1)) with hh | hh
        · have := hl.2 hh; cases this
        · exact hh
      refine Nat.le_of_mul_le_mul_right (c := 10 ^ L) ?_ hL10
      calc 10 ^ (m + 1 + δ) * 10 ^ L = 10 ^ k * 10 ^ (m + 1) := by rw [← Nat.pow_add, ← Nat.pow_add]; exact pw10 (by omega)
        _ = C * 10 ^ (m + 1) * 2 ^ k := by rw [← e10]; grind
        _ ≤ P * 10 ^ L * 2 ^ k := Nat.mul_le_mul_right _ hge
        _ = P * 2 ^ k * 10 ^ L := by grind
    · rw [Nat.pow_add 10 (m + 1)]
      exact Nat.lt_of_lt_of_le (Nat.mul_lt_mul_of_pos_right hp hk2) (Nat.mul_le_mul_left _ h2)
  · rw [show m + 1 + (δ + 1 - true.toNat) - 1 = m + δ by simp, show m + 1 + (δ + 1 - true.toNat) = m + 1 + δ by simp]
    constructor
    · rw [Nat.pow_add]
      exact Nat.mul_le_mul hg (by simpa using h1)
    · have hlt := hl.1 rfl
      refine Nat.lt_of_mul_lt_mul_right (a := 10 ^ L) ?_
      calc P * 2 ^ k * 10 ^ L = P * 10 ^ L * 2 ^ k := by grind
        _ < C * 10 ^ (m + 1) * 2 ^ k := Nat.mul_lt_mul_of_pos_right hlt hk2
        _ = 10 ^ k * 10 ^ (m + 1) := by rw [← e10]; grind
        _ = 10 ^ (m + 1 + δ) * 10 ^ L := by rw [← Nat.pow_add, ← Nat.pow_add]; exact pw10 (by omega)

/-- Where the first digits differ, the rest says nothing. -/
theorem pre_take {g : Nat → Nat} {nd : Nat} (hd : ∀ i, i < nd → 48 ≤ g i ∧ g i ≤ 57) : ∀ {j : Nat}, j ≤ nd → pre g j * 10 ^ (nd - j) ≤ pre g nd ∧ pre g nd < (pre g j + 1) * 10 ^ (nd - j) := by
  intro j hj
  obtain ⟨m, rfl⟩ : ∃ m, nd = j + m := ⟨nd - j, by omega⟩
  rw [Nat.add_sub_cancel_left]
  clear hj
  induction m with
  | zero => simp
  | succ m ih =>
    obtain ⟨a, b⟩ := ih (fun i hi => hd i (by omega))
    have hm := hd (j + m) (by omega)
    show _ ≤ pre g (j + m) * 10 + (g (j + m) - 48) ∧ pre g (j + m) * 10 + (g (j + m) - 48) < _
    rw [Nat.pow_succ, ← Nat.mul_assoc, ← Nat.mul_assoc]
    omega
end FloM

namespace FloM

theorem dp_pos {g : Nat → Nat} {nd : Nat} {dp : Int} (h : Dok g nd) (hd : 0 < dp) : 10 ^ oo ≤ dV g nd dp := by
  have hoo := oo_eq
  exact Nat.le_trans (Nat.pow_le_pow_right (by decide) (by omega)) (dV_ge h (by omega))
theorem dp_neg {g : Nat → Nat} {nd : Nat} {dp : Int} (h : Dok g nd) (hd : dp ≤ 0) (hd2 : -2000 ≤ dp) : dV g nd dp < 10 ^ oo := by
  have hoo := oo_eq
  exact Nat.lt_of_lt_of_le (dV_lt h hd2) (Nat.pow_le_pow_right (by decide) (by omega))
theorem dp_neg2 {g : Nat → Nat} {nd : Nat} {dp : Int} (h : Dok g nd) (hd : dp < 0) (hd2 : -2000 ≤ dp) : dV g nd dp * 10 < 10 ^ oo := by
  have hoo := oo_eq
  have h1 := dV_lt h hd2
  have h2 : 10 ^ ((dp + oo).toNat + 1) ≤ 10 ^ oo := Nat.pow_le_pow_right (by decide) (by omega)
  rw [Nat.pow_succ] at h2
  omega
theorem pow_split {a b : Nat} (h : b ≤ a) : (10 : Nat) ^ a = 10 ^ b * 10 ^ (a - b) := by
  rw [← Nat.pow_add]; exact pw10 (by omega)
theorem dp_zero {g : Nat → Nat} {nd : Nat} (h : Dok g nd) : (g 0 < 53 → dV g nd 0 * 2 < 10 ^ oo) ∧ (53 ≤ g 0 → 10 ^ oo ≤ dV g nd 0 * 2) := by
  have hoo := oo_eq
  have hl := h.le
  have hn := h.pos
  have h0 := h.hi
  obtain ⟨a, b⟩ := pre_take h.dig (j := 1) hn
  have e1 : pre g 1 = g 0 - 48 := by show 0 * 10 + (g 0 - 48) = g 0 - 48; omega
  rw [e1] at a b
  have e2 : (0 - (nd : Int) + oo).toNat = oo - nd := by omega
  have e3 : (10 : Nat) ^ oo = 10 ^ (nd - 1) * 10 * 10 ^ (oo - nd) := by
    rw [← Nat.pow_succ, ← Nat.pow_add]; exact pw10 (by omega)
  unfold dV
  rw [e2, e3]
  have hp : 0 < 10 ^ (oo - nd) := Nat.pow_pos (by decide)
  generalize 10 ^ (nd - 1) = T at *
  generalize 10 ^ (oo - nd) = U at *
  generalize pre g nd = P at *
  constructor
  · intro h5
    have c : (g 0 - 48 + 1) * T ≤ 5 * T := Nat.mul_le_mul_right _ (by omega)
    calc P * U * 2 = P * 2 * U := by grind
      _ < T * 10 * U := Nat.mul_lt_mul_of_pos_right (by omega) hp
  · intro h5
    have c : 5 * T ≤ (g 0 - 48) * T := Nat.mul_le_mul_right _ (by omega)
    calc T * 10 * U ≤ P * 2 * U := Nat.mul_le_mul_right _ (by omega)
      _ = P * U * 2 := by grind

/-- The whole part that RoundedInteger reads, and whether it rounds up. -/
def rI (g : Nat → Nat) (nd p : Nat) : Nat := pre g (min p nd) * 10 ^ (p - min p nd)
def upB (g : Nat → Nat) (nd : Nat) (dp : Int) (tr : Bool) : Bool :=
  if dp < 0 ∨ (nd : Int) ≤ dp then false
  else if g dp.toNat = 53 ∧ dp.toNat + 1 = nd then (tr || (decide (0 < dp) && decide ((g (dp.toNat - 1) - 48) % 2 = 1)))
  else decide (53 ≤ g dp.toNat)

theorem round_digits {g : Nat → Nat} {nd : Nat} {dp : Int} {tr : Bool} (h : Dok g nd) (hlast : g (nd - 1) ≠ 48) (hd : -2000 ≤ dp) (hd2 : dp ≤ 2000) :
    rI g nd dp.toNat + (upB g nd dp tr).toNat = rndV (dV g nd dp) tr := by
  have hoo := oo_eq
  have hl := h.le
  have hn := h.pos
  have hU : 0 < 10 ^ oo := Nat.pow_pos (by decide)
  unfold rndV
  rcases Int.lt_or_le dp 0 with hneg | hpos
  · have h1 := dp_neg2 h hneg hd
    have e0 : upB g nd dp tr = false := if_pos (.inl hneg)
    have e1 : rI g nd dp.toNat = 0 := by
      unfold rI
      rw [show dp.toNat = 0 by omega, Nat.min_eq_left (Nat.zero_le _)]
      show 0 * _ = 0
      omega
    rw [e0, e1, Nat.div_eq_of_lt (by omega), Nat.mod_eq_of_lt (by omega), if_neg (by omega)]
    rfl
  · obtain ⟨p, rfl⟩ : ∃ p : Nat, dp = (p : Int) := ⟨dp.toNat, by omega⟩
    rw [Int.toNat_natCast]
    rcases Nat.lt_or_ge p nd with hp | hp
    · have e1 : rI g nd p = pre g p := by
        unfold rI
        rw [Nat.min_eq_left (Nat.le_of_lt hp), Nat.sub_self, Nat.pow_zero, Nat.mul_one]
      obtain ⟨z, hz⟩ : ∃ z : Nat, oo = (nd - p) + z := ⟨oo - (nd - p), by omega⟩
      have e2 : (10 : Nat) ^ oo = 10 ^ (nd - p) * 10 ^ z := by rw [← Nat.pow_add, ← hz]
      have e3 : dV g nd p = pre g nd * 10 ^ z := by
        unfold dV
        rw [show ((p : Int) - nd + oo).toNat = z by omega]
      have hzp : 0 < 10 ^ z := Nat.pow_pos (by decide)
      rw [e1, e2, e3, Nat.mul_div_mul_right _ _ hzp, Nat.mul_mod_mul_right]
      obtain ⟨a, b⟩ := pre_take h.dig (j := p) (Nat.le_of_lt hp)
      obtain ⟨a', b'⟩ := pre_take h.dig (j := p + 1) hp
      have hT : 0 < 10 ^ (nd - p) := Nat.pow_pos (by decide)
      have hT' : 0 < 10 ^ (nd - (p + 1)) := Nat.pow_pos (by decide)
      have eT : (10 : Nat) ^ (nd - p) = 10 ^ (nd - (p + 1)) * 10 := by rw [← Nat.pow_succ]; exact pw10 (by omega)
      have q1 : pre g nd / 10 ^ (nd - p) = pre g p := by
        refine Nat.le_antisymm (Nat.le_of_lt_succ ?_) ?_
        · exact (Nat.div_lt_iff_lt_mul hT).2 b
        · exact (Nat.le_div_iff_mul_le hT).2 a
      have hdg := h.dig p hp
      have q2 : pre g nd % 10 ^ (nd - p) + pre g p * 10 ^ (nd - p) = pre g nd := by
        have := Nat.div_add_mod (pre g nd) (10 ^ (nd - p))
        rw [q1, Nat.mul_comm] at this
        omega
      have e4 : pre g (p + 1) = pre g p * 10 + (g p - 48) := rfl
      rw [q1]
      have hr : ∃ r, pre g nd % 10 ^ (nd - p) = (g p - 48) * 10 ^ (nd - (p + 1)) + r ∧ r < 10 ^ (nd - (p + 1)) ∧ (nd = p + 1 → r = 0) ∧ (p + 1 < nd → 0 < r) := by
        refine ⟨pre g nd - pre g (p + 1) * 10 ^ (nd - (p + 1)), ?_, ?_, ?_, ?_⟩
        · rw [e4, Nat.add_mul] at a' ⊢
          have q3 : pre g p * 10 ^ (nd - p) = pre g p * 10 * 10 ^ (nd - (p + 1)) := by rw [eT, ← Nat.mul_assoc, Nat.mul_right_comm]
          rw [q3] at q2
          omega
        · rw [Nat.add_mul] at b'
          omega
        · intro e; rw [← e, Nat.sub_self, Nat.pow_zero, Nat.mul_one, Nat.sub_self]
        · intro hlt
          rcases Nat.eq_or_lt_of_le a' with h5 | h5
          · exfalso
            obtain ⟨m, rfl⟩ : ∃ m, nd = m + 1 := ⟨nd - 1, by omega⟩
            have e6 : pre g (m + 1) = pre g m * 10 + (g m - 48) := rfl
            rw [show m + 1 - (p + 1) = (m - p - 1) + 1 by omega, Nat.pow_succ, ← Nat.mul_assoc] at h5
            have := h.dig m (by omega)
            have hlast' : g m ≠ 48 := hlast
            omega
          · omega
      obtain ⟨r, r1, r2, r3, r4⟩ := hr
      rw [r1]
      have hT1 : (10 : Nat) ^ (nd - p) * 10 ^ z < 2 * (((g p - 48) * 10 ^ (nd - (p + 1)) + r) * 10 ^ z) ↔ 10 ^ (nd - (p + 1)) * 10 < 2 * ((g p - 48) * 10 ^ (nd - (p + 1)) + r) := by
        rw [← eT, ← Nat.mul_assoc]
        exact ⟨fun hh => Nat.lt_of_mul_lt_mul_right hh, fun hh => Nat.mul_lt_mul_of_pos_right hh hzp⟩
      have hT2 : 2 * (((g p - 48) * 10 ^ (nd - (p + 1)) + r) * 10 ^ z) = 10 ^ (nd - p) * 10 ^ z ↔ 2 * ((g p - 48) * 10 ^ (nd - (p + 1)) + r) = 10 ^ (nd - (p + 1)) * 10 := by
        rw [← eT, ← Nat.mul_assoc]
        exact ⟨fun hh => Nat.eq_of_mul_eq_mul_right hzp hh, fun hh => by rw [hh]⟩
      have hup : upB g nd p tr = if g p = 53 ∧ p + 1 = nd then (tr || (decide (0 < p) && decide ((g (p - 1) - 48) % 2 = 1))) else decide (53 ≤ g p) := by
        unfold upB
        rw [if_neg (by omega), Int.toNat_natCast]
        simp
      rw [hup]
      refine congrArg (pre g p + ·) ?_
      by_cases h5 : g p = 53 ∧ p + 1 = nd
      · rw [if_pos h5]
        have := r3 h5.2.symm
        subst this
        have e7 : nd - (p + 1) = 0 := by omega
        rw [h5.1, e7] at hT1 hT2
        rw [h5.1, e7]
        have par : (0 < p ∧ (g (p - 1) - 48) % 2 = 1) ↔ pre g p % 2 = 1 := by
          rcases Nat.eq_zero_or_pos p with hp0 | hp0
          · subst hp0; simp [pre]
          · obtain ⟨m, rfl⟩ : ∃ m, p = m + 1 := ⟨p - 1, by omega⟩
            have e6 : pre g (m + 1) = pre g m * 10 + (g m - 48) := rfl
            rw [e6, Nat.add_sub_cancel]
            omega
        rw [show (decide (0 < p) && decide ((g (p - 1) - 48) % 2 = 1)) = decide (pre g p % 2 = 1) by
          rw [← Bool.decide_and]; exact decide_eq_decide.2 par]
        have n1 : ¬ (10 : Nat) ^ (nd - p) * 10 ^ z < 2 * (((53 - 48) * 10 ^ 0 + 0) * 10 ^ z) := fun hh => absurd (hT1.1 hh) (by decide)
        have n2 : 2 * (((53 - 48) * 10 ^ 0 + 0) * 10 ^ z) = 10 ^ (nd - p) * 10 ^ z := hT2.2 (by decide)
        by_cases h6 : tr = true ∨ pre g p % 2 = 1
        · rw [if_pos (.inr ⟨n2, h6⟩)]
          rcases h6 with h6 | h6
          · rw [h6, Bool.true_or]; rfl
          · rw [decide_eq_true h6, Bool.or_true]; rfl
        · rw [if_neg (fun hh => hh.elim n1 (fun hh => h6 hh.2))]
          have h7 : tr = false := by cases tr; rfl; exact absurd (.inl rfl) h6
          rw [h7, decide_eq_false (fun hh => h6 (.inr hh))]; rfl
      · rw [if_neg h5]
        generalize 10 ^ (nd - (p + 1)) = T at *
        rcases Nat.lt_or_ge (g p) 53 with h6 | h6
        · have c : (g p - 48) * T ≤ 4 * T := Nat.mul_le_mul_right _ (by omega)
          rw [decide_eq_false (by omega), if_neg (by rw [hT1, hT2]; omega)]; rfl
        · rw [decide_eq_true h6]
          have c : 5 * T ≤ (g p - 48) * T := Nat.mul_le_mul_right _ (by omega)
          have hlt : T * 10 < 2 * ((g p - 48) * T + r) := by
            rcases Nat.eq_or_lt_of_le h6 with h7 | h7
            · have := r4 (by omega)
              omega
            · have c : 6 * T ≤ (g p - 48) * T := Nat.mul_le_mul_right _ (by omega)
              omega
          rw [if_pos (.inl (hT1.2 hlt))]; rfl
    · have e1 : rI g nd p = pre g nd * 10 ^ (p - nd) := by
        unfold rI
        rw [Nat.min_eq_right hp]
      have e0 : upB g nd p tr = false := if_pos (.inr (by omega))
      have e3 : dV g nd p = pre g nd * 10 ^ (p - nd) * 10 ^ oo := by
        unfold dV
        rw [show ((p : Int) - nd + oo).toNat = (p - nd) + oo by omega, Nat.pow_add, Nat.mul_assoc]
      rw [e0, e1, e3, Nat.mul_div_cancel _ hU, Nat.mul_mod_left, if_neg (by omega)]
      rfl

/-- The bits, from the rounded digits. -/
theorem bits_rq {A B : Nat} {e : Int} (ha : At A B e) {k i : Nat} (hk : (k : Int) = max (e + 1021) 0) (hi : i + k = oo + e74) :
    rq (A * KK) B = min (k * 2 ^ 52 + rhe (A * 2 ^ i) (B * 2 ^ oo)) cap ∧ rhe (A * 2 ^ i) (B * 2 ^ oo) ≤ 2 ^ 53 ∧ (0 < k → 2 ^ 52 ≤ rhe (A * 2 ^ i) (B * 2 ^ oo)) := by
  have hoo := oo_eq
  have h74 := e74_eq
  have h1 := ha.e1
  have h2 := ha.e2
  have hB := ha.b0
  have hBk : 0 < B * 2 ^ k := Nat.mul_pos hB (Nat.two_pow_pos _)
  have hr : rhe (A * 2 ^ i) (B * 2 ^ oo) = rhe (A * KK) (B * 2 ^ k) := by
    rw [← rhe_mul (A * 2 ^ i) (B * 2 ^ oo) (2 ^ k) (Nat.two_pow_pos _), ← rhe_mul (A * KK) (B * 2 ^ k) (2 ^ oo) (Nat.two_pow_pos _)]
    have e1 : A * 2 ^ i * 2 ^ k = A * KK * 2 ^ oo := by
      rw [Nat.mul_assoc, ← Nat.pow_add, hi, KK_eq, Nat.add_comm, Nat.pow_add, Nat.mul_assoc]
    rw [e1, Nat.mul_right_comm B]
  have l1 : A * KK / (B * 2 ^ k) < 2 ^ 53 := by
    rw [Nat.div_lt_iff_lt_mul hBk]
    refine Nat.lt_of_mul_lt_mul_right (a := 2 ^ oo) ?_
    calc A * KK * 2 ^ oo = (A * 2 ^ oo) * KK := by grind
      _ < (B * 2 ^ (e + oo).toNat) * KK := Nat.mul_lt_mul_of_pos_right ha.hi KK_pos
      _ = B * 2 ^ ((e + oo).toNat + e74) := by rw [KK_eq, Nat.pow_add]; grind
      _ ≤ B * 2 ^ (53 + k + oo) := Nat.mul_le_mul_left _ (Nat.pow_le_pow_right (by decide) (by omega))
      _ = 2 ^ 53 * (B * 2 ^ k) * 2 ^ oo := by rw [Nat.pow_add, Nat.pow_add]; grind
  have l2 : 0 < k → 2 ^ 52 ≤ A * KK / (B * 2 ^ k) := by
    intro hk0
    rw [Nat.le_div_iff_mul_le hBk]
    refine Nat.le_of_mul_le_mul_right (c := 2 ^ oo) ?_ (Nat.two_pow_pos _)
    calc 2 ^ 52 * (B * 2 ^ k) * 2 ^ oo = B * 2 ^ (52 + k + oo) := by rw [Nat.pow_add, Nat.pow_add]; grind
      _ ≤ B * 2 ^ ((e - 1 + oo).toNat + e74) := Nat.mul_le_mul_left _ (Nat.pow_le_pow_right (by decide) (by omega))
      _ = B * 2 ^ (e - 1 + oo).toNat * KK := by rw [KK_eq, Nat.pow_add]; grind
      _ ≤ A * 2 ^ oo * KK := Nat.mul_le_mul_right _ ha.lo
      _ = A * KK * 2 ^ oo := by grind
  have hle := rhe_le (A * KK) (B * 2 ^ k)
  rw [hr]
  refine ⟨rq_at l1 l2, by omega, fun hk0 => Nat.le_trans (l2 hk0) hle.1⟩

theorem at_of {A B a a2 : Nat} (hB : 0 < B) (ha : a = 1100) (ha2 : a2 = 1999) (h1 : B ≤ A * 2 ^ a) (h2 : A < B * 2 ^ a2) : ∃ e, At A B e := by
  have hoo := oo_eq
  have hq : A * 2 ^ oo / B ≠ 0 := by
    intro h0
    have := (Nat.div_eq_zero_iff_lt hB).1 h0
    have h3 : A * 2 ^ a ≤ A * 2 ^ oo := Nat.mul_le_mul_left _ (Nat.pow_le_pow_right (by decide) (by omega))
    omega
  have l1 := Nat.log2_self_le hq
  have l2 := Nat.lt_log2_self (n := A * 2 ^ oo / B)
  have m1 := Nat.div_mul_le_self (A * 2 ^ oo) B
  have m2 := Nat.lt_div_mul_add (a := A * 2 ^ oo) hB
  have k1 : oo ≤ (A * 2 ^ oo / B).log2 + 1100 := by
    refine Nat.le_of_lt_succ ((Nat.pow_lt_pow_iff_right (show 1 < 2 by decide)).1 ?_)
    have h3 : 2 ^ (oo - a) ≤ A * 2 ^ oo / B := by
      rw [Nat.le_div_iff_mul_le hB]
      calc 2 ^ (oo - a) * B ≤ 2 ^ (oo - a) * (A * 2 ^ a) := Nat.mul_le_mul_left _ h1
        _ = A * 2 ^ oo := by rw [show oo = (oo - a) + a by omega, Nat.pow_add, Nat.add_sub_cancel]; grind
    calc 2 ^ oo = 2 ^ (oo - a) * 2 ^ a := by rw [← Nat.pow_add]; exact pw2 (by omega)
      _ < 2 ^ ((A * 2 ^ oo / B).log2 + 1) * 2 ^ a := Nat.mul_lt_mul_of_pos_right (Nat.lt_of_le_of_lt h3 l2) (Nat.two_pow_pos _)
      _ = 2 ^ ((A * 2 ^ oo / B).log2 + 1100 + 1) := by rw [← Nat.pow_add]; exact pw2 (by omega)
  have k2 : (A * 2 ^ oo / B).log2 < oo + 1999 := by
    refine (Nat.pow_lt_pow_iff_right (show 1 < 2 by decide)).1 (Nat.lt_of_le_of_lt l1 ?_)
    rw [Nat.div_lt_iff_lt_mul hB]
    calc A * 2 ^ oo < B * 2 ^ a2 * 2 ^ oo := Nat.mul_lt_mul_of_pos_right h2 (Nat.two_pow_pos _)
      _ = 2 ^ (oo + 1999) * B := by rw [← ha2, Nat.pow_add]; grind
  generalize (A * 2 ^ oo / B).log2 = l at *
  refine ⟨(l : Int) + 1 - oo, ?_, ?_, hB, by omega, by omega⟩
  · rw [show ((l : Int) + 1 - oo - 1 + oo).toNat = l by omega]
    calc B * 2 ^ l ≤ B * (A * 2 ^ oo / B) := Nat.mul_le_mul_left _ l1
      _ ≤ _ := by rw [Nat.mul_comm]; exact m1
  · rw [show ((l : Int) + 1 - oo + oo).toNat = l + 1 by omega]
    calc A * 2 ^ oo < A * 2 ^ oo / B * B + B := m2
      _ = (A * 2 ^ oo / B + 1) * B := by rw [Nat.add_mul, Nat.one_mul]
      _ ≤ 2 ^ (l + 1) * B := Nat.mul_le_mul_right _ l2
      _ = _ := Nat.mul_comm _ _
end FloM
