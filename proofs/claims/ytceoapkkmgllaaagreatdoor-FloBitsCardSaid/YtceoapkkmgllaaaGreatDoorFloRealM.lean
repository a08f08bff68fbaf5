/- Doubling and halving of reals, plain. -/
import Derived.Test.YtceoapkkmgllaaaGreatDoorFloRnd
import Derived.Test.YtceoapkkmgllaaaGreatDoorFloLaws
namespace FloM
open Ieee

theorem val_repr2 (n e : Nat) (hn : n < 2 ^ 53) (he : e ≤ 2045) : ∃ r, r < cap ∧ val r = n * 2 ^ e := by
  have hcap : cap = 2047 * 2 ^ 52 := rfl
  rcases Nat.eq_zero_or_pos n with rfl | h0
  · exact ⟨0, by decide, by rw [val_zero, Nat.zero_mul]⟩
  have h1 := log2_le n (by omega)
  have h2 := lt_log2 n
  have hL : n.log2 < 53 := (Nat.log2_lt (by omega)).2 hn
  generalize hl : n.log2 = L at *
  rcases Nat.lt_or_ge (L + e) 52 with hs | hs
  · have : n * 2 ^ e < 2 ^ 52 := by
      calc n * 2 ^ e < 2 ^ (L + 1) * 2 ^ e := (Nat.mul_lt_mul_right (Nat.two_pow_pos _)).2 h2
        _ = 2 ^ (L + 1 + e) := (Nat.pow_add _ _ _).symm
        _ ≤ 2 ^ 52 := Nat.pow_le_pow_right (by omega) (by omega)
    refine ⟨n * 2 ^ e, by omega, ?_⟩
    unfold val; rw [if_pos this]
  · obtain ⟨t, ht⟩ : ∃ t, L + t = 52 := ⟨52 - L, by omega⟩
    obtain ⟨x, hx⟩ : ∃ x, e = t + x := ⟨e - t, by omega⟩
    have b1 : 2 ^ 52 ≤ n * 2 ^ t := by
      calc 2 ^ 52 = 2 ^ L * 2 ^ t := by rw [← Nat.pow_add, ht]
        _ ≤ n * 2 ^ t := Nat.mul_le_mul_right _ h1
    have b2 : n * 2 ^ t < 2 ^ 53 := by
      calc n * 2 ^ t < 2 ^ (L + 1) * 2 ^ t := (Nat.mul_lt_mul_right (Nat.two_pow_pos _)).2 h2
        _ = 2 ^ (L + 1 + t) := (Nat.pow_add _ _ _).symm
        _ = 2 ^ 53 := by congr 1; omega
    rw [hx, Nat.pow_add, ← Nat.mul_assoc]
    generalize n * 2 ^ t = M at *
    refine ⟨(x + 1) * 2 ^ 52 + (M - 2 ^ 52), by omega, ?_⟩
    have d1 : ((x + 1) * 2 ^ 52 + (M - 2 ^ 52)) / 2 ^ 52 = x + 1 := by omega
    have d2 : ((x + 1) * 2 ^ 52 + (M - 2 ^ 52)) % 2 ^ 52 = M - 2 ^ 52 := by omega
    unfold val
    rw [if_neg (by omega), d1, d2, show 2 ^ 52 + (M - 2 ^ 52) = M by omega, show x + 1 - 1 = x by omega]

/-- The rung of n * 2^e. -/
def rgv (n e : Nat) : Nat := rq (n * 2 ^ e) 1
theorem rgv_val {n e : Nat} (hn : n < 2 ^ 53) (he : e ≤ 2045) : val (rgv n e) = n * 2 ^ e ∧ rgv n e < cap := by
  obtain ⟨r, hr, hv⟩ := val_repr2 n e hn he
  have : rgv n e = r := by unfold rgv; rw [← hv, rq_val, Nat.min_eq_left (by omega)]
  rw [this]; exact ⟨hv, hr⟩
theorem rgv_of (r : Nat) (h : r < cap) : rgv (mg r) (up r) = r := by
  unfold rgv; rw [← val_eq, rq_val, Nat.min_eq_left (by omega)]
theorem wd_false (r : Nat) : wd false r = r := by simp [wd]
theorem ofI_rgv (n : Nat) : ofI (n : Int) = rgv n e74 := by
  unfold ofI rgv
  rw [decide_eq_false (by omega), Int.natAbs_natCast, KK_eq, wd_false]

theorem two_pow_help (a b : Nat) (h : 52 + b = 1 + a) : 2 ^ 52 * 2 ^ b = 2 * 2 ^ a := by
  rw [← Nat.pow_add, h, Nat.pow_add, Nat.pow_one]
theorem two_facts : rg 4611686018427387904 = 4611686018427387904 ∧ sgn 4611686018427387904 = false ∧ val 4611686018427387904 = 2 * KK := by
  have h2 : rg 4611686018427387904 = 4611686018427387904 := by decide
  have h3 : mg 4611686018427387904 = 2 ^ 52 := by decide
  obtain ⟨b, hb, hb'⟩ : ∃ b, up 4611686018427387904 = b ∧ 52 + b = 1 + e74 := ⟨_, rfl, by decide⟩
  refine ⟨h2, by decide, ?_⟩
  rw [val_eq, h3, hb, KK_eq]
  exact two_pow_help _ _ hb'
theorem pos_rg {r : Nat} (h : r < cap) : rg r = r ∧ sgn r = false := by
  have := cap_lt
  unfold rg sgn
  rw [Nat.mod_eq_of_lt (by omega), Nat.div_eq_of_lt (by omega)]
  exact ⟨rfl, rfl⟩
theorem pow_help (n e : Nat) : n * 2 ^ (e + 1) = 2 * (n * 2 ^ e) := by
  rw [Nat.pow_succ, ← Nat.mul_assoc, Nat.mul_comm]
theorem up_help (n e k : Nat) : n * 2 ^ e * (2 * k) * 1 = n * 2 ^ (e + 1) * k := by
  rw [pow_help]
  generalize n * 2 ^ e = a
  rw [Nat.mul_one, Nat.mul_left_comm, Nat.mul_assoc]
theorem down_help (n e k : Nat) : n * 2 ^ (e + 1) * k * 1 = n * 2 ^ e * (2 * k) := by
  rw [pow_help]
  generalize n * 2 ^ e = a
  rw [Nat.mul_one, Nat.mul_left_comm, Nat.mul_assoc]
theorem dbl_mul {n e : Nat} (hn : n < 2 ^ 53) (he : e ≤ 2044) : double.mul (rgv n e) 4611686018427387904 = some (rgv n (e + 1)) := by
  obtain ⟨hv, hc⟩ := rgv_val (e := e) hn (by omega)
  obtain ⟨t1, t2, t3⟩ := two_facts
  obtain ⟨p1, p2⟩ := pos_rg hc
  rw [mul_fin (by rw [p1]; exact hc) (by rw [t1]; decide), p1, p2, t1, t2, t3, hv, Bool.xor_self, wd_false]
  refine congrArg some ?_
  unfold rgv
  exact rq_congr KK_pos (by decide) (up_help _ _ _)
theorem dbl_div {n e : Nat} (hn : n < 2 ^ 53) (he : e + 1 ≤ 2045) : double.div (rgv n (e + 1)) 4611686018427387904 = some (rgv n e) := by
  obtain ⟨hv, hc⟩ := rgv_val (e := e + 1) hn he
  obtain ⟨t1, t2, t3⟩ := two_facts
  obtain ⟨p1, p2⟩ := pos_rg hc
  rw [div_fin (by rw [p1]; exact hc) (by rw [t1]; decide) (by rw [t1]; decide), p1, p2, t1, t2, t3, hv, Bool.xor_self, wd_false]
  refine congrArg some ?_
  unfold rgv
  exact rq_congr (Nat.mul_pos (by decide) KK_pos) (by decide) (down_help _ _ _)
end FloM
