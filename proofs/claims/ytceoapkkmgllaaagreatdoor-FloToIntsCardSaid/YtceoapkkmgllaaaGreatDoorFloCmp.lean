/- The reference's order of bits, plain. -/
import Derived.Test.YtceoapkkmgllaaaGreatDoorFloLaws
namespace FloM
def sgnN (u : Nat) : Nat := if u < 2 ^ 63 then 0 else 2 ^ 63
theorem sgnN_of (u : Nat) (h : u < 2 ^ 64) : sgnN u = u - rg u ∧ rg u ≤ u ∧ sgn u = decide (2 ^ 63 ≤ u) := by
  unfold sgnN rg sgn
  by_cases h1 : u < 2 ^ 63
  · rw [if_pos h1, Nat.mod_eq_of_lt h1, Nat.div_eq_of_lt h1, decide_eq_false (by omega)]
    exact ⟨by omega, by omega, rfl⟩
  · rw [if_neg h1, decide_eq_true (by omega)]
    have : u / 2 ^ 63 = 1 := by omega
    rw [this]
    exact ⟨by omega, by omega, rfl⟩
theorem and_sign (u : Nat) (h : u < 2 ^ 64) : u &&& 2 ^ 63 = sgnN u := by
  have h1 := Nat.and_two_pow_sub_one_eq_mod u 63
  have h2 : u &&& 2 ^ 63 = if u.testBit 63 then 2 ^ 63 else 0 := by
    apply Nat.eq_of_testBit_eq
    intro i
    rw [Nat.testBit_and, Nat.testBit_two_pow]
    by_cases hi : 63 = i
    · subst hi
      cases hb : u.testBit 63 <;> simp <;> decide
    · rw [decide_eq_false hi, Bool.and_false]
      split
      · rw [Nat.testBit_two_pow, decide_eq_false hi]
      · simp
  rw [h2]
  unfold sgnN
  rw [Nat.testBit_eq_decide_div_mod_eq]
  by_cases hu : u < 2 ^ 63
  · rw [Nat.div_eq_of_lt hu, if_pos hu]; rfl
  · have : u / 2 ^ 63 = 1 := by omega
    rw [this, if_neg hu]; rfl

def rCmp (u v : Nat) : Int :=
  if cap < rg u ∨ cap < rg v then 2 else if (rg u = 0 ∧ rg v = 0) ∨ u = v then 0
  else if sgnN u ≠ sgnN v then (if sgnN u ≠ 0 then -1 else 1) else if (u < v ↔ sgnN u = 0) then -1 else 1

theorem rCmp_eq (u v : Nat) (hu : u < 2 ^ 64) (hv : v < 2 ^ 64) : rCmp u v = cmpI u v := by
  unfold rCmp cmpI
  split
  · rfl
  · obtain ⟨a1, a2, a3⟩ := sgnN_of u hu
    obtain ⟨b1, b2, b3⟩ := sgnN_of v hv
    have hzu := @val_lt_iff (rg u) (rg v)
    have hzv := @val_lt_iff (rg v) (rg u)
    have z1 := @val_lt_iff 0 (rg u)
    have z2 := @val_lt_iff 0 (rg v)
    rw [val_zero] at z1 z2
    have i1 := @val_inj (rg u) (rg v)
    have l1 : rg u < 2 ^ 63 := Nat.mod_lt _ (by decide)
    have l2 : rg v < 2 ^ 63 := Nat.mod_lt _ (by decide)
    unfold sv
    rw [a3, b3]
    simp only [decide_eq_true_eq]
    rw [a1, b1]
    generalize rg u = x at *
    generalize rg v = y at *
    generalize val x = X at *
    generalize val y = Y at *
    have c1 : u - x = 0 ∨ u - x = 2 ^ 63 := by rw [← a1]; unfold sgnN; split <;> simp
    have c2 : v - y = 0 ∨ v - y = 2 ^ 63 := by rw [← b1]; unfold sgnN; split <;> simp
    clear a1 b1 a3 b3
    repeat' split
    all_goals omega
end FloM
