/- The reference's way to an int, as plain numbers. -/
import Derived.Test.YtceoapkkmgllaaaGreatDoorFloRnd
namespace FloM
open Ieee

/-- whole: is it too great; cut towards 0; what is left against a half. -/
def wBig (M : Nat) (P : Int) : Bool := decide (63 < (bl M : Int) + P)
def wN (M : Nat) (P : Int) : Nat := if 0 ≤ P then M * 2 ^ P.toNat else M / 2 ^ (-P).toNat
def wR (M : Nat) (P : Int) : Nat := if 0 ≤ P then 0 else M % 2 ^ (-P).toNat
def wH (M : Nat) (P : Int) : Int := if wR M P = 0 then -1 else cmpN (2 * wR M P) (2 ^ (-P).toNat) + 1

/-- The way's number: 0 Floor, 1 Ceil, 2 Trunc, 3 Round. -/
def wayI : Toward → Int
  | .down => 0
  | .up => 1
  | .zero => 2
  | .even => 3
/-- One more? -/
def wUp (way : Toward) (s : Bool) (n : Nat) (h : Int) : Bool :=
  match way with
  | .down => s
  | .up => !s
  | .zero => false
  | .even => decide (h = 2) || (decide (h = 1) && decide (n % 2 = 1))
def wK (way : Toward) (s : Bool) (M : Nat) (P : Int) : Nat := wN M P + (if 0 ≤ wH M P ∧ wUp way s (wN M P) (wH M P) = true then 1 else 0)

def rTo (way : Toward) (u : Nat) : Int × Int :=
  if cap < rg u then (0, 20) else if rg u = cap then (0, 10)
  else if wBig (mg (rg u)) (pp u) = true then (0, 10)
  else if sgn u = true ∧ wK way (sgn u) (mg (rg u)) (pp u) ≤ 2 ^ 62 then (-(wK way (sgn u) (mg (rg u)) (pp u) : Int), 0)
  else if sgn u = false ∧ wK way (sgn u) (mg (rg u)) (pp u) < 2 ^ 62 then ((wK way (sgn u) (mg (rg u)) (pp u) : Int), 0)
  else (0, 10)

theorem cmpN_pos (a b : Nat) : 0 ≤ cmpN a b + 1 := by unfold cmpN; (repeat' split) <;> omega
theorem cmpN_two (a b : Nat) : cmpN a b + 1 = 2 ↔ b < a := by unfold cmpN; (repeat' split) <;> omega
theorem cmpN_one (a b : Nat) : cmpN a b + 1 = 1 ↔ a = b := by unfold cmpN; (repeat' split) <;> omega

/-- One more, at a remainder r of d. -/
theorem up_cut (way : Toward) (s : Bool) (n r d : Nat) (h : Int) (hh : h = if r = 0 then -1 else cmpN (2 * r) d + 1) :
    n + (if 0 ≤ h ∧ wUp way s n h = true then 1 else 0) = (match way with
      | .even => n + (if d < 2 * r ∨ (2 * r = d ∧ n % 2 = 1) then (if r = 0 then 0 else 1) else 0)
      | .down => n + (s && r != 0).toNat
      | .up => n + (!s && r != 0).toNat
      | .zero => n) := by
  by_cases hr : r = 0
  · subst hr
    rw [if_pos rfl] at hh
    subst hh
    rw [if_neg (by omega)]
    cases way <;> simp
  · rw [if_neg hr] at hh
    have h0 := cmpN_pos (2 * r) d
    have h1 := cmpN_one (2 * r) d
    have h2 := cmpN_two (2 * r) d
    rw [← hh] at h0 h1 h2
    have hb : (r != 0) = true := by rw [bne_iff_ne]; exact hr
    cases way
    · unfold wUp
      simp only [h0, true_and, hr, if_false, Bool.or_eq_true, Bool.and_eq_true, decide_eq_true_eq, h1, h2]
    · unfold wUp
      simp only [h0, true_and, hb, Bool.and_true]
      cases s <;> rfl
    · unfold wUp
      simp only [h0, true_and, hb, Bool.and_true]
      cases s <;> rfl
    · unfold wUp
      simp

theorem cutW_up (way : Toward) (s : Bool) (M d : Nat) (hd : 0 < d) : cutW way s M d = (match way with
      | .even => M / d + (if d < 2 * (M % d) ∨ (2 * (M % d) = d ∧ M / d % 2 = 1) then (if M % d = 0 then 0 else 1) else 0)
      | .down => M / d + (s && M % d != 0).toNat
      | .up => M / d + (!s && M % d != 0).toNat
      | .zero => M / d) := by
  cases way
  · unfold cutW rhe
    congr 1
    by_cases h : M % d = 0
    · rw [h, if_neg (by omega), if_neg (by omega)]
    · simp only [h, if_false]
  all_goals rfl

theorem wK_cut (way : Toward) (s : Bool) (M d : Nat) (P : Int) (h : ¬ 0 ≤ P) (hd : d = 2 ^ (-P).toNat) : wK way s M P = cutW way s M d := by
  have hd0 : 0 < d := by rw [hd]; exact Nat.two_pow_pos _
  have e := up_cut way s (M / d) (M % d) d (wH M P) (by unfold wH wR; rw [if_neg h, ← hd])
  rw [cutW_up way s M d hd0, ← e]
  unfold wK wN
  rw [if_neg h, ← hd]

theorem wK_int (way : Toward) (s : Bool) (M : Nat) (P : Int) (h : 0 ≤ P) : wK way s M P = cutW way s (M * 2 ^ P.toNat) 1 := by
  have hH : wH M P = -1 := by unfold wH wR; rw [if_pos h, if_pos rfl]
  unfold wK
  rw [hH, if_neg (by omega)]
  unfold wN
  rw [if_pos h]
  cases way <;> simp [cutW, rhe_one, Nat.mod_one]

theorem wK_iv (way : Toward) (u : Nat) : wK way (sgn u) (mg (rg u)) (pp u) = iv way u := by
  unfold iv
  rw [val_eq, KK_eq]
  have h74 := e74_eq
  by_cases h : 0 ≤ pp u
  · rw [wK_int _ _ _ _ h]
    have e := cutW_mul way (sgn u) (mg (rg u) * 2 ^ (pp u).toNat) 1 (2 ^ e74) (Nat.two_pow_pos _)
    rw [← e, Nat.one_mul, Nat.mul_assoc, ← Nat.pow_add, show (pp u).toNat + e74 = up (rg u) by unfold pp; unfold pp at h; omega]
  · rw [wK_cut way (sgn u) (mg (rg u)) _ (pp u) h rfl]
    have e := cutW_mul way (sgn u) (mg (rg u)) (2 ^ (-pp u).toNat) (2 ^ up (rg u)) (Nat.two_pow_pos _)
    rw [← e, ← Nat.pow_add, show (-pp u).toNat + up (rg u) = e74 by unfold pp; unfold pp at h; omega]

theorem big_iv (way : Toward) (u : Nat) (h : wBig (mg (rg u)) (pp u) = true) : 2 ^ 63 ≤ iv way u := by
  have h1 : 63 < (bl (mg (rg u)) : Int) + pp u := by simpa [wBig] using h
  have h2 : bl (mg (rg u)) ≤ 53 := (bl_le _ _).2 (mg_lt _)
  rw [← wK_iv, wK_int _ _ _ _ (by omega)]
  have hm : mg (rg u) ≠ 0 := by
    intro e
    have h0 := mg_zero.1 e
    have hp : pp u = -1074 := by unfold pp up; rw [h0]; decide
    rw [e, bl_zero, hp] at h1; omega
  have hb : bl (mg (rg u)) = (mg (rg u)).log2 + 1 := by unfold bl; rw [if_neg hm]
  have h4 : 63 ≤ (mg (rg u)).log2 + (pp u).toNat := by
    rw [hb] at h1 h2
    generalize (mg (rg u)).log2 = L at *
    generalize pp u = p at *
    omega
  have h3 : 2 ^ 63 ≤ mg (rg u) * 2 ^ (pp u).toNat := by
    calc 2 ^ 63 ≤ 2 ^ ((mg (rg u)).log2 + (pp u).toNat) := Nat.pow_le_pow_right (by decide) h4
      _ = 2 ^ (mg (rg u)).log2 * 2 ^ (pp u).toNat := Nat.pow_add _ _ _
      _ ≤ _ := Nat.mul_le_mul_right _ (log2_le _ hm)
  cases way <;> simp [cutW, rhe_one, Nat.mod_one] <;> exact h3

theorem rTo_eq (way : Toward) (u : Nat) : rTo way u = toI way u := by
  unfold rTo toI
  split
  · rfl
  · split
    · rfl
    · rw [wK_iv]
      unfold ii
      have e62 : (2:Nat) ^ 62 = 4611686018427387904 := by decide
      by_cases hb : wBig (mg (rg u)) (pp u) = true
      · rw [if_pos hb]
        have h := big_iv way u hb
        have e63 : (2:Nat) ^ 63 = 9223372036854775808 := by decide
        rw [e63] at h
        generalize iv way u = k at *
        cases sgn u
        · rw [if_pos (by simp; omega)]
        · rw [if_pos (by simp; omega)]
      · rw [if_neg hb, e62]
        generalize iv way u = k
        cases sgn u
        · by_cases hk : k < 4611686018427387904
          · simp [hk]; omega
          · simp [hk]; omega
        · by_cases hk : k ≤ 4611686018427387904
          · simp [hk]; omega
          · simp [hk]; omega
end FloM
