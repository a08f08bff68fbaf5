/- Walks of package flo's small functions, more. -/
import Derived.Test.YtceoapkkmgllaaaGreatDoorFloWalkA
import Derived.Test.YtceoapkkmgllaaaGreatDoorFloBitv
namespace Go.Proofs.YtceoapkkmgllaaaGreatDoor
open Go.RowKit FloM

/-- The bits without the sign, and with the sign turned. -/
def lowN (c : Nat) : Nat := c % 2 ^ 63
def turnN (c : Nat) : Nat := if c < 2 ^ 63 then 2 ^ 63 + c else c - 2 ^ 63

theorem bits_low (c : Nat) (h : c < 2 ^ 64) : bits .andNot .u64 (c : Int) 9223372036854775808 = ((lowN c : Nat) : Int) := by
  unfold lowN
  rw [← bv_and c h]
  rfl
theorem bits_turn (c : Nat) (h : c < 2 ^ 64) : bits .xor .u64 (c : Int) 9223372036854775808 = ((turnN c : Nat) : Int) := by
  unfold turnN
  rw [← bv_xor c h]
  rfl

/-- The class of bits. -/
def classN (u : Nat) : Int := if cap < rg u then 0 else if rg u = cap then 1 else if rg u = 0 then 2 else if rg u < 2 ^ 52 then 3 else 4

theorem canon_lt {u : Nat} (hu : u < 2 ^ 64) : canon u < 2 ^ 64 := by unfold canon; split <;> omega
theorem lowN_nan {u : Nat} (h : cap < rg u) : lowN (canon u) = 9221120237041090560 := by unfold canon lowN; rw [if_pos h]
theorem lowN_num {u : Nat} (h : rg u ≤ cap) : lowN (canon u) = rg u := by unfold canon lowN; rw [if_neg (by omega)]; rfl

set_option maxRecDepth 100000 in
set_option maxHeartbeats 400000 in
theorem class_any (u : Nat) (hu : u < 2 ^ 64) (w : World) :
    Calls Tryz.prog 22 #[.float .f64 u] w fun e w' => e = .returned (.int .i64 (classN u)) ∧ w = w' := by
  have hb := bits_low (canon u) (canon_lt hu)
  have hcl : classN u = if 9218868437227405312 < lowN (canon u) then 0 else if lowN (canon u) = 9218868437227405312 then 1 else if lowN (canon u) = 0 then 2 else if lowN (canon u) < 4503599627370496 then 3 else 4 := by
    have hcap : cap = 9218868437227405312 := by decide
    unfold classN
    rcases Nat.lt_or_ge cap (rg u) with h | h
    · rw [lowN_nan h, if_pos h, if_pos (show 9218868437227405312 < 9221120237041090560 by decide)]
    · rw [lowN_num h, hcap, show (2 : Nat) ^ 52 = 4503599627370496 by decide]
  rw [hcl]
  generalize hc : canon u = c at *
  generalize lowN c = r at *
  have hc' := Lib.hid hc
  clear hu hcl hc
  by_cases h1 : 9218868437227405312 < r
  · rw [if_pos h1]
    have d1 : decide ((9218868437227405312 : Int) < (r : Int)) = true := decide_eq_true (by omega)
    clear h1
    go_enter Tryz.func22, Tryz.ntmps22
    go_wp2_with (go_at_call 20; refine (bits_any _ _).mono ?_; rintro e w' ⟨rfl, rfl⟩; rw [hc'.out])
    go_ret
    exact ⟨rfl, rfl⟩
  rw [if_neg h1]
  have d1 : decide ((9218868437227405312 : Int) < (r : Int)) = false := decide_eq_false (by omega)
  by_cases h2 : r = 9218868437227405312
  · rw [if_pos h2]
    have d2 : ((r : Int) == 9218868437227405312) = true := by rw [beq_iff_eq]; omega
    clear h1 h2
    go_enter Tryz.func22, Tryz.ntmps22
    go_wp2_with (go_at_call 20; refine (bits_any _ _).mono ?_; rintro e w' ⟨rfl, rfl⟩; rw [hc'.out])
    go_ret
    exact ⟨rfl, rfl⟩
  rw [if_neg h2]
  have d2 : ((r : Int) == 9218868437227405312) = false := by rw [beq_eq_false_iff_ne]; omega
  by_cases h3 : r = 0
  · rw [if_pos h3]
    subst h3
    clear h1 h2
    go_enter Tryz.func22, Tryz.ntmps22
    go_wp2_with (go_at_call 20; refine (bits_any _ _).mono ?_; rintro e w' ⟨rfl, rfl⟩; rw [hc'.out])
    go_ret
    exact ⟨rfl, rfl⟩
  rw [if_neg h3]
  have d3 : ((r : Int) == 0) = false := by rw [beq_eq_false_iff_ne]; omega
  by_cases h4 : r < 4503599627370496
  · rw [if_pos h4]
    have d4 : decide ((r : Int) < 4503599627370496) = true := decide_eq_true (by omega)
    clear h1 h2 h3 h4
    go_enter Tryz.func22, Tryz.ntmps22
    go_wp2_with (go_at_call 20; refine (bits_any _ _).mono ?_; rintro e w' ⟨rfl, rfl⟩; rw [hc'.out])
    go_ret
    exact ⟨rfl, rfl⟩
  · rw [if_neg h4]
    have d4 : decide ((r : Int) < 4503599627370496) = false := decide_eq_false (by omega)
    clear h1 h2 h3 h4
    go_enter Tryz.func22, Tryz.ntmps22
    go_wp2_with (go_at_call 20; refine (bits_any _ _).mono ?_; rintro e w' ⟨rfl, rfl⟩; rw [hc'.out])
    go_ret
    exact ⟨rfl, rfl⟩

theorem ret_float {a b : Nat} (h : a = b) : Ending.returned (.float .f64 a) = .returned (.float .f64 b) := by rw [h]

/-- The sign turned; left out. -/
def negF (u : Nat) : Nat := if cap < rg u then u else turnN u
def absF (u : Nat) : Nat := lowN (canon u)

set_option maxRecDepth 100000 in
set_option maxHeartbeats 400000 in
theorem neg_any (u : Nat) (hu : u < 2 ^ 64) (w : World) :
    Calls Tryz.prog 41 #[.float .f64 u] w fun e w' => e = .returned (.float .f64 (negF u)) ∧ w = w' := by
  rcases Nat.lt_or_ge cap (rg u) with h | h
  · have hc : negF u = u := if_pos h
    rw [hc]
    have hn := neq_self_nan h
    go_enter Tryz.func41, Tryz.ntmps41
    go_wp2
    go_ret
    exact ⟨rfl, rfl⟩
  · have hc : negF u = turnN (canon u) := by unfold negF canon; rw [if_neg (by omega), if_neg (by omega)]
    rw [hc]
    have hn := neq_self h
    have hb := bits_turn (canon u) (canon_lt hu)
    clear hc
    generalize turnN (canon u) = r at *
    go_enter Tryz.func41, Tryz.ntmps41
    go_wp2_with (first | (go_at_call 20; refine (bits_any _ _).mono ?_; rintro e w' ⟨rfl, rfl⟩) | (go_at_call 18; go_simp; refine (from_any _ _).mono ?_; rintro e w' ⟨rfl, rfl⟩))
    go_ret
    exact ⟨rfl, rfl⟩

set_option maxRecDepth 100000 in
set_option maxHeartbeats 400000 in
theorem abs_any (u : Nat) (hu : u < 2 ^ 64) (w : World) :
    Calls Tryz.prog 43 #[.float .f64 u] w fun e w' => e = .returned (.float .f64 (absF u)) ∧ w = w' := by
  unfold absF
  have hb := bits_low (canon u) (canon_lt hu)
  generalize lowN (canon u) = r at *
  go_enter Tryz.func43, Tryz.ntmps43
  go_wp2_with (first | (go_at_call 20; refine (bits_any _ _).mono ?_; rintro e w' ⟨rfl, rfl⟩) | (go_at_call 18; go_simp; refine (from_any _ _).mono ?_; rintro e w' ⟨rfl, rfl⟩))
  go_ret
  exact ⟨rfl, rfl⟩

end Go.Proofs.YtceoapkkmgllaaaGreatDoor
