/- Walks of the reference's small functions. -/
import Derived.Test.YtijncfidjjfmiaaGreatDoorFloWalkKM
namespace Go.Proofs.YtijncfidjjfmiaaGreatDoor
open Go.RowKit FloM

theorem cap_eq : cap = 9218868437227405312 := by decide

theorem rnan_any (u : Nat) (hu : u < 2 ^ 64) (w : World) :
    Calls Tryz.prog 13 #[.int .u64 u] w fun e w' => e = .returned (.bool (decide (cap < rg u))) ∧ w = w' := by
  have hb := bits_low u hu
  have hd : decide (cap < rg u) = decide ((9218868437227405312 : Int) < ((lowN u : Nat) : Int)) := by
    rw [decide_eq_decide, cap_eq]
    show 9218868437227405312 < lowN u ↔ _
    omega
  rw [hd]
  generalize lowN u = r at *
  clear hu hd
  go_enter Tryz.func13, Tryz.ntmps13
  go_wp2
  go_ret
  exact ⟨rfl, rfl⟩

theorem rinf_any (u : Nat) (hu : u < 2 ^ 64) (w : World) :
    Calls Tryz.prog 14 #[.int .u64 u] w fun e w' => e = .returned (.bool (decide (rg u = cap))) ∧ w = w' := by
  have hb := bits_low u hu
  have hd : decide (rg u = cap) = (((lowN u : Nat) : Int) == (9218868437227405312 : Int)) := by
    rw [cap_eq, Bool.eq_iff_iff, decide_eq_true_eq, beq_iff_eq]
    show lowN u = 9218868437227405312 ↔ _
    omega
  rw [hd]
  generalize lowN u = r at *
  clear hu hd
  go_enter Tryz.func14, Tryz.ntmps14
  go_wp2
  go_ret
  exact ⟨rfl, rfl⟩

theorem rcanon_any (u : Nat) (hu : u < 2 ^ 64) (w : World) :
    Calls Tryz.prog 36 #[.int .u64 u] w fun e w' => e = .returned (.int .u64 (canon u : Nat)) ∧ w = w' := by
  have hn := fun w => rnan_any u hu w
  unfold canon
  by_cases h : cap < rg u
  · rw [if_pos h]
    simp only [decide_eq_true h] at hn
    clear h hu
    go_enter Tryz.func36, Tryz.ntmps36
    go_wp2_with (go_at_call 13; refine (hn _).mono ?_; rintro e w' ⟨rfl, rfl⟩)
    go_ret
    exact ⟨rfl, rfl⟩
  · rw [if_neg h]
    simp only [decide_eq_false h] at hn
    clear h hu
    go_enter Tryz.func36, Tryz.ntmps36
    go_wp2_with (go_at_call 13; refine (hn _).mono ?_; rintro e w' ⟨rfl, rfl⟩)
    go_ret
    exact ⟨rfl, rfl⟩

/-- R.Neg. -/
def rNeg (u : Nat) : Nat := if cap < rg u then 9221120237041090560 else turnN u
theorem lowN_lt (u : Nat) : lowN u < 2 ^ 64 := Nat.lt_of_lt_of_le (Nat.mod_lt _ (by decide)) (by decide)
theorem turnN_lt {u : Nat} (h : u < 2 ^ 64) : turnN u < 2 ^ 64 := by unfold turnN; split <;> omega
theorem rNeg_lt {u : Nat} (h : u < 2 ^ 64) : rNeg u < 2 ^ 64 := by
  unfold rNeg; split
  · decide
  · exact turnN_lt h

/-- is: do the bits tell that real? -/
theorem is_any (x u : Nat) (hu : u < 2 ^ 64) (w : World) :
    Calls Tryz.prog 12 #[.float .f64 x, .int .u64 u] w fun e w' => e = .returned (.bool (decide (canon x = canon u))) ∧ w = w' := by
  have hd : decide (canon x = canon u) = (((canon x : Nat) : Int) == ((canon u : Nat) : Int)) := by
    rw [Bool.eq_iff_iff, decide_eq_true_eq, beq_iff_eq]
    omega
  rw [hd]
  have h1 := fun w => bits_any x w
  have h2 := fun w => rcanon_any u hu w
  clear hd hu
  generalize canon x = a at *
  generalize canon u = b at *
  go_enter Tryz.func12, Tryz.ntmps12
  go_wp2_with (first
    | (go_at_call 16; refine (h1 _).mono ?_; rintro e w' ⟨rfl, rfl⟩)
    | (go_at_call 36; refine (h2 _).mono ?_; rintro e w' ⟨rfl, rfl⟩))
  go_ret
  exact ⟨rfl, rfl⟩
end Go.Proofs.YtijncfidjjfmiaaGreatDoor
