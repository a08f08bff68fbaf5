/- The law FloSigns. -/
import Derived.Test.YtceoapkkmgllaaaGreatDoorFloWalkN
namespace Go.Proofs.YtceoapkkmgllaaaGreatDoor
open Go.RowKit FloM

/-- What every law returns. -/
def LawPost (w : World) (e : Ending) (w' : World) : Prop := e = .returned (.bool true) ∧ Below w.heap.size w w'

theorem canon_nan {u : Nat} (h : cap < rg u) : canon u = 9221120237041090560 := if_pos h
theorem canon_num {u : Nat} (h : rg u ≤ cap) : canon u = u := if_neg (by omega)
theorem rg_nan : cap < rg 9221120237041090560 := by decide
theorem canon_canon (u : Nat) : canon (canon u) = canon u := by
  rcases Nat.lt_or_ge cap (rg u) with h | h
  · rw [canon_nan h]; exact canon_nan rg_nan
  · rw [canon_num h, canon_num h]
theorem sign_neg (u : Nat) : canon (negF u) = canon (rNeg u) := by
  unfold negF rNeg
  split
  · next h => rw [canon_nan h, canon_nan rg_nan]
  · rfl
theorem sign_abs (u : Nat) : canon (absF u) = canon (canon (lowN u)) := by
  unfold absF
  rw [canon_canon]
  rcases Nat.lt_or_ge cap (rg u) with h | h
  · have h2 : cap < rg (lowN u) := by
      have : rg (lowN u) = rg u := Nat.mod_mod _ _
      rw [this]; exact h
    rw [canon_nan h, canon_nan h2]
    decide
  · rw [canon_num h]

set_option maxRecDepth 100000 in
set_option maxHeartbeats 2000000 in
theorem law_signs (u : Nat) (hu : u < 2 ^ 64) (w : World) (ht : Env w) :
    Calls Tryz.prog 8 #[.int .u64 u] w (LawPost w) := by
  have h1 := fun w => neg_any u hu w
  have h2 := fun w => abs_any u hu w
  have h3 := fun w => rneg_any u hu w
  have h4 := fun w => rabs_any u hu w
  have h5 := fun w => is_any (negF u) (rNeg u) (rNeg_lt hu) w
  have h6 := fun w => is_any (absF u) (canon (lowN u)) (canon_lt (lowN_lt u)) w
  simp only [decide_eq_true (sign_neg u)] at h5
  simp only [decide_eq_true (sign_abs u)] at h6
  have h7 := fun w ht => awake_true w ht
  have HT := Lib.hid ht
  clear hu ht
  generalize negF u = a at *
  generalize absF u = b at *
  generalize rNeg u = c at *
  generalize canon (lowN u) = d at *
  go_enter Tryz.func8, Tryz.ntmps8
  go_wp2_with (first
    | (go_at_call 28; refine (of_any _ _).mono ?_; rintro e w' ⟨rfl, rfl⟩)
    | (go_at_call 41; refine (h1 _).mono ?_; rintro e w' ⟨rfl, rfl⟩)
    | (go_at_call 43; refine (h2 _).mono ?_; rintro e w' ⟨rfl, rfl⟩)
    | (go_at_call 42; refine (h3 _).mono ?_; rintro e w' ⟨rfl, rfl⟩)
    | (go_at_call 44; refine (h4 _).mono ?_; rintro e w' ⟨rfl, rfl⟩)
    | (go_at_call 30; refine (h5 _).mono ?_; rintro e w' ⟨rfl, rfl⟩)
    | (go_at_call 30; refine (h6 _).mono ?_; rintro e w' ⟨rfl, rfl⟩)
    | (go_at_call 23; refine (h7 _ HT.out).mono ?_; rintro e w1 ⟨rfl, hb⟩))
  go_ret
  exact ⟨rfl, hb⟩
end Go.Proofs.YtceoapkkmgllaaaGreatDoor
