/- Walks of package flo's four ways to ints. -/
import Derived.Test.YtceoapkkmgllaaaGreatDoorFloWalkC
namespace Go.Proofs.YtceoapkkmgllaaaGreatDoor
open Go.RowKit FloM

theorem two_toI_nan {u : Nat} (way : Ieee.Toward) (h : cap < rg u) : toI way u = (0, 20) := by unfold toI; rw [if_pos h]
theorem two_toI_inf {u : Nat} (way : Ieee.Toward) (h : rg u = cap) : toI way u = (0, 10) := by unfold toI; rw [if_neg (by omega), if_pos h]
theorem two_toI_fin {u : Nat} (way : Ieee.Toward) (h : rg u < cap) : toI way u = toldO (compare (ii way u) (-4611686018427387904)) (compare (ii way u) 4611686018427387904) (ii way u) := by
  unfold toI; rw [if_neg (by omega), if_neg (by omega), toldO_eq]

theorem told_inf (s : Bool) (w : World) : Calls Tryz.prog 73 #[.float .f64 (wd s cap)] w fun e w' => e = two (0, 10) ∧ w = w' := by
  have hr : rg (wd s cap) = cap := rg_wd _ _ cap_lt
  have hs : sgn (wd s cap) = s := sgn_wd _ _ cap_lt
  have c1 : rg 14109777632551763968 < cap := by decide
  have c2 : rg 4886405595696988160 < cap := by decide
  have o1 : FloatKind.f64.format.order (wd s cap) 14109777632551763968 = some (if s then .lt else .gt) := by
    rw [dbl]; unfold Ieee.Format.order; rw [read_inf hr, read_num c1, hs]; rfl
  have o2 : FloatKind.f64.format.order (wd s cap) 4886405595696988160 = some (if s then .lt else .gt) := by
    rw [dbl]; unfold Ieee.Format.order; rw [read_inf hr, read_num c2, hs]; rfl
  have := told_num (wd s cap) w (by omega) _ _ 0 o1 o2 (by cases s <;> simp)
  cases s <;> exact this

theorem told_fin {u r : Nat} (way : Ieee.Toward) (w : World) (h : rg u < cap) (hr : r < cap) (hv : val r = iv way u * KK) :
    Calls Tryz.prog 73 #[.float .f64 (wd (sgn u) r)] w fun e w' => e = two (toI way u) ∧ w = w' := by
  have hcl := cap_lt
  have hr2 : rg (wd (sgn u) r) = r := rg_wd _ _ (by omega)
  have hs : sv (wd (sgn u) r) = ii way u * (KK : Int) := by
    rw [sv_wd (by omega), hv]
    unfold ii
    split
    · rw [Int.natCast_mul, Int.neg_mul]
    · exact Int.natCast_mul _ _
  obtain ⟨o1, o2⟩ := order_c _ _ (by omega) hs
  rw [two_toI_fin way h]
  refine told_num _ w (by omega) _ _ _ o1 o2 ?_
  by_cases h1 : ii way u < -4611686018427387904
  · exact .inr (.inr (Int.compare_eq_lt.2 h1))
  by_cases h2 : ii way u < 4611686018427387904
  · exact .inl (toInt_of (by omega) hs (by omega) h2)
  · refine .inr (.inl fun h3 => ?_)
    have := Int.compare_eq_lt.1 h3
    omega

theorem runFloor (u : Nat) (w : World) : (callFunc 111 #[.float .f64 u]).run Tryz.prog w = ((Extern.MathFloor.toIntegral "math.archFloor" .down #[.float .f64 u]).run Tryz.prog w).andThen fun v w' => .ok (.value v) w' :=
  run_callFunc_extern Tryz.func111 (by kernel_rfl) (by kernel_rfl) (by kernel_rfl) (by kernel_rfl) _ w

set_option maxRecDepth 100000 in
set_option maxHeartbeats 400000 in
theorem floor_any (u : Nat) (w : World) :
    Calls Tryz.prog 48 #[.float .f64 u] w fun e w' => e = two (toI .down u) ∧ ∃ n, w' = w.drewN n := by
  have hrun := runFloor u w
  rcases Nat.lt_or_ge cap (rg u) with h | h
  · rw [two_toI_nan _ h]
    obtain ⟨z, n, hz, hx⟩ := integral_nan "math.archFloor" .down u h Tryz.prog w
    rw [hx] at hrun
    simp only [Result.andThen_ok] at hrun
    clear hx h
    go_enter Tryz.func48, Tryz.ntmps48
    go_wp2_with (first | (go_at_call 73; refine (told_nan _ _ hz).mono ?_; rintro e w' ⟨rfl, rfl⟩) | go_in)

    go_ret2
    exact ⟨rfl, n, rfl⟩
  rcases Nat.lt_or_ge (rg u) cap with h1 | h1
  · obtain ⟨r, hr, hv, hx⟩ := integral_fin "math.archFloor" .down u h1 Tryz.prog w
    rw [hx] at hrun
    simp only [Result.andThen_ok] at hrun
    have ht := Lib.hid (fun w => told_fin (u := u) .down w h1 hr hv)
    generalize toI .down u = p at *
    generalize wd (sgn u) r = v at *
    clear hx h h1 hr hv
    go_enter Tryz.func48, Tryz.ntmps48
    go_wp2_with (first | (go_at_call 73; refine (ht.out _).mono ?_; rintro e w' ⟨rfl, rfl⟩) | go_in)
    go_ret2
    exact ⟨rfl, 0, rfl⟩
  · have h2 : rg u = cap := by omega
    rw [two_toI_inf _ h2, integral_inf "math.archFloor" .down u h2] at *
    simp only [Result.andThen_ok] at hrun
    have ht := Lib.hid (fun w => told_inf (sgn u) w)
    generalize wd (sgn u) cap = v at *
    clear h h1 h2
    go_enter Tryz.func48, Tryz.ntmps48
    go_wp2_with (first | (go_at_call 73; refine (ht.out _).mono ?_; rintro e w' ⟨rfl, rfl⟩) | go_in)
    go_ret2
    exact ⟨rfl, 0, rfl⟩

theorem runCeil (u : Nat) (w : World) : (callFunc 113 #[.float .f64 u]).run Tryz.prog w = ((Extern.MathFloor.toIntegral "math.archCeil" .up #[.float .f64 u]).run Tryz.prog w).andThen fun v w' => .ok (.value v) w' :=
  run_callFunc_extern Tryz.func113 (by kernel_rfl) (by kernel_rfl) (by kernel_rfl) (by kernel_rfl) _ w

set_option maxRecDepth 100000 in
set_option maxHeartbeats 400000 in
theorem ceil_any (u : Nat) (w : World) :
    Calls Tryz.prog 49 #[.float .f64 u] w fun e w' => e = two (toI .up u) ∧ ∃ n, w' = w.drewN n := by
  have hrun := runCeil u w
  rcases Nat.lt_or_ge cap (rg u) with h | h
  · rw [two_toI_nan _ h]
    obtain ⟨z, n, hz, hx⟩ := integral_nan "math.archCeil" .up u h Tryz.prog w
    rw [hx] at hrun
    simp only [Result.andThen_ok] at hrun
    clear hx h
    go_enter Tryz.func49, Tryz.ntmps49
    go_wp2_with (first | (go_at_call 73; refine (told_nan _ _ hz).mono ?_; rintro e w' ⟨rfl, rfl⟩) | go_in)
    go_ret2
    exact ⟨rfl, n, rfl⟩
  rcases Nat.lt_or_ge (rg u) cap with h1 | h1
  · obtain ⟨r, hr, hv, hx⟩ := integral_fin "math.archCeil" .up u h1 Tryz.prog w
    rw [hx] at hrun
    simp only [Result.andThen_ok] at hrun
    have ht := Lib.hid (fun w => told_fin (u := u) .up w h1 hr hv)
    generalize toI .up u = p at *
    generalize wd (sgn u) r = v at *
    clear hx h h1 hr hv
    go_enter Tryz.func49, Tryz.ntmps49
    go_wp2_with (first | (go_at_call 73; refine (ht.out _).mono ?_; rintro e w' ⟨rfl, rfl⟩) | go_in)
    go_ret2
    exact ⟨rfl, 0, rfl⟩
  · have h2 : rg u = cap := by omega
    rw [two_toI_inf _ h2, integral_inf "math.archCeil" .up u h2] at *
    simp only [Result.andThen_ok] at hrun
    have ht := Lib.hid (fun w => told_inf (sgn u) w)
    generalize wd (sgn u) cap = v at *
    clear h h1 h2
    go_enter Tryz.func49, Tryz.ntmps49
    go_wp2_with (first | (go_at_call 73; refine (ht.out _).mono ?_; rintro e w' ⟨rfl, rfl⟩) | go_in)
    go_ret2
    exact ⟨rfl, 0, rfl⟩

theorem runTrunc (u : Nat) (w : World) : (callFunc 109 #[.float .f64 u]).run Tryz.prog w = ((Extern.MathFloor.toIntegral "math.archTrunc" .zero #[.float .f64 u]).run Tryz.prog w).andThen fun v w' => .ok (.value v) w' :=
  run_callFunc_extern Tryz.func109 (by kernel_rfl) (by kernel_rfl) (by kernel_rfl) (by kernel_rfl) _ w

set_option maxRecDepth 100000 in
set_option maxHeartbeats 400000 in
theorem trunc_any (u : Nat) (w : World) :
    Calls Tryz.prog 47 #[.float .f64 u] w fun e w' => e = two (toI .zero u) ∧ ∃ n, w' = w.drewN n := by
  have hrun := runTrunc u w
  rcases Nat.lt_or_ge cap (rg u) with h | h
  · rw [two_toI_nan _ h]
    obtain ⟨z, n, hz, hx⟩ := integral_nan "math.archTrunc" .zero u h Tryz.prog w
    rw [hx] at hrun
    simp only [Result.andThen_ok] at hrun
    clear hx h
    go_enter Tryz.func47, Tryz.ntmps47
    go_wp2_with (first | (go_at_call 73; refine (told_nan _ _ hz).mono ?_; rintro e w' ⟨rfl, rfl⟩) | go_in)
    go_ret2
    exact ⟨rfl, n, rfl⟩
  rcases Nat.lt_or_ge (rg u) cap with h1 | h1
  · obtain ⟨r, hr, hv, hx⟩ := integral_fin "math.archTrunc" .zero u h1 Tryz.prog w
    rw [hx] at hrun
    simp only [Result.andThen_ok] at hrun
    have ht := Lib.hid (fun w => told_fin (u := u) .zero w h1 hr hv)
    generalize toI .zero u = p at *
    generalize wd (sgn u) r = v at *
    clear hx h h1 hr hv
    go_enter Tryz.func47, Tryz.ntmps47
    go_wp2_with (first | (go_at_call 73; refine (ht.out _).mono ?_; rintro e w' ⟨rfl, rfl⟩) | go_in)
    go_ret2
    exact ⟨rfl, 0, rfl⟩
  · have h2 : rg u = cap := by omega
    rw [two_toI_inf _ h2, integral_inf "math.archTrunc" .zero u h2] at *
    simp only [Result.andThen_ok] at hrun
    have ht := Lib.hid (fun w => told_inf (sgn u) w)
    generalize wd (sgn u) cap = v at *
    clear h h1 h2
    go_enter Tryz.func47, Tryz.ntmps47
    go_wp2_with (first | (go_at_call 73; refine (ht.out _).mono ?_; rintro e w' ⟨rfl, rfl⟩) | go_in)
    go_ret2
    exact ⟨rfl, 0, rfl⟩

theorem runRound (u : Nat) (w : World) : (callFunc 77 #[.float .f64 u]).run Tryz.prog w = ((Extern.MathFloor.toIntegral "math.RoundToEven" .even #[.float .f64 u]).run Tryz.prog w).andThen fun v w' => .ok (.value v) w' :=
  run_callFunc_extern Tryz.func77 (by kernel_rfl) (by kernel_rfl) (by kernel_rfl) (by kernel_rfl) _ w

set_option maxRecDepth 100000 in
set_option maxHeartbeats 400000 in
theorem round_any (u : Nat) (w : World) :
    Calls Tryz.prog 50 #[.float .f64 u] w fun e w' => e = two (toI .even u) ∧ ∃ n, w' = w.drewN n := by
  have hrun := runRound u w
  rcases Nat.lt_or_ge cap (rg u) with h | h
  · rw [two_toI_nan _ h]
    obtain ⟨z, n, hz, hx⟩ := integral_nan "math.RoundToEven" .even u h Tryz.prog w
    rw [hx] at hrun
    simp only [Result.andThen_ok] at hrun
    clear hx h
    go_enter Tryz.func50, Tryz.ntmps50
    go_wp2_with (first | (go_at_call 73; refine (told_nan _ _ hz).mono ?_; rintro e w' ⟨rfl, rfl⟩) | go_in)
    go_ret2
    exact ⟨rfl, n, rfl⟩
  rcases Nat.lt_or_ge (rg u) cap with h1 | h1
  · obtain ⟨r, hr, hv, hx⟩ := integral_fin "math.RoundToEven" .even u h1 Tryz.prog w
    rw [hx] at hrun
    simp only [Result.andThen_ok] at hrun
    have ht := Lib.hid (fun w => told_fin (u := u) .even w h1 hr hv)
    generalize toI .even u = p at *
    generalize wd (sgn u) r = v at *
    clear hx h h1 hr hv
    go_enter Tryz.func50, Tryz.ntmps50
    go_wp2_with (first | (go_at_call 73; refine (ht.out _).mono ?_; rintro e w' ⟨rfl, rfl⟩) | go_in)
    go_ret2
    exact ⟨rfl, 0, rfl⟩
  · have h2 : rg u = cap := by omega
    rw [two_toI_inf _ h2, integral_inf "math.RoundToEven" .even u h2] at *
    simp only [Result.andThen_ok] at hrun
    have ht := Lib.hid (fun w => told_inf (sgn u) w)
    generalize wd (sgn u) cap = v at *
    clear h h1 h2
    go_enter Tryz.func50, Tryz.ntmps50
    go_wp2_with (first | (go_at_call 73; refine (ht.out _).mono ?_; rintro e w' ⟨rfl, rfl⟩) | go_in)
    go_ret2
    exact ⟨rfl, 0, rfl⟩

end Go.Proofs.YtceoapkkmgllaaaGreatDoor
