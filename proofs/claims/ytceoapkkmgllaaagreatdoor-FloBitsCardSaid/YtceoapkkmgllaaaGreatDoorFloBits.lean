/- The law FloBits. -/
import Derived.Test.YtceoapkkmgllaaaGreatDoorFloReal
import Derived.Test.YtceoapkkmgllaaaGreatDoorFloSigns
namespace Go.Proofs.YtceoapkkmgllaaaGreatDoor
open Go.RowKit FloM

theorem classN_nan {u : Nat} (h : cap < rg u) : classN u = 0 := if_pos h
theorem classN_inf {u : Nat} (h : rg u = cap) : classN u = 1 := by unfold classN; rw [if_neg (by omega), if_pos h]

theorem rclass_zero (u : Nat) (hu : u < 2 ^ 64) (hf : rg u < cap) (h0 : rg u = 0) (w : World) :
    Calls Tryz.prog 26 #[.int .u64 u] w fun e w' => e = .returned (.int .i64 2) ∧ w = w' := by
  have h1 := fun w => rnan_any u hu w
  have h2 := fun w => rinf_any u hu w
  have h3 := fun w => rzero_any u hu w
  rw [decide_eq_false (by omega)] at h1
  rw [decide_eq_false (by omega)] at h2
  rw [decide_eq_true h0] at h3
  clear hf h0 hu
  go_enter Tryz.func26, Tryz.ntmps26
  go_wp2_with (first
    | (go_at_call 19; refine (h1 _).mono ?_; rintro e w' ⟨rfl, rfl⟩)
    | (go_at_call 24; refine (h2 _).mono ?_; rintro e w' ⟨rfl, rfl⟩)
    | (go_at_call 56; refine (h3 _).mono ?_; rintro e w' ⟨rfl, rfl⟩))
  go_ret
  exact ⟨rfl, rfl⟩

theorem rclass_fin (u : Nat) (hu : u < 2 ^ 64) (hf : rg u < cap) (h0 : rg u ≠ 0) (w : World) :
    Calls Tryz.prog 26 #[.int .u64 u] w fun e w' => e = .returned (.int .i64 (classN u)) ∧ w = w' := by
  have h1 := fun w => rnan_any u hu w
  have h2 := fun w => rinf_any u hu w
  have h3 := fun w => rzero_any u hu w
  have hb := bits_low u hu
  rw [show lowN u = rg u from rfl] at hb
  have hc : classN u = if rg u < 4503599627370496 then 3 else 4 := by unfold classN; rw [if_neg (by omega), if_neg (by omega), if_neg h0]
  rw [hc]
  rw [decide_eq_false (by omega)] at h1
  rw [decide_eq_false (by omega)] at h2
  rw [decide_eq_false h0] at h3
  clear hf h0 hu hc
  generalize rg u = r at *
  by_cases h4 : r < 4503599627370496
  · rw [if_pos h4]
    have d4 : decide ((r : Int) < 4503599627370496) = true := decide_eq_true (by omega)
    clear h4
    go_enter Tryz.func26, Tryz.ntmps26
    go_wp2_with (first
      | (go_at_call 19; refine (h1 _).mono ?_; rintro e w' ⟨rfl, rfl⟩)
      | (go_at_call 24; refine (h2 _).mono ?_; rintro e w' ⟨rfl, rfl⟩)
      | (go_at_call 56; refine (h3 _).mono ?_; rintro e w' ⟨rfl, rfl⟩))
    go_ret
    exact ⟨rfl, rfl⟩
  · rw [if_neg h4]
    have d4 : decide ((r : Int) < 4503599627370496) = false := decide_eq_false (by omega)
    clear h4
    go_enter Tryz.func26, Tryz.ntmps26
    go_wp2_with (first
      | (go_at_call 19; refine (h1 _).mono ?_; rintro e w' ⟨rfl, rfl⟩)
      | (go_at_call 24; refine (h2 _).mono ?_; rintro e w' ⟨rfl, rfl⟩)
      | (go_at_call 56; refine (h3 _).mono ?_; rintro e w' ⟨rfl, rfl⟩))
    go_ret
    exact ⟨rfl, rfl⟩

theorem order_zero {u : Nat} (h : rg u < cap) (h0 : rg u ≠ 0) : (FloatKind.f64.format.order u 0 != some .eq) = true := by
  have hv : val (rg u) ≠ 0 := fun h => h0 (val_eq_zero.1 h)
  have hs : sv u ≠ sv 0 := by
    have : sv 0 = 0 := by decide
    rw [this]; unfold sv; split <;> omega
  show (Ieee.double.order u 0 != some .eq) = true
  rw [order_fin h (by decide), bne_iff_ne]
  intro hc
  exact hs (Std.LawfulEqOrd.eq_of_compare (Option.some.inj hc))

set_option maxRecDepth 100000 in
set_option maxHeartbeats 2000000 in
theorem bits_nan (u : Nat) (hu : u < 2 ^ 64) (h : cap < rg u) (w : World) (ht : Env w) :
    Calls Tryz.prog 3 #[.int .u64 u] w (LawPost w) := by
  have h1 := fun w => rnan_any u hu w
  have h2 := fun w => bits_any u w
  have h3 := fun w => rcanon_any u hu w
  have h4 := fun w => class_any u hu w
  rw [decide_eq_true h] at h1
  rw [classN_nan h] at h4
  have hn := neq_self_nan h
  have HT := Lib.hid ht
  clear hu ht h
  generalize canon u = c at *
  go_enter Tryz.func3, Tryz.ntmps3
  go_wp2_with (first
    | (go_at_call 18; refine (from_any _ _).mono ?_; rintro e w' ⟨rfl, rfl⟩)
    | (go_at_call 19; refine (h1 _).mono ?_; rintro e w' ⟨rfl, rfl⟩)
    | (go_at_call 20; refine (h2 _).mono ?_; rintro e w' ⟨rfl, rfl⟩)
    | (go_at_call 21; refine (h3 _).mono ?_; rintro e w' ⟨rfl, rfl⟩)
    | (go_at_call 22; refine (h4 _).mono ?_; rintro e w' ⟨rfl, rfl⟩)
    | (go_at_call 23; refine (awake_true _ HT.out).mono ?_; rintro e w1 ⟨rfl, hb⟩))
  go_ret
  exact ⟨rfl, hb⟩

set_option maxRecDepth 100000 in
set_option maxHeartbeats 2000000 in
theorem bits_inf (u : Nat) (hu : u < 2 ^ 64) (h : rg u = cap) (b : Bool) (hs : ((u : Int) / 9223372036854775808 == 0) = b) (ho : (FloatKind.f64.format.order u 9214871658872686752 == some .gt) = b)
    (hm : floatBits .mul .f64 u 4611686018427387904 = some u) (w : World) (ht : Env w) :
    Calls Tryz.prog 3 #[.int .u64 u] w (LawPost w) := by
  have h1 := fun w => rnan_any u hu w
  have h2 := fun w => bits_any u w
  have h3 := fun w => rinf_any u hu w
  have h4 := fun w => class_any u hu w
  rw [decide_eq_false (by omega)] at h1
  rw [decide_eq_true h] at h3
  rw [classN_inf h] at h4
  rw [show canon u = u from if_neg (by omega)] at h2
  have hn : (FloatKind.f64.format.order u u == some Ordering.eq) = true := by rw [order_self (by omega)]; rfl
  have hrun := fun (w : World) (t : TypeId) => run_float_arith (P := Tryz.prog) w .mul t .f64 u 4611686018427387904 _ hm
  have HT := Lib.hid ht
  clear hu ht h hm
  cases b
  all_goals
    go_enter Tryz.func3, Tryz.ntmps3
    go_wp2_with (first
      | (go_at_call 18; refine (from_any _ _).mono ?_; rintro e w' ⟨rfl, rfl⟩)
      | (go_at_call 19; refine (h1 _).mono ?_; rintro e w' ⟨rfl, rfl⟩)
      | (go_at_call 20; refine (h2 _).mono ?_; rintro e w' ⟨rfl, rfl⟩)
      | (go_at_call 24; refine (h3 _).mono ?_; rintro e w' ⟨rfl, rfl⟩)
      | (go_at_call 22; refine (h4 _).mono ?_; rintro e w' ⟨rfl, rfl⟩)
      | (go_at_call 23; refine (awake_true _ HT.out).mono ?_; rintro e w1 ⟨rfl, hb⟩))
    go_ret
    exact ⟨rfl, hb⟩

set_option maxRecDepth 100000 in
set_option maxHeartbeats 2000000 in
theorem bits_fin (u : Nat) (hu : u < 2 ^ 64) (h : rg u < cap) (h0 : rg u ≠ 0) (w : World) (ht : Env w) :
    Calls Tryz.prog 3 #[.int .u64 u] w (LawPost w) := by
  have h1 := fun w => rnan_any u hu w
  have h2 := fun w => bits_any u w
  have h3 := fun w => rinf_any u hu w
  have h4 := fun w => class_any u hu w
  have h5 := fun w => rclass_fin u hu h h0 w
  have h6 := fun w => real_any u hu h w
  have hz := order_zero h h0
  rw [decide_eq_false (by omega)] at h1
  rw [decide_eq_false (by omega)] at h3
  rw [show canon u = u from if_neg (by omega)] at h2
  have hn : (FloatKind.f64.format.order u u == some Ordering.eq) = true := by rw [order_self (by omega)]; rfl
  have HT := Lib.hid ht
  clear hu ht h h0
  generalize classN u = c at *
  go_enter Tryz.func3, Tryz.ntmps3
  go_wp2_with (first
    | (go_at_call 18; refine (from_any _ _).mono ?_; rintro e w' ⟨rfl, rfl⟩)
    | (go_at_call 19; refine (h1 _).mono ?_; rintro e w' ⟨rfl, rfl⟩)
    | (go_at_call 20; refine (h2 _).mono ?_; rintro e w' ⟨rfl, rfl⟩)
    | (go_at_call 24; refine (h3 _).mono ?_; rintro e w' ⟨rfl, rfl⟩)
    | (go_at_call 22; refine (h4 _).mono ?_; rintro e w' ⟨rfl, rfl⟩)
    | (go_at_call 26; refine (h5 _).mono ?_; rintro e w' ⟨rfl, rfl⟩)
    | (go_at_call 25; refine (h6 _).mono ?_; rintro e w' ⟨rfl, rfl⟩)
    | (go_at_call 23; refine (awake_true _ HT.out).mono ?_; rintro e w1 ⟨rfl, hb⟩))
  go_ret
  exact ⟨rfl, hb⟩

set_option maxRecDepth 100000 in
set_option maxHeartbeats 2000000 in
theorem bits_zero (u q : Nat) (hu : u < 2 ^ 64) (h0 : rg u = 0) (b : Bool) (hs : ((u : Int) / 9223372036854775808 == 1) = b)
    (hz : (FloatKind.f64.format.order u 0 != some .eq) = false) (hd : floatBits .quo .f64 4607182418800017408 u = some q) (ho : (FloatKind.f64.format.order q 0 == some .lt) = b) (w : World) (ht : Env w) :
    Calls Tryz.prog 3 #[.int .u64 u] w (LawPost w) := by
  have hcap := cap_eq
  have h1 := fun w => rnan_any u hu w
  have h2 := fun w => bits_any u w
  have h3 := fun w => rinf_any u hu w
  have h4 := fun w => class_any u hu w
  have h5 := fun w => rclass_zero u hu (by omega) h0 w
  have h6 := fun w => real_any u hu (by omega) w
  rw [show classN u = 2 by unfold classN; rw [if_neg (by omega), if_neg (by omega), if_pos h0]] at h4
  rw [decide_eq_false (by omega)] at h1
  rw [decide_eq_false (by omega)] at h3
  rw [show canon u = u from if_neg (by omega)] at h2
  have hn : (FloatKind.f64.format.order u u == some Ordering.eq) = true := by rw [order_self (by omega)]; rfl
  have hrun := fun (w : World) (t : TypeId) => run_float_arith (P := Tryz.prog) w .quo t .f64 4607182418800017408 u q hd
  have HT := Lib.hid ht
  clear hu ht h0 hd hcap
  cases b
  all_goals
    go_enter Tryz.func3, Tryz.ntmps3
    go_wp2_with (first
      | (go_at_call 18; refine (from_any _ _).mono ?_; rintro e w' ⟨rfl, rfl⟩)
      | (go_at_call 19; refine (h1 _).mono ?_; rintro e w' ⟨rfl, rfl⟩)
      | (go_at_call 20; refine (h2 _).mono ?_; rintro e w' ⟨rfl, rfl⟩)
      | (go_at_call 24; refine (h3 _).mono ?_; rintro e w' ⟨rfl, rfl⟩)
      | (go_at_call 22; refine (h4 _).mono ?_; rintro e w' ⟨rfl, rfl⟩)
      | (go_at_call 26; refine (h5 _).mono ?_; rintro e w' ⟨rfl, rfl⟩)
      | (go_at_call 25; refine (h6 _).mono ?_; rintro e w' ⟨rfl, rfl⟩)
      | (go_at_call 23; refine (awake_true _ HT.out).mono ?_; rintro e w1 ⟨rfl, hb⟩))
    go_ret
    exact ⟨rfl, hb⟩

theorem law_bits (u : Nat) (hu : u < 2 ^ 64) (w : World) (ht : Env w) :
    Calls Tryz.prog 3 #[.int .u64 u] w (LawPost w) := by
  have hcap := cap_eq
  rcases Nat.lt_trichotomy cap (rg u) with h | h | h
  · exact bits_nan u hu h w ht
  · have h' : rg u = cap := h.symm
    have : u = 9218868437227405312 ∨ u = 18442240474082181120 := by unfold rg at h'; omega
    rcases this with rfl | rfl
    · exact bits_inf _ hu h' true (by decide) (by decide +kernel) (by decide +kernel) w ht
    · exact bits_inf _ hu h' false (by decide) (by decide +kernel) (by decide +kernel) w ht
  · by_cases h0 : rg u = 0
    · have : u = 0 ∨ u = 9223372036854775808 := by unfold rg at h0; omega
      rcases this with rfl | rfl
      · exact bits_zero _ 9218868437227405312 hu h0 false (by decide) (by decide +kernel) (by decide +kernel) (by decide +kernel) w ht
      · exact bits_zero _ 18442240474082181120 hu h0 true (by decide) (by decide +kernel) (by decide +kernel) (by decide +kernel) w ht
    · exact bits_fin u hu h h0 w ht
end Go.Proofs.YtceoapkkmgllaaaGreatDoor
