/- The law FloCompares. -/
import Derived.Test.YtceoapkkmgllaaaGreatDoorFloAmtL
import Derived.Test.YtceoapkkmgllaaaGreatDoorFloSigns
import Derived.Test.YtceoapkkmgllaaaGreatDoorFloCmp
namespace Go.Proofs.YtceoapkkmgllaaaGreatDoor
open Go.RowKit FloM

/-- What the tests tell. -/
def cmpB (n1 n2 z1 z2 e d na l : Bool) : Int :=
  if n1 || n2 then 2 else if (z1 && z2) || e then 0 else if d then (if na then -1 else 1) else if l == !na then -1 else 1

set_option maxRecDepth 100000 in
set_option maxHeartbeats 4000000 in
theorem rcmp_walk (u v a b : Nat) (n1 n2 z1 z2 e d na l : Bool) (f1 : bits .and .u64 (u : Int) 9223372036854775808 = (a : Int)) (f2 : bits .and .u64 (v : Int) 9223372036854775808 = (b : Int))
    (he : ((u : Int) == (v : Int)) = e) (hd : ((a : Int) != (b : Int)) = d) (hna : ((a : Int) != 0) = na) (hza : ((a : Int) == 0) = !na) (hl : decide (u < v) = l)
    (N1 : NanC u n1) (N2 : NanC v n2) (Z1 : ZerC u z1) (Z2 : ZerC v z2) (w : World) :
    Calls Tryz.prog 46 #[.int .u64 u, .int .u64 v] w fun x w' => x = .returned (.int .i64 (cmpB n1 n2 z1 z2 e d na l)) ∧ w = w' := by
  have H1 := Lib.hid N1
  have H2 := Lib.hid N2
  have Y1 := Lib.hid Z1
  have Y2 := Lib.hid Z2
  clear N1 N2 Z1 Z2
  cases n1
  · cases n2
    · cases z1 <;> cases z2 <;> cases e
      all_goals first
        | (go_enter Tryz.func46, Tryz.ntmps46
           go_wp2_with (first
             | (go_at_call 19; ((with_reducible refine (H1.out _).mono ?_); rintro e w' ⟨rfl, rfl⟩))
             | (go_at_call 19; ((with_reducible refine (H2.out _).mono ?_); rintro e w' ⟨rfl, rfl⟩))
             | (go_at_call 56; ((with_reducible refine (Y1.out _).mono ?_); rintro e w' ⟨rfl, rfl⟩))
             | (go_at_call 56; ((with_reducible refine (Y2.out _).mono ?_); rintro e w' ⟨rfl, rfl⟩)))
           go_ret
           exact ⟨rfl, rfl⟩
           done)
        | (cases d <;> cases na <;> cases l
           all_goals
             go_enter Tryz.func46, Tryz.ntmps46
             go_wp2_with (first
               | (go_at_call 19; ((with_reducible refine (H1.out _).mono ?_); rintro e w' ⟨rfl, rfl⟩))
               | (go_at_call 19; ((with_reducible refine (H2.out _).mono ?_); rintro e w' ⟨rfl, rfl⟩))
               | (go_at_call 56; ((with_reducible refine (Y1.out _).mono ?_); rintro e w' ⟨rfl, rfl⟩))
               | (go_at_call 56; ((with_reducible refine (Y2.out _).mono ?_); rintro e w' ⟨rfl, rfl⟩)))
             go_ret
             exact ⟨rfl, rfl⟩)
    · clear f1 f2 he hd hna hza hl
      go_enter Tryz.func46, Tryz.ntmps46
      go_wp2_with (first
        | (go_at_call 19; ((with_reducible refine (H1.out _).mono ?_); rintro e w' ⟨rfl, rfl⟩))
        | (go_at_call 19; ((with_reducible refine (H2.out _).mono ?_); rintro e w' ⟨rfl, rfl⟩)))
      go_ret
      exact ⟨rfl, rfl⟩
  · clear f1 f2 he hd hna hza hl
    go_enter Tryz.func46, Tryz.ntmps46
    go_wp2_with (go_at_call 19; ((with_reducible refine (H1.out _).mono ?_); rintro e w' ⟨rfl, rfl⟩))
    go_ret
    exact ⟨rfl, rfl⟩

theorem cmpB_eq (u v : Nat) : cmpB (decide (cap < rg u)) (decide (cap < rg v)) (decide (rg u = 0)) (decide (rg v = 0)) ((u : Int) == (v : Int)) (((sgnN u : Nat) : Int) != ((sgnN v : Nat) : Int)) (((sgnN u : Nat) : Int) != 0) (decide (u < v)) = rCmp u v := by
  unfold cmpB rCmp
  have e1 : ((u : Int) == (v : Int)) = decide (u = v) := by rw [Bool.eq_iff_iff, beq_iff_eq, decide_eq_true_eq]; omega
  have e2 : (((sgnN u : Nat) : Int) != ((sgnN v : Nat) : Int)) = decide (sgnN u ≠ sgnN v) := by rw [Bool.eq_iff_iff, bne_iff_ne, decide_eq_true_eq]; omega
  have e3 : (((sgnN u : Nat) : Int) != 0) = decide (sgnN u ≠ 0) := by rw [Bool.eq_iff_iff, bne_iff_ne, decide_eq_true_eq]; omega
  rw [e1, e2, e3]
  have e4 : (decide (u < v) == !decide (sgnN u ≠ 0)) = decide (u < v ↔ sgnN u = 0) := by
    rw [Bool.eq_iff_iff, beq_iff_eq, decide_eq_true_eq, Bool.eq_iff_iff]
    simp
  rw [e4]
  simp only [Bool.or_eq_true, Bool.and_eq_true, decide_eq_true_eq]

theorem rcmp_any (u v : Nat) (hu : u < 2 ^ 64) (hv : v < 2 ^ 64) (w : World) :
    Calls Tryz.prog 46 #[.int .u64 u, .int .u64 v] w fun e w' => e = .returned (.int .i64 (cmpI u v)) ∧ w = w' := by
  have h := rcmp_walk u v (sgnN u) (sgnN v) _ _ _ _ _ _ _ _ (bits_sign u hu) (bits_sign v hv) rfl rfl rfl (by
    cases h : (((sgnN u : Nat) : Int) == 0) <;> rw [bne, h] <;> rfl) rfl (nanC hu rfl) (nanC hv rfl) (zerC hu rfl) (zerC hv rfl) w
  rw [cmpB_eq, rCmp_eq u v hu hv] at h
  exact h

set_option maxRecDepth 100000 in
set_option maxHeartbeats 1000000 in
theorem law_compares (u v : Nat) (hu : u < 2 ^ 64) (hv : v < 2 ^ 64) (w : World) (ht : Env w) :
    Calls Tryz.prog 10 #[.int .u64 u, .int .u64 v] w (LawPost w) := by
  have C1 := Lib.hid (fun w => compare_any u v w)
  have C2 := Lib.hid (fun w => rcmp_any u v hu hv w)
  have HT := Lib.hid ht
  clear ht hu hv
  generalize cmpI u v = c at *
  go_enter Tryz.func10, Tryz.ntmps10
  go_wp2_with (first
    | (go_at_call 28; refine (of_any _ _).mono ?_; rintro e w' ⟨rfl, rfl⟩)
    | (go_at_call 45; ((with_reducible refine (C1.out _).mono ?_); rintro e w' ⟨rfl, rfl⟩))
    | (go_at_call 46; ((with_reducible refine (C2.out _).mono ?_); rintro e w' ⟨rfl, rfl⟩))
    | (go_at_call 23; refine (awake_true _ HT.out).mono ?_; rintro e w3 ⟨rfl, hb3⟩; have HB3 := Lib.hid hb3; clear hb3))
  go_ret
  exact ⟨rfl, HB3.out⟩
end Go.Proofs.YtceoapkkmgllaaaGreatDoor
