/- The law FloInts. -/
import Derived.Test.YtceoapkkmgllaaaGreatDoorFloAmtJ
namespace Go.Proofs.YtceoapkkmgllaaaGreatDoor
open Go.RowKit FloM

/-- is, at reals that are known to be the same. -/
theorem is_yes (x u : Nat) (hu : u < 2 ^ 64) (h : canon x = canon u) (w : World) : Calls Tryz.prog 30 #[.float .f64 x, .int .u64 u] w fun e w' => e = .returned (.bool true) ∧ w = w' := by
  have := is_any x u hu w
  rwa [decide_eq_true h] at this

theorem ofI_lt (n : Int) : ofI n < 2 ^ 64 := by unfold ofI; exact wd_lt _ _ (rq_lt _ _)

set_option maxRecDepth 100000 in
set_option maxHeartbeats 1000000 in
theorem law_ints (n : Int) (h1 : -9223372036854775808 ≤ n) (h2 : n ≤ 9223372036854775807) (w : World) (ht : Env w) :
    Calls Tryz.prog 6 #[.int .i64 n] w (LawPost w) := by
  have C1 := Lib.hid (fun w => int_any n w)
  have C2 := Lib.hid (fun w => rint_any n h1 h2 w)
  have C3 := Lib.hid (fun w => is_yes (ofI n) (ofI n) (ofI_lt n) rfl w)
  have HT := Lib.hid ht
  clear ht h1 h2
  generalize ofI n = u at *
  go_enter Tryz.func6, Tryz.ntmps6
  go_wp2_with (first
    | (go_at_call 35; ((with_reducible refine (C1.out _).mono ?_); rintro e w' ⟨rfl, rfl⟩))
    | (go_at_call 36; ((with_reducible refine (C2.out _).mono ?_); rintro e w2 ⟨rfl, hb2⟩); have HB2 := Lib.hid hb2; clear hb2)
    | (go_at_call 30; ((with_reducible refine (C3.out _).mono ?_); rintro e w' ⟨rfl, rfl⟩))
    | (go_at_call 23; refine (awake_true _ (HT.out.below HB2.out (Nat.le_refl _))).mono ?_; rintro e w3 ⟨rfl, hb3⟩; have HB3 := Lib.hid hb3; clear hb3))
  go_ret
  exact ⟨rfl, HB2.out.trans (HB3.out.mono HB2.out.size)⟩
end Go.Proofs.YtceoapkkmgllaaaGreatDoor
