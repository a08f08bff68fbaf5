/- The law FloSums. -/
import Derived.Test.YtceoapkkmgllaaaGreatDoorFloAmtQ
import Derived.Test.YtceoapkkmgllaaaGreatDoorFloProducts
namespace Go.Proofs.YtceoapkkmgllaaaGreatDoor
open Go.RowKit FloM

set_option maxRecDepth 100000 in
set_option maxHeartbeats 2000000 in
theorem law_sums (u v : Nat) (hu : u < 2 ^ 64) (hv : v < 2 ^ 64) (w : World) (ht : Env w) :
    Calls Tryz.prog 5 #[.int .u64 u, .int .u64 v] w (LawPost w) := by
  have M1 : OpW 31 u v _ := fun w => add_any u v w
  have Q1 : OpW 33 u v _ := fun w => sub_any u v w
  have M2 : OpU 32 u v _ := fun w => radd_any u v hu hv w
  have Q2 : OpU 34 u v _ := fun w => rsub_any u v hu hv w
  generalize Ieee.double.add u v = om at *
  generalize Ieee.double.sub u v = oq at *
  have HM1 := Lib.hid M1
  have HM2 := Lib.hid M2
  have HQ1 := Lib.hid Q1
  have HQ2 := Lib.hid Q2
  have HT := Lib.hid ht
  clear ht hu hv M1 M2 Q1 Q2
  go_enter Tryz.func5, Tryz.ntmps5
  go_wp2_with (first
    | (go_at_call 28; refine (of_any _ _).mono ?_; rintro e w' ⟨rfl, rfl⟩)
    | (go_at_call 31; ((with_reducible refine (HM1.out _).mono ?_); rintro e w' ⟨z1, n1, rfl, hz1, rfl⟩); have Z1 := Lib.hid (opr_opn hz1); clear hz1)
    | (go_at_call 32; ((with_reducible refine (HM2.out _).mono ?_); rintro e w2 ⟨rfl, hb2⟩); have HB2 := Lib.hid (drew_dn hb2); clear hb2)
    | (go_at_call 30; ((with_reducible refine (is_yes z1 (opN om) Z1.out.2 Z1.out.1 _).mono ?_); rintro e w' ⟨rfl, rfl⟩))
    | (go_at_call 33; ((with_reducible refine (HQ1.out _).mono ?_); rintro e w' ⟨z3, n3, rfl, hz3, rfl⟩); have Z3 := Lib.hid (opr_opn hz3); clear hz3)
    | (go_at_call 34; ((with_reducible refine (HQ2.out _).mono ?_); rintro e w4 ⟨rfl, hb4⟩); have HB4 := Lib.hid (drew_dn hb4); clear hb4)
    | (go_at_call 30; ((with_reducible refine (is_yes z3 (opN oq) Z3.out.2 Z3.out.1 _).mono ?_); rintro e w' ⟨rfl, rfl⟩))
    | (go_at_call 23; refine (awake_true _ ((HT.out.below HB2.out (Nat.le_refl _)).below HB4.out (Nat.le_refl _))).mono ?_; rintro e w5 ⟨rfl, hb5⟩; have HB5 := Lib.hid hb5; clear hb5))
  go_ret
  exact ⟨rfl, HB2.out.trans ((HB4.out.trans (HB5.out.mono HB4.out.size)).mono HB2.out.size)⟩
end Go.Proofs.YtceoapkkmgllaaaGreatDoor
