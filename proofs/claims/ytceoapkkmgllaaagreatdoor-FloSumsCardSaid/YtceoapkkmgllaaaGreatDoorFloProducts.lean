/- The law FloProducts. -/
import Derived.Test.YtceoapkkmgllaaaGreatDoorFloAmtN
import Derived.Test.YtceoapkkmgllaaaGreatDoorFloIntsLaw
import Derived.Test.YtceoapkkmgllaaaGreatDoorFloWhole
namespace Go.Proofs.YtceoapkkmgllaaaGreatDoor
open Go.RowKit FloM

theorem opr_opn {o : Option Nat} {z : Nat} (h : OpR o z) : canon z = canon (opN o) ∧ opN o < 2 ^ 64 := by
  cases o with
  | none => exact ⟨by rw [canon_nan h.of_none]; exact (canon_nan rg_nan).symm, by unfold opN; decide⟩
  | some a =>
    have e := h.of_some
    have l := h.1
    rw [e] at l ⊢
    exact ⟨rfl, l⟩

abbrev OpW (f : FuncId) (x y : Nat) (o : Option Nat) : Prop := ∀ w, Calls Tryz.prog f #[.float .f64 x, .float .f64 y] w fun e w' => ∃ z n, e = .returned (.float .f64 z) ∧ OpR o z ∧ w' = w.drewN n
abbrev OpU (f : FuncId) (x y : Nat) (o : Option Nat) : Prop := ∀ w, Calls Tryz.prog f #[.int .u64 x, .int .u64 y] w (RetU w (opN o))

set_option maxRecDepth 100000 in
set_option maxHeartbeats 2000000 in
theorem law_products (u v : Nat) (hu : u < 2 ^ 64) (hv : v < 2 ^ 64) (w : World) (ht : Env w) :
    Calls Tryz.prog 7 #[.int .u64 u, .int .u64 v] w (LawPost w) := by
  have M1 : OpW 37 u v _ := fun w => mul_any u v w
  have Q1 : OpW 39 u v _ := fun w => div_any u v w
  have M2 : OpU 38 u v _ := fun w => rmul_any u v hu hv w
  have Q2 : OpU 40 u v _ := fun w => rdiv_any u v hu hv w
  generalize Ieee.double.mul u v = om at *
  generalize Ieee.double.div u v = oq at *
  have HM1 := Lib.hid M1
  have HM2 := Lib.hid M2
  have HQ1 := Lib.hid Q1
  have HQ2 := Lib.hid Q2
  have HT := Lib.hid ht
  clear ht hu hv M1 M2 Q1 Q2
  go_enter Tryz.func7, Tryz.ntmps7
  go_wp2_with (first
    | (go_at_call 28; refine (of_any _ _).mono ?_; rintro e w' ⟨rfl, rfl⟩)
    | (go_at_call 37; ((with_reducible refine (HM1.out _).mono ?_); rintro e w' ⟨z1, n1, rfl, hz1, rfl⟩); have Z1 := Lib.hid (opr_opn hz1); clear hz1)
    | (go_at_call 38; ((with_reducible refine (HM2.out _).mono ?_); rintro e w2 ⟨rfl, hb2⟩); have HB2 := Lib.hid (drew_dn hb2); clear hb2)
    | (go_at_call 30; ((with_reducible refine (is_yes z1 (opN om) Z1.out.2 Z1.out.1 _).mono ?_); rintro e w' ⟨rfl, rfl⟩))
    | (go_at_call 39; ((with_reducible refine (HQ1.out _).mono ?_); rintro e w' ⟨z3, n3, rfl, hz3, rfl⟩); have Z3 := Lib.hid (opr_opn hz3); clear hz3)
    | (go_at_call 40; ((with_reducible refine (HQ2.out _).mono ?_); rintro e w4 ⟨rfl, hb4⟩); have HB4 := Lib.hid (drew_dn hb4); clear hb4)
    | (go_at_call 30; ((with_reducible refine (is_yes z3 (opN oq) Z3.out.2 Z3.out.1 _).mono ?_); rintro e w' ⟨rfl, rfl⟩))
    | (go_at_call 23; refine (awake_true _ ((HT.out.below HB2.out (Nat.le_refl _)).below HB4.out (Nat.le_refl _))).mono ?_; rintro e w5 ⟨rfl, hb5⟩; have HB5 := Lib.hid hb5; clear hb5))
  go_ret
  exact ⟨rfl, HB2.out.trans ((HB4.out.trans (HB5.out.mono HB4.out.size)).mono HB2.out.size)⟩
end Go.Proofs.YtceoapkkmgllaaaGreatDoor
