/- The law FloToInts. -/
import Derived.Test.YtceoapkkmgllaaaGreatDoorFloAmtT
import Derived.Test.YtceoapkkmgllaaaGreatDoorFloWhole
namespace Go.Proofs.YtceoapkkmgllaaaGreatDoor
open Go.RowKit FloM

abbrev ToC (u : Nat) (x n e : Int) : Prop := ∀ w, Calls Tryz.prog 51 #[.int .u64 u, .int .i64 x] w (Ret2I w (n, e))
theorem toI_err (way : Ieee.Toward) (u : Nat) : 0 ≤ (toI way u).2 ∧ (toI way u).2 ≤ 20 := by
  rcases toI_two way u with ⟨h, _⟩ | ⟨h, _⟩ <;> omega

set_option maxRecDepth 100000 in
set_option maxHeartbeats 4000000 in
theorem toints_walk (u : Nat) (a b c d e f g h : Int) (he : 0 ≤ e ∧ e ≤ 20) (hf : 0 ≤ f ∧ f ≤ 20) (hg : 0 ≤ g ∧ g ≤ 20) (hh : 0 ≤ h ∧ h ≤ 20) (w : World) (ht : Env w)
    (t1 : WayC 48 u a e) (t2 : WayC 49 u b f) (t3 : WayC 47 u c g) (t4 : WayC 50 u d h)
    (r1 : ToC u 0 a e) (r2 : ToC u 1 b f) (r3 : ToC u 2 c g) (r4 : ToC u 3 d h) :
    Calls Tryz.prog 14 #[.int .u64 u] w (LawPost w) := by
  have HT := Lib.hid ht
  have H1 := Lib.hid t1
  have H2 := Lib.hid t2
  have H3 := Lib.hid t3
  have H4 := Lib.hid t4
  have G1 := Lib.hid r1
  have G2 := Lib.hid r2
  have G3 := Lib.hid r3
  have G4 := Lib.hid r4
  obtain ⟨e1, e2⟩ := he
  obtain ⟨f1, f2⟩ := hf
  obtain ⟨g1, g2⟩ := hg
  obtain ⟨h1, h2⟩ := hh
  clear ht t1 t2 t3 t4 r1 r2 r3 r4
  go_enter Tryz.func14, Tryz.ntmps14
  go_wp2_with (first
    | (go_at_call 28; refine (of_any _ _).mono ?_; rintro e w' ⟨rfl, rfl⟩)
    | (go_at_call 48; ((with_reducible refine (H1.out _).mono ?_); rintro e w' ⟨rfl, q1, rfl⟩))
    | (go_at_call 49; ((with_reducible refine (H2.out _).mono ?_); rintro e w' ⟨rfl, q2, rfl⟩))
    | (go_at_call 47; ((with_reducible refine (H3.out _).mono ?_); rintro e w' ⟨rfl, q3, rfl⟩))
    | (go_at_call 50; ((with_reducible refine (H4.out _).mono ?_); rintro e w' ⟨rfl, q4, rfl⟩))
    | (go_at_call 51; ((with_reducible refine (G1.out _).mono ?_); rintro e w1 ⟨rfl, hb1⟩); have B1 := Lib.hid hb1; clear hb1)
    | (go_at_call 51; ((with_reducible refine (G2.out _).mono ?_); rintro e w2 ⟨rfl, hb2⟩); have B2 := Lib.hid hb2; clear hb2)
    | (go_at_call 51; ((with_reducible refine (G3.out _).mono ?_); rintro e w3 ⟨rfl, hb3⟩); have B3 := Lib.hid hb3; clear hb3)
    | (go_at_call 51; ((with_reducible refine (G4.out _).mono ?_); rintro e w4 ⟨rfl, hb4⟩); have B4 := Lib.hid hb4; clear hb4))
  have C1 := drew_dn B1.out
  have C2 := C1.trans (B2.out.mono C1.size)
  have C3 := C2.trans (B3.out.mono C2.size)
  have C4 := Lib.hid (C3.trans (B4.out.mono C3.size))
  clear C1 C2 C3
  refine (awake_true _ (HT.out.below C4.out (Nat.le_refl _))).mono ?_
  rintro e w5 ⟨rfl, hb5⟩
  have B5 := Lib.hid hb5
  clear hb5
  go_wp2_with fail
  go_ret
  exact ⟨rfl, C4.out.trans (B5.out.mono C4.out.size)⟩

theorem toC (way : Ieee.Toward) (u : Nat) (hu : u < 2 ^ 64) : ToC u (wayI way) (toI way u).1 (toI way u).2 := fun w => rto_any way u hu w

theorem law_toints (u : Nat) (hu : u < 2 ^ 64) (w : World) (ht : Env w) :
    Calls Tryz.prog 14 #[.int .u64 u] w (LawPost w) :=
  toints_walk u _ _ _ _ _ _ _ _ (toI_err .down u) (toI_err .up u) (toI_err .zero u) (toI_err .even u) w ht (floorC u) (ceilC u) (truncC u) (roundC u) (toC .down u hu) (toC .up u hu) (toC .zero u hu) (toC .even u hu)
end Go.Proofs.YtceoapkkmgllaaaGreatDoor
