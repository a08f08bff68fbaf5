/- Walks: flo.Text at the real that awake writes; awake. -/
import Derived.Test.YtijncfidjjfmiaaGreatDoorFloWalkL
import Derived.Test.YtijncfidjjfmiaaGreatDoorFloWalkAB
import Derived.Test.YtijncfidjjfmiaaGreatDoorShelf
import Derived.Lib.AtoiErrMem
namespace Go.Proofs.YtijncfidjjfmiaaGreatDoor
open Go.RowKit FloM

def uA : Nat := 4599075939470750516
theorem uA_eq : uA = 0x3FD3333333333334 := by decide
def dA : List UInt8 := "30000000000000004".toUTF8.data.toList
def sA : List UInt8 := "3.0000000000000004e-01".toUTF8.data.toList
theorem goodA : Good (shortBits 4599075939470750516) := by unfold Good; decide +kernel
theorem eA : eOfQ (shortBits 4599075939470750516) = sA := by decide +kernel

theorem fmtA (w : World) (ht : Env w) :
    Calls Tryz.prog 17 #[.float .f64 4599075939470750516, .int .u8 101, .int .i64 (-1), .int .i64 64] w (LPost w sA) := by
  have h := fmtS_norm 4599075939470750516 w (by decide) 1021 900719925474100 (by decide) (by decide) (by decide) (by decide) ht goodA
  rw [eA] at h
  exact h

theorem placedA (w : World) :
    Calls Tryz.prog 22 #[.string ⟨dA.toArray⟩, .int .i64 0] w fun e w' => e = .returned (.string "0.30000000000000004".toUTF8) ∧ w' = w := by
  have hR := Tryz.strings_Repeat_zero
  go_enter Tryz.func22, Tryz.ntmps22
  go_wp2_with (go_at_call 49; refine (hR _ _).mono ?_; rintro e w' ⟨rfl, rfl⟩)
  go_ret
  exact ⟨rfl, rfl⟩

def mA : List UInt8 := "3.0000000000000004".toUTF8.data.toList
def xA : List UInt8 := "-01".toUTF8.data.toList
theorem cutA : Lib.cut sA "e".toUTF8.data.toList = (mA, xA, true) := by decide +kernel
theorem repA : Lib.replace mA ".".toUTF8.data.toList "".toUTF8.data.toList 1 = dA := by decide +kernel
theorem atoA : Lib.atoi xA = some (-1) := by decide +kernel
theorem classA : classN 4599075939470750516 = 4 := by decide +kernel
theorem canonA : canon 4599075939470750516 = 4599075939470750516 := by decide +kernel
theorem absA : absF 4599075939470750516 = 4599075939470750516 := by decide +kernel
theorem cntA : Lib.countB ⟨mA.toArray⟩ ".".toUTF8 = 1 := by decide +kernel

theorem cutW (w : World) (ht : Env w) :
    Calls Tryz.prog 19 #[.string ⟨sA.toArray⟩, .string "e".toUTF8] w fun e w' => e = .returned (.tuple #[.string ⟨mA.toArray⟩, .string ⟨xA.toArray⟩, .bool true]) ∧ ∃ n, w' = w.drewN n := by
  obtain ⟨m, hm⟩ := ht.mxl
  have h := Tryz.strings_Cut ⟨sA.toArray⟩ "e".toUTF8 m w (by decide +kernel) hm
  rw [show Lib.cut (ByteArray.mk sA.toArray).data.toList "e".toUTF8.data.toList = (mA, xA, true) from cutA] at h
  exact h

theorem repW (w : World) (ht : Env w) :
    Calls Tryz.prog 20 #[.string ⟨mA.toArray⟩, .string ".".toUTF8, .string "".toUTF8, .int .i64 1] w fun e w' => e = .returned (.string ⟨dA.toArray⟩) ∧ Below w.heap.size w w' := by
  obtain ⟨m, hm⟩ := ht.mxl
  have h := Tryz.strings_Replace ⟨mA.toArray⟩ ".".toUTF8 "".toUTF8 1 m w (by decide +kernel) hm (by decide +kernel) (by rw [cntA]; decide +kernel)
  rw [show Lib.replace (ByteArray.mk mA.toArray).data.toList ".".toUTF8.data.toList "".toUTF8.data.toList 1 = dA from repA] at h
  exact h

theorem atoW (w : World) :
    Calls Tryz.prog 21 #[.string ⟨xA.toArray⟩] w fun e w' => e = .returned (.tuple #[.int .i64 (-1), .nilIface]) ∧ Below w.heap.size w w' := by
  refine (Tryz.strconv_Atoi ⟨xA.toArray⟩ (-1) (by decide +kernel) atoA w).mono ?_
  rintro e w' ⟨rfl, t, rfl⟩
  exact ⟨rfl, Lib.bytesWorld_below _ _ _⟩

theorem catA : (ByteArray.mk #[] ++ "0.30000000000000004".toByteArray) = "0.30000000000000004".toUTF8 := by decide +kernel

set_option maxRecDepth 100000 in
theorem textA (w : World) (ht : Env w) :
    Calls Tryz.prog 6 #[.float .f64 4599075939470750516] w fun e w' => e = .returned (.string "0.30000000000000004".toUTF8) ∧ Below w.heap.size w w' := by
  have HT := Lib.hid ht
  clear ht
  have hcl := fun w => class_any 4599075939470750516 (by decide) w
  have hab := fun w => abs_any 4599075939470750516 (by decide) w
  have hbi := fun w => bits_any 4599075939470750516 w
  rw [classA] at hcl
  rw [absA] at hab
  rw [canonA] at hbi
  go_enter Tryz.func6, Tryz.ntmps6
  go_wp2_with (first
    | (go_at_call 15; refine (hcl _).mono ?_; rintro e w' ⟨rfl, rfl⟩)
    | (go_at_call 16; refine (hbi _).mono ?_; rintro e w' ⟨rfl, rfl⟩)
    | (go_at_call 18; refine (hab _).mono ?_; rintro e w' ⟨rfl, rfl⟩)
    | (go_at_call 17; refine (fmtA _ HT.out).mono ?_; rintro e w1 ⟨rfl, hb1⟩; have HB1 := Lib.hid hb1; clear hb1)
    | (go_at_call 19; refine (cutW _ (HT.out.below HB1.out (Nat.le_refl _))).mono ?_; rintro e w2 ⟨rfl, n2, rfl⟩)
    | (go_at_call 20; refine (repW _ ((HT.out.below HB1.out (Nat.le_refl _)).drewN n2)).mono ?_; rintro e w3 ⟨rfl, hb3⟩; have HB3 := Lib.hid hb3; clear hb3)
    | (go_at_call 21; refine (atoW _).mono ?_; rintro e w4 ⟨rfl, hb4⟩; have HB4 := Lib.hid hb4; clear hb4)
    | (go_at_call 22; refine (placedA _).mono ?_; rintro e w5 ⟨rfl, rfl⟩))
  go_ret
  refine ⟨by rw [catA]; rfl, ?_⟩
  exact (below_drewN HB1.out n2).trans ((HB3.out.trans (HB4.out.mono HB3.out.size)).mono HB1.out.size)

theorem eqA : ("0.30000000000000004".toByteArray.toList == [48, 46, 51, 48, 48, 48, 48, 48, 48, 48, 48, 48, 48, 48, 48, 48, 48, 48, 52]) = true := by decide +kernel

theorem addA : Ieee.double.add 4591870180066957722 4596373779694328218 = some 4599075939470750516 := by decide +kernel

/-- awake: true. -/
theorem awake_true (w : World) (ht : Env w) :
    Calls Tryz.prog 9 #[] w fun e w' => e = .returned (.bool true) ∧ Below w.heap.size w w' := by
  have HT := Lib.hid ht
  clear ht
  have hb : ∀ w, Calls Tryz.prog 16 #[.float .f64 4609434218613702656] w fun e w' => e = .returned (.int .u64 4609434218613702656) ∧ w = w' := fun w => by
    have h := bits_any 4609434218613702656 w
    rw [show canon 4609434218613702656 = 4609434218613702656 by decide +kernel] at h
    exact h
  have ha : ∀ w, Calls Tryz.prog 28 #[.float .f64 4591870180066957722, .float .f64 4596373779694328218] w fun e w' => e = .returned (.float .f64 4599075939470750516) ∧ ∃ n, w' = w.drewN n := fun w => by
    refine (add_any 4591870180066957722 4596373779694328218 w).mono ?_
    rintro e w' ⟨z, n, rfl, hz, rfl⟩
    rw [addA] at hz
    exact ⟨by rw [hz.of_some], n, rfl⟩
  go_enter Tryz.func9, Tryz.ntmps9
  go_wp2_with (first
    | (go_at_call 16; refine (hb _).mono ?_; rintro e w' ⟨rfl, rfl⟩)
    | (go_at_call 7; refine (of_any _ _).mono ?_; rintro e w' ⟨rfl, rfl⟩)
    | (go_at_call 28; refine (ha _).mono ?_; rintro e w' ⟨rfl, n, rfl⟩)
    | (go_at_call 6; refine (textA _ (HT.out.drewN _)).mono ?_; rintro e w3 ⟨rfl, hb3⟩; have HB3 := Lib.hid hb3; clear hb3))
  go_ret
  refine ⟨?_, (below_drewN (Below.refl _ _) n).trans HB3.out⟩
  rw [eqA]
  rfl
end Go.Proofs.YtijncfidjjfmiaaGreatDoor
