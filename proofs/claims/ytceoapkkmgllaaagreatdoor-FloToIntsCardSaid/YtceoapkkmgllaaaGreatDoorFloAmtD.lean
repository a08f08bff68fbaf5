/- Amounts: digit. -/
import Derived.Test.YtceoapkkmgllaaaGreatDoorFloAmtC
namespace Go.Proofs.YtceoapkkmgllaaaGreatDoor
open Go.RowKit FloM

theorem times_I (va : Value) (a n : Nat) (x : Int) (w : World) (hb1 : nd a ≤ 100000) (hn : n < 65536) (ha : D w va a) (hx : x = (n : Int)) :
    Calls Tryz.prog 108 #[va, .int .u32 x] w (GivesD w (a * n)) := by
  subst hx; exact times_D va a n w hb1 hn ha

theorem nd_times (a n : Nat) (hn : n < 65536) : nd (a * n) ≤ nd a + 1 := (nd_le _ _).2 (cyT_top (lt_nd a) hn).2

def GivesQ (w : World) (q r : Nat) (e : Ending) (w' : World) : Prop := ∃ v, e = .returned (.tuple #[.int .u16 (q : Int), v]) ∧ D w' v r ∧ Fr w.heap.size v ∧ Below w.heap.size w w'

set_option maxRecDepth 100000 in
set_option maxHeartbeats 1600000 in
theorem digit_D (va vb : Value) (a b : Nat) (w : World) (hb1 : nd a ≤ 90000) (hb2 : nd b ≤ 90000) (hb0 : 0 < b) (hab : a < 65536 * b) (ha : D w va a) (hb : D w vb b) :
    Calls Tryz.prog 107 #[va, vb] w (GivesQ w (a / b) (a % b)) := by
  have hq : a / b ≤ 65535 := by
    have : a / b < 65536 := Nat.div_lt_of_lt_mul (by rw [Nat.mul_comm]; exact hab)
    omega
  have HM := Lib.hid (fun (m : Nat) => (Nat.le_div_iff_mul_le hb0 : m ≤ a / b ↔ m * b ≤ a))
  have HMOD := Lib.hid (Nat.div_add_mod a b)
  have HA := Lib.hid ha
  have HB := Lib.hid hb
  clear ha hb hab
  generalize a / b = q at *
  generalize a % b = r at *
  go_enter Tryz.func107, Tryz.ntmps107
  go_wp2
  go_loopw [6, 7] (fun l h wr => ∃ lo hi : Nat, lo ≤ q ∧ q ≤ hi ∧ hi ≤ 65535 ∧ l = .int .u32 lo ∧ h = .int .u32 hi ∧ Below w.heap.size w wr) (fun l h _ => (intOf h - intOf l).toNat)
  case atStart => exact ⟨0, 65535, by omega, hq, by omega, rfl, rfl, Below.refl _ _⟩
  case round =>
    obtain ⟨lo, hi, h1, h2, h3, rfl, rfl, hbel⟩ := hrel
    have hDa := Lib.hid (D.below HA.out hbel)
    have hDb := Lib.hid (D.below HB.out hbel)
    have hsz := hbel.size
    by_cases hlt : lo < hi
    · obtain ⟨mid, hmid⟩ : ∃ mid, mid = (lo + hi + 1) / 2 := ⟨_, rfl⟩
      have hm1 : lo < mid := by omega
      have hm2 : mid ≤ hi := by omega
      have HMID := Lib.hid hmid
      have HMm := HM.out mid
      have hnt := nd_times b mid (by omega)
      have HBEL := Lib.hid hbel
      clear hmid hbel
      go_wp2_with fail
      refine (times_I vb b mid _ _ (by omega) (by omega) hDb.out (by have := HMID.out; omega)).mono ?_
      rintro e w2 ⟨v2, rfl, hv2, _, hbel2⟩
      have HV2 := Lib.hid hv2
      have HB2 := Lib.hid hbel2
      clear hv2 hbel2
      go_wp2_with fail
      refine (cmp_D v2 va (b * mid) a _ (by omega) HV2.out (hDa.out.below HB2.out)).mono ?_
      rintro e w3 ⟨rfl, n3, rfl⟩
      by_cases hle : mid ≤ q
      · have e1 : decide (cmpN (b * mid) a ≤ 0) = true := by
          have : b * mid ≤ a := by rw [Nat.mul_comm]; exact HMm.1 hle
          apply decide_eq_true
          unfold cmpN; (repeat' split) <;> omega
        clear HMm hnt
        generalize cmpN (b * mid) a = x at *
        go_wp2_with fail
        go_roundw
        case rel => exact ⟨mid, hi, hle, h2, h3, by have := HMID.out; go_num, rfl, below_drewN (HBEL.out.trans (HB2.out.mono hsz)) n3⟩
        case measure => have := HMID.out; simp [intOf]; omega
      · have e1 : decide (cmpN (b * mid) a ≤ 0) = false := by
          have : ¬ b * mid ≤ a := by rw [Nat.mul_comm]; exact fun h => hle (HMm.2 h)
          apply decide_eq_false
          unfold cmpN; (repeat' split) <;> omega
        clear HMm hnt
        generalize cmpN (b * mid) a = x at *
        go_wp2_with fail
        go_roundw
        case rel => exact ⟨lo, mid - 1, h1, by omega, by omega, rfl, by have := HMID.out; go_num, below_drewN (HBEL.out.trans (HB2.out.mono hsz)) n3⟩
        case measure => have := HMID.out; simp [intOf]; omega
    · have e : lo = q := by omega
      have e2 : hi = q := by omega
      subst e
      subst e2
      have hnt := nd_times b hi (by omega)
      have hle : b * hi ≤ a := by have := HMOD.out; omega
      have hr : a - b * hi = r := by have := HMOD.out; omega
      have HR := Lib.hid hr
      have HBEL := Lib.hid hbel
      clear hr hbel
      go_wp2_with fail
      refine (times_I vb b hi _ _ (by omega) (by omega) hDb.out rfl).mono ?_
      rintro e w2 ⟨v2, rfl, hv2, _, hbel2⟩
      have HV2 := Lib.hid hv2
      have HB2 := Lib.hid hbel2
      clear hv2 hbel2
      go_wp2_with fail
      refine (sub_D va v2 a (b * hi) _ (by omega) hle (hDa.out.below HB2.out) HV2.out).mono ?_
      rintro e w3 ⟨v3, rfl, hv3, hf3, hbel3⟩
      have HF3 := Lib.hid hf3
      clear hf3
      rw [HR.out] at hv3
      have HV3 := Lib.hid hv3
      have HB3 := Lib.hid hbel3
      have hs2 := HB2.out.size
      clear hv3 hbel3 hle hnt
      go_wp2_with fail
      go_ret2
      exact ⟨v3, rfl, HV3.out, fun g hg => Nat.le_trans (Nat.le_trans hsz hs2) (HF3.out g hg), HBEL.out.trans ((HB2.out.trans (HB3.out.mono hs2)).mono hsz)⟩
end Go.Proofs.YtceoapkkmgllaaaGreatDoor
