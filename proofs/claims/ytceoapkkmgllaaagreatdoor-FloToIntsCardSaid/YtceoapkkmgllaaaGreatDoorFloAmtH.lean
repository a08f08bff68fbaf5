/- The reference's signed, pack. -/
import Derived.Test.YtceoapkkmgllaaaGreatDoorFloAmtG
import Derived.Test.YtceoapkkmgllaaaGreatDoorFloRnd
import Derived.Test.YtceoapkkmgllaaaGreatDoorFloBitv
import Derived.Deep.DeepCutAuto
namespace Go.Proofs.YtceoapkkmgllaaaGreatDoor
open Go.RowKit FloM

theorem or_sign (u : Nat) (h : u < 2 ^ 63) : u ||| 2 ^ 63 = 2 ^ 63 + u := by
  have := Nat.shiftLeft_add_eq_or_of_lt (i := 63) (b := u) h 1
  rw [Nat.shiftLeft_eq, Nat.one_mul] at this
  rw [Nat.or_comm, ← this]
theorem bits_or_sign (u : Nat) (h : u < 2 ^ 63) : bits .or .u64 (u : Int) 9223372036854775808 = ((2 ^ 63 + u : Nat) : Int) := by
  have := u64_or_nat u (2 ^ 63) (by omega) (by decide)
  rw [or_sign u h] at this
  exact this

set_option maxRecDepth 100000 in
theorem sgn_any (b : Bool) (u : Nat) (w : World) (hu : u < 2 ^ 63) : Calls Tryz.prog 69 #[.bool b, .int .u64 u] w fun e w' => e = .returned (.int .u64 (wd b u : Nat)) ∧ w = w' := by
  cases b
  · have hw : wd false u = u := rfl
    rw [hw]
    clear hw hu
    go_enter Tryz.func69, Tryz.ntmps69
    go_wp2
    go_ret
    exact ⟨rfl, rfl⟩
  · have hw : wd true u = 2 ^ 63 + u := rfl
    rw [hw]
    have hb := bits_or_sign u hu
    clear hw hu
    generalize 2 ^ 63 + u = r at *
    go_enter Tryz.func69, Tryz.ntmps69
    go_wp2
    go_ret
    exact ⟨rfl, rfl⟩

theorem sgn_int (b : Bool) (u : Nat) (x : Int) (w : World) (hu : u < 2 ^ 63) (hx : x = (u : Int)) : Calls Tryz.prog 69 #[.bool b, .int .u64 x] w fun e w' => e = .returned (.int .u64 (wd b u : Nat)) ∧ w = w' := by
  subst hx; exact sgn_any b u w hu

/-- The fraction's digits. -/
theorem and_frac (m : Nat) : m &&& 4503599627370495 = m % 2 ^ 52 := by
  have := Nat.and_two_pow_sub_one_eq_mod m 52
  rwa [show (2:Nat) ^ 52 - 1 = 4503599627370495 by decide] at this
theorem bits_frac (m : Nat) (h : m < 2 ^ 64) : bits .and .u64 (m : Int) 4503599627370495 = ((m % 2 ^ 52 : Nat) : Int) := by
  have := u64_and_nat m 4503599627370495 (by omega) (by decide)
  rw [and_frac] at this
  exact this
theorem or52 (e f : Nat) (hf : f < 2 ^ 52) : e * 2 ^ 52 ||| f = e * 2 ^ 52 + f := by
  have := Nat.shiftLeft_add_eq_or_of_lt (i := 52) (b := f) hf e
  rw [Nat.shiftLeft_eq] at this
  exact this.symm

theorem or52_int (x : Int) (e f : Nat) (hx : x = (e : Int)) (he : e < 2048) (hf : f < 2 ^ 52) : bits .or .u64 (x * 4503599627370496) (f : Int) = ((e * 2 ^ 52 + f : Nat) : Int) := by
  subst hx
  have := u64_or_nat (e * 2 ^ 52) f (by omega) (by omega)
  rw [or52 e f hf, Int.natCast_mul] at this
  exact this
theorem rung_mid {m e : Nat} {p : Int} (h : ¬ m < 2 ^ 52) (he : (e : Int) = p + 1075) (he2 : e < 2047) : rung m p = e * 2 ^ 52 + (m - 2 ^ 52) := by
  unfold rung; rw [if_neg h, if_neg (by omega), ← he, Int.toNat_natCast]
theorem packR_top {m : Nat} {p : Int} (h : m = 2 ^ 53) : packR m p = rung (2 ^ 52) (p + 1) := by unfold packR; rw [if_pos h]
theorem packR_not {m : Nat} {p : Int} (h : ¬ m = 2 ^ 53) : packR m p = rung m p := by unfold packR; rw [if_neg h]
theorem rung_lo {m : Nat} {p : Int} (h : m < 2 ^ 52) : rung m p = m := if_pos h
theorem rung_inf {m : Nat} {p : Int} (h : ¬ m < 2 ^ 52) (h2 : 2047 ≤ p + 1075) : rung m p = cap := by unfold rung; rw [if_neg h, if_pos h2]

set_option maxRecDepth 100000 in
set_option maxHeartbeats 1000000 in
/-- pack at an amount that is not 2^53. -/
theorem pack_lo (b : Bool) (m : Nat) (p : Int) (w : World) (h : m < 2 ^ 52) : Calls Tryz.prog 104 #[.bool b, .int .u64 m, .int .i64 p] w fun e w' => e = .returned (.int .u64 (wd b m : Nat)) ∧ w = w' := by
  have d1 : ((m : Int) == 9007199254740992) = false := by rw [beq_eq_false_iff_ne]; omega
  have d2 : decide ((m : Int) < 4503599627370496) = true := decide_eq_true (by omega)
  have C := Lib.hid (fun w => sgn_any b m w (by omega))
  clear h
  go_enter Tryz.func104, Tryz.ntmps104
  go_wp2_with (go_at_call 69; ((with_reducible refine (C.out _).mono ?_); rintro e w' ⟨rfl, rfl⟩))
  go_ret
  exact ⟨rfl, rfl⟩

set_option maxRecDepth 100000 in
set_option maxHeartbeats 1000000 in
theorem pack_inf (b : Bool) (m : Nat) (p : Int) (w : World) (h : 2 ^ 52 ≤ m) (hm : m < 2 ^ 53) (hp1 : 972 ≤ p) (hp2 : p ≤ 1000000) : Calls Tryz.prog 104 #[.bool b, .int .u64 m, .int .i64 p] w fun e w' => e = .returned (.int .u64 (wd b cap : Nat)) ∧ w = w' := by
  have d1 : ((m : Int) == 9007199254740992) = false := by rw [beq_eq_false_iff_ne]; omega
  have d2 : decide ((m : Int) < 4503599627370496) = false := decide_eq_false (by omega)
  have C := Lib.hid (fun w => sgn_int b cap 9218868437227405312 w cap_lt (by decide))
  clear h hm
  generalize wd b cap = r at *
  go_enter Tryz.func104, Tryz.ntmps104
  go_upto_region 6 with (fail)
  clear d1 d2
  go_wp2_with (go_at_call 69; ((with_reducible refine (C.out _).mono ?_); rintro e w' ⟨rfl, rfl⟩))
  go_ret
  exact ⟨rfl, rfl⟩

set_option maxRecDepth 100000 in
set_option maxHeartbeats 1000000 in
theorem pack_mid (b : Bool) (m e : Nat) (p : Int) (w : World) (h : 2 ^ 52 ≤ m) (hm : m < 2 ^ 53) (he : (e : Int) = p + 1075) (he2 : e < 2047) : Calls Tryz.prog 104 #[.bool b, .int .u64 m, .int .i64 p] w fun e' w' => e' = .returned (.int .u64 (wd b (e * 2 ^ 52 + (m - 2 ^ 52)) : Nat)) ∧ w = w' := by
  have d1 : ((m : Int) == 9007199254740992) = false := by rw [beq_eq_false_iff_ne]; omega
  have d2 : decide ((m : Int) < 4503599627370496) = false := decide_eq_false (by omega)
  have hf := bits_frac m (by omega)
  have hp : p + 1075 ≤ 2046 := by omega
  have hp0 : 0 ≤ p + 1075 := by omega
  have hlt : e * 2 ^ 52 + (m - 2 ^ 52) < 2 ^ 63 := by omega
  have HLT := Lib.hid hlt
  have HE := Lib.hid he
  have hmm : m % 2 ^ 52 = m - 2 ^ 52 := by omega
  have hml : m - 2 ^ 52 < 2 ^ 52 := by omega
  rw [hmm] at hf
  have HOR := Lib.hid (or52 e (m - 2 ^ 52) hml)
  clear h hm hlt he hmm
  generalize m - 2 ^ 52 = f at *
  go_enter Tryz.func104, Tryz.ntmps104
  go_upto_region 6 with (fail)
  clear d1 d2
  go_wp2_with fail
  refine (sgn_int b _ _ _ HLT.out (or52_int _ e f HE.out.symm (by omega) hml)).mono ?_
  rintro e' w' ⟨rfl, rfl⟩
  go_wp2_with fail
  go_ret
  exact ⟨rfl, rfl⟩

theorem frac52 : bits .and .u64 (4503599627370496 : Int) 4503599627370495 = ((0 : Nat) : Int) := by
  have h := bits_frac 4503599627370496 (by decide)
  rw [show 4503599627370496 % 2 ^ 52 = 0 by decide] at h
  exact h

set_option maxRecDepth 100000 in
set_option maxHeartbeats 1000000 in
theorem pack_top_inf (b : Bool) (p : Int) (w : World) (x : Int) (hx : x = 9007199254740992) (hp1 : 971 ≤ p) (hp2 : p ≤ 1000000) : Calls Tryz.prog 104 #[.bool b, .int .u64 x, .int .i64 p] w fun e w' => e = .returned (.int .u64 (wd b cap : Nat)) ∧ w = w' := by
  subst hx
  have C := Lib.hid (fun w => sgn_int b cap 9218868437227405312 w cap_lt (by decide))
  generalize wd b cap = r at *
  go_enter Tryz.func104, Tryz.ntmps104
  go_wp2_with (go_at_call 69; ((with_reducible refine (C.out _).mono ?_); rintro e w' ⟨rfl, rfl⟩))
  go_ret
  exact ⟨rfl, rfl⟩

set_option maxRecDepth 100000 in
set_option maxHeartbeats 1000000 in
theorem pack_top_mid (b : Bool) (e : Nat) (p : Int) (w : World) (x : Int) (hx : x = 9007199254740992) (he : (e : Int) = p + 1 + 1075) (he2 : e < 2047) (r : Nat) (hr : r = e * 2 ^ 52) : Calls Tryz.prog 104 #[.bool b, .int .u64 x, .int .i64 p] w fun e' w' => e' = .returned (.int .u64 (wd b r : Nat)) ∧ w = w' := by
  subst hx
  have hf := frac52
  have hp : p + 1 + 1075 ≤ 2046 := by omega
  have hp0 : 0 ≤ p + 1 + 1075 := by omega
  have HLT := Lib.hid (show r < 2 ^ 63 by omega)
  have HR := Lib.hid (show ((e * 2 ^ 52 + 0 : Nat) : Int) = (r : Int) by omega)
  have HE := Lib.hid he
  clear he hr
  go_enter Tryz.func104, Tryz.ntmps104
  go_wp2_with fail
  refine (sgn_int b _ _ _ HLT.out ((or52_int _ e 0 HE.out.symm (by omega) (by decide)).trans HR.out)).mono ?_
  rintro e' w' ⟨rfl, rfl⟩
  go_wp2_with fail
  go_ret
  exact ⟨rfl, rfl⟩

theorem pack_any (b : Bool) (m : Nat) (x p : Int) (w : World) (hm : m ≤ 2 ^ 53) (hx : x = (m : Int)) (hp1 : -1074 ≤ p) (hp2 : p ≤ 900000) : Calls Tryz.prog 104 #[.bool b, .int .u64 x, .int .i64 p] w fun e w' => e = .returned (.int .u64 (wd b (packR m p) : Nat)) ∧ w = w' := by
  by_cases h : m = 2 ^ 53
  · by_cases h2 : 2047 ≤ p + 1 + 1075
    · have e : packR m p = cap := (packR_top h).trans (rung_inf (by omega) h2)
      rw [e]
      exact pack_top_inf b p w x (by omega) (by omega) (by omega)
    · obtain ⟨e, he⟩ : ∃ e : Nat, (e : Int) = p + 1 + 1075 := ⟨(p + 1 + 1075).toNat, by omega⟩
      have e1 : packR m p = e * 2 ^ 52 := (packR_top h).trans ((rung_mid (by omega) he (by omega)).trans (by omega))
      rw [e1]
      exact pack_top_mid b e p w x (by omega) he (by omega) _ rfl
  · subst hx
    by_cases h1 : m < 2 ^ 52
    · rw [(packR_not h).trans (rung_lo h1)]; exact pack_lo b m p w h1
    · by_cases h2 : 2047 ≤ p + 1075
      · rw [(packR_not h).trans (rung_inf h1 h2)]
        exact pack_inf b m p w (by omega) (by omega) (by omega) (by omega)
      · obtain ⟨e, he⟩ : ∃ e : Nat, (e : Int) = p + 1075 := ⟨(p + 1075).toNat, by omega⟩
        rw [(packR_not h).trans (rung_mid h1 he (by omega))]
        exact pack_mid b m e p w (by omega) (by omega) he (by omega)
end Go.Proofs.YtceoapkkmgllaaaGreatDoor
