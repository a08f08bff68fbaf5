/- The library's ParseFloat, where no digit is cut off. ParseFloat at a text '0.', digits, 'e', an exponent: no digit cut off. -/
import Derived.Test.YtijncfidjjfmiaaGreatDoorFloBackF
import Derived.Test.YtijncfidjjfmiaaGreatDoorFloTxtP
namespace Go.Proofs.YtijncfidjjfmiaaGreatDoor
open Go.RowKit FloM

theorem bitLen_at {d b : Nat} (h1 : 2 ^ (b - 1) ≤ d) (h2 : d < 2 ^ b) (hb0 : 1 ≤ b) (hb : b ≤ 64) : Lib.bitLen d = b := by
  have hd : d < 2 ^ 64 := Nat.lt_of_lt_of_le h2 (Nat.pow_le_pow_right (by decide) hb)
  have e : d / 2 ^ (b - 1) = 1 := by
    apply Nat.le_antisymm
    · have : d / 2 ^ (b - 1) < 2 := by
        apply Nat.div_lt_of_lt_mul
        rw [Nat.mul_comm, ← Nat.pow_succ', show (b - 1).succ = b by omega]; exact h2
      omega
    · rw [Nat.le_div_iff_mul_le (Nat.two_pow_pos _), Nat.one_mul]; exact h1
  rw [Lib.bitLen_shift (b - 1) d h1 hd, e, show Lib.bitLen 1 = 1 by decide]
  omega

/-- What is handed back: the nearest real, and an error where it runs over alone. -/
def Fast (R : Nat) (w : World) (e : Ending) (w' : World) : Prop := ∃ er : Bool, e = Ret2 R (perr er) ∧ (er = true → R = cap) ∧ Below w.heap.size w w'

theorem packB_cap {m : Nat} {e : Int} (h : packB m e = true) : packF m e = cap := by
  unfold packB at h
  rw [Bool.and_eq_true, Bool.not_eq_true', decide_eq_false_iff_not, decide_eq_true_eq] at h
  unfold packF
  rw [if_neg h.1, if_pos h.2]

theorem parse64_any (d : Nat) (p : Int) (h0 : 0 < d) (hd : d < 18446744073709551616) (hp1 : -345 ≤ p) (hp2 : p ≤ 310) (w : World) (ht : PowTab w) :
    Calls Tryz.prog 180 #[.int .u64 d, .int .i64 p, .int .u64 0] w (Fast (rq (d * tA p * KK) (tB p)) w) := by
  obtain ⟨b, hb0, hb, h1, h2⟩ : ∃ b, 1 ≤ b ∧ b ≤ 64 ∧ 2 ^ (b - 1) ≤ d ∧ d < 2 ^ b := by
    refine ⟨d.log2 + 1, by omega, ?_, ?_, lt_log2 d⟩
    · have := (Nat.log2_lt (n := d) (k := 64) (by omega)).2 (by omega); omega
    · rw [Nat.add_sub_cancel]; exact log2_le d (by omega)
  obtain ⟨r1, r2⟩ := fast_rq d b p h1 h2 hb0 hb hp1 hp2
  have hbl := bitLen_at h1 h2 hb0 hb
  have hlp : -1200 ≤ l2p10 p ∧ l2p10 p ≤ 1200 := by unfold l2p10; omega
  have hE : min 1074 (53 - (b : Int) - l2p10 p) = fE b p := rfl
  have hS : fS b p = 61 - (b : Int) - l2p10 p - fE b p := rfl
  have hi : (((348 + p).toNat : Nat) : Int) = 348 + p := by omega
  rw [← r1]
  by_cases hs : 64 ≤ fS b p
  · have e : fastN d b p = 0 := if_pos hs
    rw [e]
    refine (p64_zero d b (348 + p).toNat p (l2p10 p) (fE b p) w hd ⟨hb0, hb⟩ hbl hlp ⟨hp1, hp2⟩ hE hi (fS b p).toNat (by omega) (by omega) rfl ht).mono ?_
    rintro e w' ⟨rfl, hb'⟩
    exact ⟨false, rfl, fun h => (by cases h), hb'⟩
  · obtain ⟨k1, k2⟩ := r2 (by omega)
    have hX : d * 2 ^ (64 - b) < 18446744073709551616 := by
      have : d * 2 ^ (64 - b) < 2 ^ b * 2 ^ (64 - b) := (Nat.mul_lt_mul_right (Nat.two_pow_pos _)).2 h2
      rwa [← Nat.pow_add, show b + (64 - b) = 64 by omega] at this
    have hlast : 0 ≤ fS b p := by rw [hS, ← hE]; omega
    have hu : usc (d * 2 ^ (64 - b)) (pw (348 + p).toNat).1 (pw (348 + p).toNat).2 (fS b p).toNat = fU d b p := rfl
    have k3 : uround (U2 (fU d b p)) < 9007199254740992 := by
      unfold U2
      split
      · exact k1
      · next hlt =>
        unfold uround
        rw [M64_eq, Nat.mod_eq_of_lt (by omega)]
        omega
    have h := p64_some d b (348 + p).toNat p (l2p10 p) (fE b p) w hd ⟨hb0, hb⟩ hbl hlp ⟨hp1, hp2⟩ hE hi (fS b p).toNat (by omega) (by omega) rfl hX ⟨by rw [hu]; exact k2, by rw [hu]; exact k3⟩ ht
    rw [hu] at h
    refine h.mono ?_
    rintro e w' ⟨he, hb'⟩
    have hF : fastN d b p = packF (uround (U2 (fU d b p))) (-(fE b p - (shB (fU d b p) : Nat))) := by
      unfold fastN
      rw [if_neg hs]
      unfold U2 shB
      by_cases hc : 36028797018963966 ≤ fU d b p
      · rw [if_pos hc, if_pos hc, decide_eq_true (by omega), show -(fE b p - ((b2 true : Nat) : Int)) = 1 - fE b p by (show -(fE b p - (1 : Int)) = _; omega)]
      · rw [if_neg hc, if_neg hc, decide_eq_false (by omega), show -(fE b p - ((b2 false : Nat) : Int)) = - fE b p by (show -(fE b p - (0 : Int)) = _; omega)]
    rw [hF]
    exact ⟨_, he, fun h => packB_cap h, hb'⟩

set_option maxRecDepth 100000 in
set_option maxHeartbeats 1000000 in
theorem special_0 (S : ByteArray) (h0 : 0 < S.size) (h1 : S[0] = 48) (w : World) :
    Calls Tryz.prog 169 #[.string S] w fun e w' => e = .returned (.tuple #[.float .f64 0, .int .i64 0, .bool false]) ∧ w = w' := by
  have hz : ((S.size : Int) == 0) = false := b_false (by omega)
  go_enter Tryz.func169, Tryz.ntmps169
  go_wp2_with fail
  go_ret3
  exact ⟨rfl, rfl⟩

theorem bool2_no (w : World) : Calls Tryz.prog 164 #[.bool false] w fun e w' => e = .returned (.int .u64 0) ∧ w = w' := bool2_u64 false w
/-- What atof64 hands back. -/
def Fast3 (R n : Nat) (w : World) (e : Ending) (w' : World) : Prop := ∃ er : Bool, e = .returned (.tuple #[.float .f64 R, .int .i64 (n : Int), perr er]) ∧ (er = true → R = cap) ∧ Below w.heap.size w w'
def OneOk (b : Bool) (R X : Nat) : Prop := b = true → X = R

set_option maxRecDepth 100000 in
set_option maxHeartbeats 2000000 in
theorem atof_hi (S : ByteArray) (m n : Nat) (p : Int) (tr : Bool)
    (HSP : Hid (∀ w, Calls Tryz.prog 169 #[.string S] w fun e w' => e = .returned (.tuple #[.float .f64 0, .int .i64 0, .bool false]) ∧ w = w'))
    (HRF : Hid (∀ w, Calls Tryz.prog 170 #[.string S] w fun e w' => e = Ret7 m p tr n ∧ w = w'))
    (q0 : ((m : Int) == 0) = false) (hp : 310 < p) (w : World) (hE : PEnv w) :
    Calls Tryz.prog 163 #[.string S] w (Fast3 cap n w) := by
  have c1 := hE.opt
  have o1 : bits .or .u64 0 9218868437227405312 = ((cap : Nat) : Int) := by decide +kernel
  generalize hcap : cap = CC at *
  have Hcap := Lib.hid hcap
  have HB := Lib.hid (Below.refl w.heap.size w)
  clear hE hcap
  go_enter Tryz.func163, Tryz.ntmps163
  go_wp2_with (first
    | (go_at_call 169; ((with_reducible refine (HSP.out _).mono ?_); rintro e w' ⟨rfl, rfl⟩))
    | (go_at_call 170; ((with_reducible refine (HRF.out _).mono ?_); rintro e w' ⟨rfl, rfl⟩))
    | (go_at_call 164; refine (bool2_no _).mono ?_; rintro e w1 ⟨rfl, rfl⟩))
  go_ret3
  exact ⟨true, rfl, fun _ => Hcap.out.symm, HB.out⟩
set_option maxRecDepth 100000 in
set_option maxHeartbeats 2000000 in
theorem atof_lo (S : ByteArray) (m n : Nat) (p : Int) (tr : Bool)
    (HSP : Hid (∀ w, Calls Tryz.prog 169 #[.string S] w fun e w' => e = .returned (.tuple #[.float .f64 0, .int .i64 0, .bool false]) ∧ w = w'))
    (HRF : Hid (∀ w, Calls Tryz.prog 170 #[.string S] w fun e w' => e = Ret7 m p tr n ∧ w = w'))
    (q0 : ((m : Int) == 0) = false) (hp : p < -345) (w : World) (hE : PEnv w) :
    Calls Tryz.prog 163 #[.string S] w (Fast3 0 n w) := by
  have c1 := hE.opt
  have o1 : bits .or .u64 0 0 = ((0 : Nat) : Int) := by decide +kernel
  have HB := Lib.hid (Below.refl w.heap.size w)
  clear hE
  go_enter Tryz.func163, Tryz.ntmps163
  go_wp2_with (first
    | (go_at_call 169; ((with_reducible refine (HSP.out _).mono ?_); rintro e w' ⟨rfl, rfl⟩))
    | (go_at_call 170; ((with_reducible refine (HRF.out _).mono ?_); rintro e w' ⟨rfl, rfl⟩))
    | (go_at_call 164; refine (bool2_no _).mono ?_; rintro e w1 ⟨rfl, rfl⟩))
  go_ret3
  exact ⟨false, rfl, fun h => (by cases h), HB.out⟩
set_option maxRecDepth 100000 in
set_option maxHeartbeats 2000000 in
theorem atof_mid (S : ByteArray) (m n R : Nat) (p : Int) (ok : Bool)
    (HSP : Hid (∀ w, Calls Tryz.prog 169 #[.string S] w fun e w' => e = .returned (.tuple #[.float .f64 0, .int .i64 0, .bool false]) ∧ w = w'))
    (HRF : Hid (∀ w, Calls Tryz.prog 170 #[.string S] w fun e w' => e = Ret7 m p false n ∧ w = w'))
    (HEX : Hid (∀ w, PEnv w → Calls Tryz.prog 179 #[.int .u64 m, .int .i64 p, .bool false] w fun e w' => ∃ X, e = RetX X ok ∧ OneOk ok R X ∧ w = w'))
    (HP6 : Hid (∀ w, PEnv w → Calls Tryz.prog 180 #[.int .u64 m, .int .i64 p, .int .u64 0] w (Fast R w)))
    (q0 : ((m : Int) == 0) = false) (hp1 : -345 ≤ p) (hp2 : p ≤ 310) (w : World) (hE : PEnv w) :
    Calls Tryz.prog 163 #[.string S] w (Fast3 R n w) := by
  have c1 := hE.opt
  have HB := Lib.hid (Below.refl w.heap.size w)
  have HE := Lib.hid hE
  clear hE
  cases ok
  · go_enter Tryz.func163, Tryz.ntmps163
    go_wp2_with (first
      | (go_at_call 169; ((with_reducible refine (HSP.out _).mono ?_); rintro e w' ⟨rfl, rfl⟩))
      | (go_at_call 170; ((with_reducible refine (HRF.out _).mono ?_); rintro e w' ⟨rfl, rfl⟩))
      | (go_at_call 164; refine (bool2_no _).mono ?_; rintro e w1 ⟨rfl, rfl⟩)
      | (go_at_call 179; ((with_reducible refine (HEX.out _ HE.out).mono ?_); rintro e w' ⟨X, rfl, hX, rfl⟩; have HX := Lib.hid hX; clear hX))
      | (go_at_call 180; ((with_reducible refine (HP6.out _ HE.out).mono ?_); rintro e w' ⟨er, rfl, he, hb⟩; have HER := Lib.hid he; have HBB := Lib.hid hb; clear he hb)))
    go_ret3
    exact ⟨er, rfl, HER.out, HBB.out⟩
  · go_enter Tryz.func163, Tryz.ntmps163
    go_wp2_with (first
      | (go_at_call 169; ((with_reducible refine (HSP.out _).mono ?_); rintro e w' ⟨rfl, rfl⟩))
      | (go_at_call 170; ((with_reducible refine (HRF.out _).mono ?_); rintro e w' ⟨rfl, rfl⟩))
      | (go_at_call 164; refine (bool2_no _).mono ?_; rintro e w1 ⟨rfl, rfl⟩)
      | (go_at_call 179; ((with_reducible refine (HEX.out _ HE.out).mono ?_); rintro e w' ⟨X, rfl, hX, rfl⟩; have HX := Lib.hid hX; clear hX)))
    go_ret3
    exact ⟨false, by rw [HX.out rfl]; rfl, fun h => (by cases h), HB.out⟩

end Go.Proofs.YtijncfidjjfmiaaGreatDoor
namespace FloM
theorem rq_small {X B : Nat} (h : 2 * X < B) : rq X B = 0 := by
  have k3 : X / B = 0 := Nat.div_eq_of_lt (by omega)
  have k4 : X % B = X := Nat.mod_eq_of_lt (by omega)
  unfold rq
  have k5 : (X / B).log2 - 52 = 0 := by rw [k3]; simp
  rw [k5, Nat.pow_zero, Nat.mul_one]
  unfold rhe
  rw [k3, k4, if_neg (by omega)]
  unfold cap
  omega
theorem rq_top {V E : Nat} (hE : E = 2046) (h : 2 ^ (52 + E) ≤ V) : rq V 1 = cap := by
  refine Nat.le_antisymm (rq_le _ _) ?_
  have h1 : rq (2 ^ (52 + E)) 1 = cap := by
    rw [rq_at (k := E)]
    · rw [Nat.one_mul, Nat.pow_add, rhe_exact _ _ (Nat.two_pow_pos _)]; unfold cap; omega
    · rw [Nat.one_mul, Nat.pow_add, Nat.mul_div_cancel _ (Nat.two_pow_pos _)]; omega
    · intro _; rw [Nat.one_mul, Nat.pow_add, Nat.mul_div_cancel _ (Nat.two_pow_pos _)]; omega
  rw [← h1]
  exact rq_mono (by decide) (by decide) (by rw [Nat.mul_one, Nat.mul_one]; exact h)
theorem ten_three : ∃ a b : Nat, a = 1139 ∧ b = 346 ∧ 2 ^ a < 10 ^ b := ⟨1139, 346, rfl, rfl, by decide +kernel⟩
theorem rq_far {m : Nat} {p : Int} (h0 : 0 < m) (hp : 310 < p) : rq (m * tA p * KK) (tB p) = cap := by
  obtain ⟨a, b, ha, hb, h⟩ := ten_two
  have eB : tB p = 1 := by unfold tB; rw [show (-p).toNat = 0 by omega, Nat.pow_zero]
  rw [eB]
  obtain ⟨E, hE⟩ : ∃ E : Nat, E = 2046 := ⟨_, rfl⟩
  refine rq_top hE ?_
  have h1 : 10 ^ b ≤ tA p := Nat.pow_le_pow_right (by decide) (by omega)
  have h74 := e74_eq
  have h3 : a + e74 = 52 + E := by omega
  rw [← h3, Nat.pow_add, ← KK_eq]
  refine Nat.mul_le_mul_right _ (Nat.le_trans (Nat.le_trans (Nat.le_of_lt h) h1) (Nat.le_mul_of_pos_left _ h0))
theorem rq_near0 {m : Nat} {p : Int} (hm : m < 18446744073709551616) (hp : p < -345) : rq (m * tA p * KK) (tB p) = 0 := by
  obtain ⟨a, b, ha, hb, h⟩ := ten_three
  have eA : tA p = 1 := by unfold tA; rw [show p.toNat = 0 by omega, Nat.pow_zero]
  rw [eA, Nat.mul_one]
  refine rq_small ?_
  have h1 : 10 ^ b ≤ tB p := Nat.pow_le_pow_right (by decide) (by omega)
  refine Nat.lt_of_lt_of_le (Nat.lt_of_le_of_lt ?_ h) h1
  have h74 := e74_eq
  rw [KK_eq, show a = 65 + e74 by omega, Nat.pow_add, ← Nat.mul_assoc]
  exact Nat.mul_le_mul_right _ (by omega)
end FloM
namespace Go.Proofs.YtijncfidjjfmiaaGreatDoor
open Go.RowKit FloM

theorem atof_any (S : ByteArray) (m n : Nat) (p : Int) (h0 : 0 < S.size) (h1 : S[0] = 48) (hm0 : 0 < m) (hm : m < 18446744073709551616)
    (HRF : ∀ w, Calls Tryz.prog 170 #[.string S] w fun e w' => e = Ret7 m p false n ∧ w = w') (w : World) (hE : PEnv w) :
    Calls Tryz.prog 163 #[.string S] w (Fast3 (rq (m * tA p * KK) (tB p)) n w) := by
  have q0 : ((m : Int) == 0) = false := b_false (by omega)
  by_cases hp2 : 310 < p
  · rw [rq_far hm0 hp2]
    exact atof_hi S m n p false (special_0 S h0 h1) HRF q0 hp2 w hE
  · by_cases hp1 : p < -345
    · rw [rq_near0 hm hp1]
      exact atof_lo S m n p false (special_0 S h0 h1) HRF q0 hp1 w hE
    · refine atof_mid S m n _ p (exOk m p) (special_0 S h0 h1) HRF (fun w hw => exact_any m p w hw) (fun w hw => parse64_any m p hm0 hm (by omega) (by omega) w hw.env.pow) q0 (by omega) (by omega) w hE

set_option maxRecDepth 100000 in
set_option maxHeartbeats 1000000 in
theorem prefix_any (S : ByteArray) (R n : Nat) (HA : Hid (∀ w, PEnv w → Calls Tryz.prog 163 #[.string S] w (Fast3 R n w))) (w : World) (hE : PEnv w) :
    Calls Tryz.prog 135 #[.string S, .int .i64 64] w (Fast3 R n w) := by
  have HE := Lib.hid hE
  clear hE
  go_enter Tryz.func135, Tryz.ntmps135
  go_wp2_with (first
    | (go_at_call 163; ((with_reducible refine (HA.out _ HE.out).mono ?_); rintro e w' ⟨er, rfl, he, hb⟩; have HER := Lib.hid he; have HBB := Lib.hid hb; clear he hb)))
  go_ret3
  exact ⟨er, rfl, HER.out, HBB.out⟩
set_option maxRecDepth 100000 in
set_option maxHeartbeats 1000000 in
theorem ipf_any (S : ByteArray) (R n : Nat) (hn : ((n : Int) != (S.size : Int)) = false) (HA : Hid (∀ w, PEnv w → Calls Tryz.prog 135 #[.string S, .int .i64 64] w (Fast3 R n w))) (w : World) (hE : PEnv w) :
    Calls Tryz.prog 101 #[.string S, .int .i64 64] w (Fast R w) := by
  have HE := Lib.hid hE
  clear hE
  go_enter Tryz.func101, Tryz.ntmps101
  go_wp2_with (first
    | (go_at_call 135; ((with_reducible refine (HA.out _ HE.out).mono ?_); rintro e w' ⟨er, rfl, he, hb⟩; have HER := Lib.hid he; have HBB := Lib.hid hb; clear he hb)))
  go_ret2
  exact ⟨er, rfl, HER.out, HBB.out⟩
set_option maxRecDepth 100000 in
set_option maxHeartbeats 1000000 in
theorem pf_any (S : ByteArray) (R : Nat) (hR : R ≠ cap) (HA : Hid (∀ w, PEnv w → Calls Tryz.prog 101 #[.string S, .int .i64 64] w (Fast R w))) (w : World) (hE : PEnv w) :
    Calls Tryz.prog 65 #[.string S, .int .i64 64] w fun e w' => e = Ret2 R .nilIface ∧ Below w.heap.size w w' := by
  have HA2 := Lib.hid (fun w hw => (HA.out w hw).mono fun e w' ⟨er, he, hc, hb⟩ => (show e = Ret2 R .nilIface ∧ Below w.heap.size w w' by
    cases er
    · exact ⟨he, hb⟩
    · exact absurd (hc rfl) hR))
  have HE := Lib.hid hE
  clear hE hR HA
  go_enter Tryz.func65, Tryz.ntmps65
  go_wp2_with (first
    | (go_at_call 101; ((with_reducible refine (HA2.out _ HE.out).mono ?_); rintro e w' ⟨rfl, hb⟩; have HBB := Lib.hid hb; clear hb)))
  go_ret2
  exact ⟨rfl, HBB.out⟩
end Go.Proofs.YtijncfidjjfmiaaGreatDoor

namespace Go.Proofs.YtijncfidjjfmiaaGreatDoor
open Go.RowKit FloM

theorem numD_dec (k : Nat) : numD (Lib.decDigits k) = k := by
  induction k using Nat.strongRecOn with
  | _ k ih =>
    have hb : ∀ d, d < 10 → (UInt8.ofNat (48 + d)).toNat - 48 = d := fun d hd => by
      rw [UInt8.toNat_ofNat', Nat.mod_eq_of_lt (by omega)]; omega
    rw [Lib.decDigits]
    split
    · next h =>
      show 0 * 10 + ((UInt8.ofNat (48 + k)).toNat - 48) = k
      rw [hb k h]; omega
    · rw [numD_snoc, ih (k / 10) (by omega), hb _ (by omega)]; omega
theorem dec_len4 {k : Nat} (h : k ≤ 1000) : 0 < (Lib.decDigits k).length ∧ (Lib.decDigits k).length ≤ 4 := by
  rw [Lib.decDigits_length]
  refine ⟨Lib.nDigits_pos k, ?_⟩
  by_cases h1 : k < 10
  · rw [Lib.nDigits_small h1]; decide
  · rw [Lib.nDigits_big h1]
    by_cases h2 : k / 10 < 10
    · rw [Lib.nDigits_small h2]; decide
    · rw [Lib.nDigits_big h2]
      by_cases h3 : k / 10 / 10 < 10
      · rw [Lib.nDigits_small h3]; decide
      · rw [Lib.nDigits_big h3, Lib.nDigits_small (by omega)]; decide

/-- The text that is handed to ParseFloat. -/
def pfTxt (d : List UInt8) (z : Int) : List UInt8 := [48, 46] ++ d ++ [101] ++ Lib.itoa z

theorem pfTxt_eq (d : List UInt8) (z : Int) : pfTxt d z = 48 :: 46 :: (d ++ 101 :: Lib.itoa z) := by
  unfold pfTxt; simp

theorem readF_txt (d : List UInt8) (z : Int) (hd : Digs d) (hz : d[0]? ≠ some 48) (h0 : 0 < d.length) (hl : d.length ≤ 9000) (ha1 : -1000 ≤ z) (ha2 : z ≤ 1000) (w : World) :
    Calls Tryz.prog 170 #[.string ⟨(pfTxt d z).toArray⟩] w fun e w' => e = Ret7 (numD (d.take (min d.length 19))) (z - (min d.length 19 : Nat)) (trD d d.length) (pfTxt d z).length ∧ w = w' := by
  obtain ⟨x1, x2⟩ := dec_len4 (k := z.natAbs) (by omega)
  have hX : Lib.itoa z = (if z < 0 then [45] else []) ++ Lib.decDigits z.natAbs := by
    unfold Lib.itoa
    by_cases h : z < 0
    · rw [if_pos h, if_pos h]; rfl
    · rw [if_neg h, if_neg h, show z.toNat = z.natAbs by omega]; rfl
  have hlen : (pfTxt d z).length = 3 + d.length + (decide (z < 0)).toNat + (Lib.decDigits z.natAbs).length := by
    rw [pfTxt_eq, hX]
    by_cases h : z < 0
    · rw [if_pos h, decide_eq_true h]; simp; omega
    · rw [if_neg h, decide_eq_false h]; simp; omega
  have hnum : (if decide (z < 0) = true then -(numD (Lib.decDigits z.natAbs) : Int) else numD (Lib.decDigits z.natAbs)) = z := by
    rw [numD_dec]
    by_cases h : z < 0
    · rw [if_pos (decide_eq_true h)]; omega
    · rw [if_neg (by simpa using h)]; omega
  have step : ∀ j : Nat, (pfTxt d z)[2 + j]? = (d ++ 101 :: Lib.itoa z)[j]? := fun j => by
    rw [pfTxt_eq, show 2 + j = j + 1 + 1 by omega, List.getElem?_cons_succ, List.getElem?_cons_succ]
  have h := readF_any ⟨(pfTxt d z).toArray⟩ (pfTxt d z) d (Lib.decDigits z.natAbs) (pfTxt d z).length d.length (Lib.decDigits z.natAbs).length (decide (z < 0))
    (fun k c hk hk2 => str_get hk hk2) (size_mk _) hlen rfl h0 hl hd hz rfl x1 x2 (decDigits_digs _)
    (by rw [pfTxt_eq]; rfl) (by rw [pfTxt_eq]; rfl) (fun j c hc => by
      rw [step]
      have := (List.getElem?_eq_some_iff.1 hc).1
      rw [List.getElem?_append_left this]; exact hc)
    (by rw [step, List.getElem?_append_right (Nat.le_refl _), Nat.sub_self]; rfl)
    (fun hng => by
      have hn : z < 0 := by simpa using hng
      rw [show 2 + d.length + 1 = 2 + (d.length + 1) by omega, step, List.getElem?_append_right (by omega), show d.length + 1 - d.length = 0 + 1 by omega, List.getElem?_cons_succ, hX, if_pos hn]; rfl)
    (fun j c hc => by
      rw [show 2 + d.length + 1 + (decide (z < 0)).toNat + j = 2 + (d.length + ((decide (z < 0)).toNat + j + 1)) by omega, step, List.getElem?_append_right (by omega),
        show d.length + ((decide (z < 0)).toNat + j + 1) - d.length = (decide (z < 0)).toNat + j + 1 by omega, List.getElem?_cons_succ, hX]
      by_cases h : z < 0
      · rw [if_pos h, decide_eq_true h, show true.toNat + j = j + 1 by (show 1 + j = j + 1; omega)]
        exact hc
      · rw [if_neg h, decide_eq_false h, show false.toNat + j = j by (show 0 + j = j; omega)]
        exact hc) w
  rw [hnum] at h
  exact h

theorem numD_pos {d : List UInt8} {j : Nat} (hd : Digs d) (hz : d[0]? ≠ some 48) (h0 : 0 < d.length) (hj : 0 < j) : 0 < numD (d.take j) := by
  have := numD_ne hd hz h0 hj
  rw [bne_iff_ne] at this
  omega

/-- ParseFloat, no digit cut off, and not run over. -/
theorem pf_txt (d : List UInt8) (z : Int) (R : Nat) (hd : Digs d) (hz : d[0]? ≠ some 48) (h0 : 0 < d.length) (hl : d.length ≤ 9000) (ha1 : -1000 ≤ z) (ha2 : z ≤ 1000) (ht : trD d d.length = false)
    (hR : rq (numD (d.take (min d.length 19)) * tA (z - (min d.length 19 : Nat)) * KK) (tB (z - (min d.length 19 : Nat))) = R) (hc : R ≠ cap) (w : World) (hE : PEnv w) :
    Calls Tryz.prog 65 #[.string ⟨(pfTxt d z).toArray⟩, .int .i64 64] w fun e w' => e = Ret2 R .nilIface ∧ Below w.heap.size w w' := by
  have hlen : 3 ≤ (pfTxt d z).length := by rw [pfTxt_eq]; simp; omega
  have hs : (ByteArray.mk (pfTxt d z).toArray).size = (pfTxt d z).length := size_mk _
  have hp := numD_pos hd hz h0 (j := min d.length 19) (by omega)
  have hlt := numD_lt 19 (d.take (min d.length 19)) (fun c hc => hd c (List.mem_of_mem_take hc)) (by rw [List.length_take]; omega)
  have h1 : ∀ w, PEnv w → Calls Tryz.prog 163 #[.string ⟨(pfTxt d z).toArray⟩] w (Fast3 R (pfTxt d z).length w) := fun w hw => by
    have := atof_any ⟨(pfTxt d z).toArray⟩ (numD (d.take (min d.length 19))) (pfTxt d z).length (z - (min d.length 19 : Nat)) (by omega) (str_get (by rw [pfTxt_eq]; rfl) (by omega)) hp (by omega)
      (fun w => by have := readF_txt d z hd hz h0 hl ha1 ha2 w; rw [ht] at this; exact this) w hw
    rw [hR] at this
    exact this
  have h2 := fun w (hw : PEnv w) => prefix_any _ R _ h1 w hw
  have h3 := fun w (hw : PEnv w) => ipf_any _ R _ (by rw [hs]; exact n_false rfl) h2 w hw
  exact pf_any _ R hc h3 w hE
end Go.Proofs.YtijncfidjjfmiaaGreatDoor
