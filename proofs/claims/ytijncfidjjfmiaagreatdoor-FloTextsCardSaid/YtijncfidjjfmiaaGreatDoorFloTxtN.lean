/- The reference's Text with an exponent. -/
import Derived.Test.YtijncfidjjfmiaaGreatDoorFloTxtL
namespace Go.Proofs.YtijncfidjjfmiaaGreatDoor
open Go.RowKit FloM

theorem decZ_small (x : Nat) (h : x ≤ 401) : (decZ x).length ≤ 1000 := by
  unfold decZ
  split
  · decide
  · rw [Lib.decDigits_length]
    have h1 : Lib.nDigits x ≤ 3 := by
      by_cases h1 : x < 10
      · rw [Lib.nDigits_small h1]; decide
      · rw [Lib.nDigits_big h1]
        by_cases h2 : x / 10 < 10
        · rw [Lib.nDigits_small h2]; decide
        · rw [Lib.nDigits_big h2, Lib.nDigits_small (by omega)]; decide
    omega
/-- What the walk of a positive real's text meets. -/
structure TxtS (u : Nat) (S : ByteArray) (E : Int) : Prop where
  nan : ∀ w, Calls Tryz.prog 13 #[.int .u64 u] w fun e w' => e = .returned (.bool false) ∧ w = w'
  inf : ∀ w, Calls Tryz.prog 14 #[.int .u64 u] w fun e w' => e = .returned (.bool false) ∧ w = w'
  sho : ∀ w, Calls Tryz.prog 24 #[.int .u64 u] w fun e w' => e = .returned (.tuple #[.string S, .int .i64 E]) ∧ Below w.heap.size w w'

set_option maxRecDepth 100000 in
set_option maxHeartbeats 2000000 in
theorem rtext_d0 (u m x : Nat) (S A B DD X1 X2 X3 X4 : ByteArray) (h : 15 < m) (h2 : m ≤ 400) (hx : (m : Int) - 1 = (x : Int)) (_hx2 : x ≤ 401) (_hS1 : 1 ≤ S.size) (hS2 : (1 : Int) ≤ (S.size : Int)) (e1 : S.extract 0 1 = A) (e2 : S.extract 1 S.size = B) 
    (k1 : ∀ w, (Op.stringOp .add A ⟨#[46]⟩).run Tryz.prog w = .ok (.string X1) w) (k2 : ∀ w, (Op.stringOp .add X1 ⟨#[48]⟩).run Tryz.prog w = .ok (.string X2) w) (k3 : ∀ w, (Op.stringOp .add X2 ⟨#[69]⟩).run Tryz.prog w = .ok (.string X3) w) (k4 : ∀ w, (Op.stringOp .add X3 DD).run Tryz.prog w = .ok (.string X4) w)
    (hE : B.toList.isEmpty = true) (s0 : bits .and .u64 (u : Int) 9223372036854775808 = 0) (z0 : ((u : Int) == 0) = false) (HC : Hid (TxtS u S ((m : Int))))
    (HS : Hid (∀ w, Calls Tryz.prog 27 #[.int .u64 x] w (GivesD w x)))
    (HDG : Hid (∀ v w, D w v x → Calls Tryz.prog 26 #[v] w fun e w' => e = .returned (.string DD) ∧ Below w.heap.size w w')) (w : World) :
    Calls Tryz.prog 8 #[.int .u64 u] w fun e w' => e = .returned (.string X4) ∧ Below w.heap.size w w' := by
  have hx1 : ((m : Int) - 1) = (x : Int) := by omega
  have w1 : IntKind.i64.wrap ((m : Int) - 1) = (x : Int) := by rw [hx1]; exact IntWalk.i64_in _ (by omega)
  have w2 : IntKind.u64.wrap (x : Int) = (x : Int) := by rw [IntKind.wrap_u64]; omega
  have w3 : IntKind.i64.wrap (x : Int) = (x : Int) := IntWalk.i64_in _ (by omega)
  go_enter Tryz.func8, Tryz.ntmps8
  go_wp2_with (first
    | (go_at_call 13; refine (HC.out.nan _).mono ?_; rintro e w' ⟨rfl, rfl⟩)
    | (go_at_call 14; refine (HC.out.inf _).mono ?_; rintro e w' ⟨rfl, rfl⟩)
    | (go_at_call 24; refine (HC.out.sho _).mono ?_; rintro e w1 ⟨rfl, hb1⟩; have HB1 := Lib.hid hb1; clear hb1))
  go_region_held3 (fun _ => True) (first | trivial)
    (first
      | (go_at_call 27; refine (HS.out _).mono ?_; rintro e w2 ⟨v2, rfl, hv2, _, hbel2⟩; have HV2 := Lib.hid hv2; have HB2 := Lib.hid hbel2; clear hv2 hbel2)
      | (go_at_call 26; refine (HDG.out _ _ HV2.out).mono ?_; rintro e w3 ⟨rfl, hbel3⟩; have HB3 := Lib.hid hbel3; clear hbel3))
  go_wp2_with fail
  go_ret
  refine ⟨rfl, ?_⟩
  have b1 := HB1.out.drew
  have b2 := b1.trans (HB2.out.mono b1.size)
  exact b2.trans (HB3.out.mono b2.size)

set_option maxRecDepth 100000 in
set_option maxHeartbeats 2000000 in
theorem rtext_e0 (u m x : Nat) (S A B DD X1 X2 X3 X4 : ByteArray) (h : 3 < m) (h2 : m ≤ 400) (hx : (1 : Int) + (m : Int) = (x : Int)) (_hx2 : x ≤ 401) (_hS1 : 1 ≤ S.size) (hS2 : (1 : Int) ≤ (S.size : Int)) (e1 : S.extract 0 1 = A) (e2 : S.extract 1 S.size = B) 
    (k1 : ∀ w, (Op.stringOp .add A ⟨#[46]⟩).run Tryz.prog w = .ok (.string X1) w) (k2 : ∀ w, (Op.stringOp .add X1 ⟨#[48]⟩).run Tryz.prog w = .ok (.string X2) w) (k3 : ∀ w, (Op.stringOp .add X2 ⟨#[69, 126]⟩).run Tryz.prog w = .ok (.string X3) w) (k4 : ∀ w, (Op.stringOp .add X3 DD).run Tryz.prog w = .ok (.string X4) w)
    (hE : B.toList.isEmpty = true) (s0 : bits .and .u64 (u : Int) 9223372036854775808 = 0) (z0 : ((u : Int) == 0) = false) (HC : Hid (TxtS u S (-(m : Int))))
    (HS : Hid (∀ w, Calls Tryz.prog 27 #[.int .u64 x] w (GivesD w x)))
    (HDG : Hid (∀ v w, D w v x → Calls Tryz.prog 26 #[v] w fun e w' => e = .returned (.string DD) ∧ Below w.heap.size w w')) (w : World) :
    Calls Tryz.prog 8 #[.int .u64 u] w fun e w' => e = .returned (.string X4) ∧ Below w.heap.size w w' := by
  have hx1 : (1 - -(m : Int)) = (x : Int) := by omega
  have w1 : IntKind.i64.wrap (1 - -(m : Int)) = (x : Int) := by rw [hx1]; exact IntWalk.i64_in _ (by omega)
  have w2 : IntKind.u64.wrap (x : Int) = (x : Int) := by rw [IntKind.wrap_u64]; omega
  have w3 : IntKind.i64.wrap (x : Int) = (x : Int) := IntWalk.i64_in _ (by omega)
  go_enter Tryz.func8, Tryz.ntmps8
  go_wp2_with (first
    | (go_at_call 13; refine (HC.out.nan _).mono ?_; rintro e w' ⟨rfl, rfl⟩)
    | (go_at_call 14; refine (HC.out.inf _).mono ?_; rintro e w' ⟨rfl, rfl⟩)
    | (go_at_call 24; refine (HC.out.sho _).mono ?_; rintro e w1 ⟨rfl, hb1⟩; have HB1 := Lib.hid hb1; clear hb1))
  go_region_held3 (fun _ => True) (first | trivial)
    (first
      | (go_at_call 27; refine (HS.out _).mono ?_; rintro e w2 ⟨v2, rfl, hv2, _, hbel2⟩; have HV2 := Lib.hid hv2; have HB2 := Lib.hid hbel2; clear hv2 hbel2)
      | (go_at_call 26; refine (HDG.out _ _ HV2.out).mono ?_; rintro e w3 ⟨rfl, hbel3⟩; have HB3 := Lib.hid hbel3; clear hbel3))
  go_wp2_with fail
  go_ret
  refine ⟨rfl, ?_⟩
  have b1 := HB1.out.drew
  have b2 := b1.trans (HB2.out.mono b1.size)
  exact b2.trans (HB3.out.mono b2.size)

set_option maxRecDepth 100000 in
set_option maxHeartbeats 2000000 in
theorem rtext_d1 (u m x : Nat) (S A B DD X1 X2 X3 X4 : ByteArray) (h : 15 < m) (h2 : m ≤ 400) (hx : (m : Int) - 1 = (x : Int)) (_hx2 : x ≤ 401) (_hS1 : 1 ≤ S.size) (hS2 : (1 : Int) ≤ (S.size : Int)) (e1 : S.extract 0 1 = A) (e2 : S.extract 1 S.size = B) 
    (k1 : ∀ w, (Op.stringOp .add A ⟨#[46]⟩).run Tryz.prog w = .ok (.string X1) w) (k2 : ∀ w, (Op.stringOp .add X1 B).run Tryz.prog w = .ok (.string X2) w) (k3 : ∀ w, (Op.stringOp .add X2 ⟨#[69]⟩).run Tryz.prog w = .ok (.string X3) w) (k4 : ∀ w, (Op.stringOp .add X3 DD).run Tryz.prog w = .ok (.string X4) w)
    (hE : B.toList.isEmpty = false) (s0 : bits .and .u64 (u : Int) 9223372036854775808 = 0) (z0 : ((u : Int) == 0) = false) (HC : Hid (TxtS u S ((m : Int))))
    (HS : Hid (∀ w, Calls Tryz.prog 27 #[.int .u64 x] w (GivesD w x)))
    (HDG : Hid (∀ v w, D w v x → Calls Tryz.prog 26 #[v] w fun e w' => e = .returned (.string DD) ∧ Below w.heap.size w w')) (w : World) :
    Calls Tryz.prog 8 #[.int .u64 u] w fun e w' => e = .returned (.string X4) ∧ Below w.heap.size w w' := by
  have hx1 : ((m : Int) - 1) = (x : Int) := by omega
  have w1 : IntKind.i64.wrap ((m : Int) - 1) = (x : Int) := by rw [hx1]; exact IntWalk.i64_in _ (by omega)
  have w2 : IntKind.u64.wrap (x : Int) = (x : Int) := by rw [IntKind.wrap_u64]; omega
  have w3 : IntKind.i64.wrap (x : Int) = (x : Int) := IntWalk.i64_in _ (by omega)
  go_enter Tryz.func8, Tryz.ntmps8
  go_wp2_with (first
    | (go_at_call 13; refine (HC.out.nan _).mono ?_; rintro e w' ⟨rfl, rfl⟩)
    | (go_at_call 14; refine (HC.out.inf _).mono ?_; rintro e w' ⟨rfl, rfl⟩)
    | (go_at_call 24; refine (HC.out.sho _).mono ?_; rintro e w1 ⟨rfl, hb1⟩; have HB1 := Lib.hid hb1; clear hb1))
  go_region_held3 (fun _ => True) (first | trivial)
    (first
      | (go_at_call 27; refine (HS.out _).mono ?_; rintro e w2 ⟨v2, rfl, hv2, _, hbel2⟩; have HV2 := Lib.hid hv2; have HB2 := Lib.hid hbel2; clear hv2 hbel2)
      | (go_at_call 26; refine (HDG.out _ _ HV2.out).mono ?_; rintro e w3 ⟨rfl, hbel3⟩; have HB3 := Lib.hid hbel3; clear hbel3))
  go_wp2_with fail
  go_ret
  refine ⟨rfl, ?_⟩
  have b1 := HB1.out.drew
  have b2 := b1.trans (HB2.out.mono b1.size)
  exact b2.trans (HB3.out.mono b2.size)

set_option maxRecDepth 100000 in
set_option maxHeartbeats 2000000 in
theorem rtext_e1 (u m x : Nat) (S A B DD X1 X2 X3 X4 : ByteArray) (h : 3 < m) (h2 : m ≤ 400) (hx : (1 : Int) + (m : Int) = (x : Int)) (_hx2 : x ≤ 401) (_hS1 : 1 ≤ S.size) (hS2 : (1 : Int) ≤ (S.size : Int)) (e1 : S.extract 0 1 = A) (e2 : S.extract 1 S.size = B) 
    (k1 : ∀ w, (Op.stringOp .add A ⟨#[46]⟩).run Tryz.prog w = .ok (.string X1) w) (k2 : ∀ w, (Op.stringOp .add X1 B).run Tryz.prog w = .ok (.string X2) w) (k3 : ∀ w, (Op.stringOp .add X2 ⟨#[69, 126]⟩).run Tryz.prog w = .ok (.string X3) w) (k4 : ∀ w, (Op.stringOp .add X3 DD).run Tryz.prog w = .ok (.string X4) w)
    (hE : B.toList.isEmpty = false) (s0 : bits .and .u64 (u : Int) 9223372036854775808 = 0) (z0 : ((u : Int) == 0) = false) (HC : Hid (TxtS u S (-(m : Int))))
    (HS : Hid (∀ w, Calls Tryz.prog 27 #[.int .u64 x] w (GivesD w x)))
    (HDG : Hid (∀ v w, D w v x → Calls Tryz.prog 26 #[v] w fun e w' => e = .returned (.string DD) ∧ Below w.heap.size w w')) (w : World) :
    Calls Tryz.prog 8 #[.int .u64 u] w fun e w' => e = .returned (.string X4) ∧ Below w.heap.size w w' := by
  have hx1 : (1 - -(m : Int)) = (x : Int) := by omega
  have w1 : IntKind.i64.wrap (1 - -(m : Int)) = (x : Int) := by rw [hx1]; exact IntWalk.i64_in _ (by omega)
  have w2 : IntKind.u64.wrap (x : Int) = (x : Int) := by rw [IntKind.wrap_u64]; omega
  have w3 : IntKind.i64.wrap (x : Int) = (x : Int) := IntWalk.i64_in _ (by omega)
  go_enter Tryz.func8, Tryz.ntmps8
  go_wp2_with (first
    | (go_at_call 13; refine (HC.out.nan _).mono ?_; rintro e w' ⟨rfl, rfl⟩)
    | (go_at_call 14; refine (HC.out.inf _).mono ?_; rintro e w' ⟨rfl, rfl⟩)
    | (go_at_call 24; refine (HC.out.sho _).mono ?_; rintro e w1 ⟨rfl, hb1⟩; have HB1 := Lib.hid hb1; clear hb1))
  go_region_held3 (fun _ => True) (first | trivial)
    (first
      | (go_at_call 27; refine (HS.out _).mono ?_; rintro e w2 ⟨v2, rfl, hv2, _, hbel2⟩; have HV2 := Lib.hid hv2; have HB2 := Lib.hid hbel2; clear hv2 hbel2)
      | (go_at_call 26; refine (HDG.out _ _ HV2.out).mono ?_; rintro e w3 ⟨rfl, hbel3⟩; have HB3 := Lib.hid hbel3; clear hbel3))
  go_wp2_with fail
  go_ret
  refine ⟨rfl, ?_⟩
  have b1 := HB1.out.drew
  have b2 := b1.trans (HB2.out.mono b1.size)
  exact b2.trans (HB3.out.mono b2.size)
end Go.Proofs.YtijncfidjjfmiaaGreatDoor
