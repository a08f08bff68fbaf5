/- The reference's Real: a real made by arithmetic. -/
import Derived.Test.YtceoapkkmgllaaaGreatDoorFloRealM
import Derived.Test.YtceoapkkmgllaaaGreatDoorFloAmtK
namespace Go.Proofs.YtceoapkkmgllaaaGreatDoor
open Go.RowKit FloM

set_option maxRecDepth 100000 in
set_option maxHeartbeats 1000000 in
theorem real_lo (u s m : Nat) (b : Bool) (X : Nat → Nat) (R : Nat) (w : World) (U : Nat) (hUb : U ≤ 2045) (HU : Hid (U = 0))
    (f1 : bits .and .u64 ((u : Int) / 4503599627370496) 2047 = 0) (f2 : bits .and .u64 (u : Int) 4503599627370495 = (m : Int)) (f3 : bits .and .u64 (u : Int) 9223372036854775808 = (s : Int)) (f4 : ((s : Int) != 0) = b)
    (hx : floatOfInt FloatKind.f64 (m : Int) = X 1074) (hm : ∀ e, e ≤ 2044 → floatBits .mul .f64 (X e) 4611686018427387904 = some (X (e + 1))) (hq : ∀ e, e ≤ 2044 → floatBits .quo .f64 (X (e + 1)) 4611686018427387904 = some (X e))
    (hR : (if b = true then Op.negFloat .f64 (X U) else X U) = R) :
    Calls Tryz.prog 25 #[.int .u64 u] w fun e w' => e = .returned (.float .f64 R) ∧ w = w' := by
  go_enter Tryz.func25, Tryz.ntmps25
  go_wp2
  go_loop [5, 6] (fun p x => ∃ e : Nat, 1074 ≤ e ∧ (e ≤ U ∨ e = 1074) ∧ p = .int .i64 ((U : Int) - e) ∧ x = .float .f64 (X e)) (fun p _ => (intOf p).toNat)
  case atStart => exact ⟨1074, Nat.le_refl _, .inr rfl, by rw [HU.out]; rfl, rfl⟩
  case round =>
    obtain ⟨e, he, he2, rfl, rfl⟩ := hrel
    by_cases hp : 0 < (U : Int) - e
    · have hd : decide (0 < (U : Int) - e) = true := decide_eq_true hp
      have hrun := fun (w : World) (t : TypeId) => run_float_arith (P := Tryz.prog) w .mul t .f64 (X e) 4611686018427387904 _ (hm e (by omega))
      go_wp2
      go_round
      case rel => exact ⟨e + 1, by omega, by omega, by go_num, rfl⟩
      case measure => simp [intOf]; omega
    · have hd : decide (0 < (U : Int) - e) = false := decide_eq_false hp
      go_wp2
      go_loop [5, 6] (fun p x => ∃ e : Nat, e ≤ 2045 ∧ U ≤ e ∧ p = .int .i64 ((U : Int) - e) ∧ x = .float .f64 (X e)) (fun p _ => (-(intOf p)).toNat)
      case atStart => exact ⟨e, by omega, by omega, rfl, rfl⟩
      case round =>
        clear hd hp he he2
        obtain ⟨e, he, he2, rfl, rfl⟩ := hrel
        by_cases hp : (U : Int) - e < 0
        · have hd : decide ((U : Int) - e < 0) = true := decide_eq_true hp
          obtain ⟨e', rfl⟩ : ∃ e', e = e' + 1 := ⟨e - 1, by omega⟩
          have hrun := fun (w : World) (t : TypeId) => run_float_arith (P := Tryz.prog) w .quo t .f64 (X (e' + 1)) 4611686018427387904 _ (hq e' (by omega))
          go_wp2
          go_round
          case rel => exact ⟨e', by omega, by omega, by go_num, rfl⟩
          case measure => simp [intOf]; omega
        · have hd : decide ((U : Int) - e < 0) = false := decide_eq_false hp
          have hE : e = U := by omega
          subst hE
          have HR := Lib.hid hR
          clear hR
          cases b
          · have hr : X e = R := HR.out
            go_wp2
            go_ret
            rw [← hr]
            exact ⟨rfl, rfl⟩
          · have hr : Op.negFloat .f64 (X e) = R := HR.out
            have hun : ∀ w : World, Sem.run Tryz.prog (Op.unary UnOp.neg (Value.float FloatKind.f64 (X e))) w = .ok (.float .f64 (Op.negFloat .f64 (X e))) w := fun _ => rfl
            rw [hr] at hun
            go_wp2
            go_ret
            exact ⟨rfl, rfl⟩
set_option maxRecDepth 100000 in
set_option maxHeartbeats 1000000 in
theorem real_hi (u s m m2 E : Nat) (b : Bool) (X : Nat → Nat) (R : Nat) (w : World) (U : Nat) (hUb : U ≤ 2045) (HU : Hid (E = U + 1))
    (f1 : bits .and .u64 ((u : Int) / 4503599627370496) 2047 = (E : Int)) (hE : 0 < E) (hEb : E ≤ 2046) (f2 : bits .and .u64 (u : Int) 4503599627370495 = (m : Int)) (f5 : bits .or .u64 (m : Int) 4503599627370496 = (m2 : Int)) (f3 : bits .and .u64 (u : Int) 9223372036854775808 = (s : Int)) (f4 : ((s : Int) != 0) = b)
    (hx : floatOfInt FloatKind.f64 (m2 : Int) = X 1074) (hm : ∀ e, e ≤ 2044 → floatBits .mul .f64 (X e) 4611686018427387904 = some (X (e + 1))) (hq : ∀ e, e ≤ 2044 → floatBits .quo .f64 (X (e + 1)) 4611686018427387904 = some (X e))
    (hR : (if b = true then Op.negFloat .f64 (X U) else X U) = R) :
    Calls Tryz.prog 25 #[.int .u64 u] w fun e w' => e = .returned (.float .f64 R) ∧ w = w' := by
  go_enter Tryz.func25, Tryz.ntmps25
  go_wp2
  go_loop [5, 6] (fun p x => ∃ e : Nat, 1074 ≤ e ∧ (e ≤ U ∨ e = 1074) ∧ p = .int .i64 ((U : Int) - e) ∧ x = .float .f64 (X e)) (fun p _ => (intOf p).toNat)
  case atStart => exact ⟨1074, Nat.le_refl _, .inr rfl, by have := HU.out; go_num, rfl⟩
  case round =>
    obtain ⟨e, he, he2, rfl, rfl⟩ := hrel
    by_cases hp : 0 < (U : Int) - e
    · have hd : decide (0 < (U : Int) - e) = true := decide_eq_true hp
      have hrun := fun (w : World) (t : TypeId) => run_float_arith (P := Tryz.prog) w .mul t .f64 (X e) 4611686018427387904 _ (hm e (by omega))
      go_wp2
      go_round
      case rel => exact ⟨e + 1, by omega, by omega, by go_num, rfl⟩
      case measure => simp [intOf]; omega
    · have hd : decide (0 < (U : Int) - e) = false := decide_eq_false hp
      go_wp2
      go_loop [5, 6] (fun p x => ∃ e : Nat, e ≤ 2045 ∧ U ≤ e ∧ p = .int .i64 ((U : Int) - e) ∧ x = .float .f64 (X e)) (fun p _ => (-(intOf p)).toNat)
      case atStart => exact ⟨e, by omega, by omega, rfl, rfl⟩
      case round =>
        clear hd hp he he2
        obtain ⟨e, he, he2, rfl, rfl⟩ := hrel
        by_cases hp : (U : Int) - e < 0
        · have hd : decide ((U : Int) - e < 0) = true := decide_eq_true hp
          obtain ⟨e', rfl⟩ : ∃ e', e = e' + 1 := ⟨e - 1, by omega⟩
          have hrun := fun (w : World) (t : TypeId) => run_float_arith (P := Tryz.prog) w .quo t .f64 (X (e' + 1)) 4611686018427387904 _ (hq e' (by omega))
          go_wp2
          go_round
          case rel => exact ⟨e', by omega, by omega, by go_num, rfl⟩
          case measure => simp [intOf]; omega
        · have hd : decide ((U : Int) - e < 0) = false := decide_eq_false hp
          have hE : e = U := by omega
          subst hE
          have HR := Lib.hid hR
          clear hR
          cases b
          · have hr : X e = R := HR.out
            go_wp2
            go_ret
            rw [← hr]
            exact ⟨rfl, rfl⟩
          · have hr : Op.negFloat .f64 (X e) = R := HR.out
            have hun : ∀ w : World, Sem.run Tryz.prog (Op.unary UnOp.neg (Value.float FloatKind.f64 (X e))) w = .ok (.float .f64 (Op.negFloat .f64 (X e))) w := fun _ => rfl
            rw [hr] at hun
            go_wp2
            go_ret
            exact ⟨rfl, rfl⟩

theorem neg_wd {r : Nat} (h : r < 2 ^ 63) : Op.negFloat .f64 r = wd true r := by
  show r ^^^ 2 ^ 63 = wd true r
  rw [xor_top r h]
  unfold wd
  rw [if_pos rfl]

/-- The reference's Real. -/
theorem real_any (u : Nat) (hu : u < 2 ^ 64) (hf : rg u < cap) (w : World) :
    Calls Tryz.prog 25 #[.int .u64 u] w fun e w' => e = .returned (.float .f64 u) ∧ w = w' := by
  have f1 := bits_e u hu
  have f2 := bits_frac u hu
  have f3 := bits_sign u hu
  have f4 := sgn_ne u hu
  rw [of_m u] at f2
  have hcap := cap_eq
  have hE : rg u / 2 ^ 52 ≤ 2046 := by omega
  have hm : rg u % 2 ^ 52 < 2 ^ 52 := Nat.mod_lt _ (by decide)
  have hM : mg (rg u) < 2 ^ 53 := by unfold mg; split <;> omega
  have hM1 : ∀ e, e ≤ 2044 → floatBits .mul .f64 (rgv (mg (rg u)) e) 4611686018427387904 = some (rgv (mg (rg u)) (e + 1)) := fun e he => dbl_mul hM he
  have hM2 : ∀ e, e ≤ 2044 → floatBits .quo .f64 (rgv (mg (rg u)) (e + 1)) 4611686018427387904 = some (rgv (mg (rg u)) e) := fun e he => dbl_div hM (by omega)
  have hx : floatOfInt FloatKind.f64 (mg (rg u) : Int) = rgv (mg (rg u)) 1074 := (floatOfInt_eq _).trans ((ofI_rgv _).trans (by rw [e74_eq]))
  have hR : (if sgn u = true then Op.negFloat .f64 (rgv (mg (rg u)) (up (rg u))) else rgv (mg (rg u)) (up (rg u))) = u := by
    rw [rgv_of _ hf, neg_wd (rg_lt u)]
    have := wd_eq hu
    unfold wd at this ⊢
    cases hs : sgn u
    · rw [hs] at this; exact this
    · rw [hs] at this; exact this
  have hU : up (rg u) ≤ 2045 := by unfold up; omega
  by_cases h0 : rg u / 2 ^ 52 = 0
  · obtain ⟨e1, e2⟩ := of_lo h0
    have e3 : up (rg u) = 0 := by unfold up; omega
    rw [h0] at f1
    rw [← e1] at f2
    exact real_lo u _ _ _ _ u w _ hU e3 f1 f2 f3 f4 hx hM1 hM2 hR
  · obtain ⟨e1, e2⟩ := of_hi h0
    have e3 : rg u / 2 ^ 52 = up (rg u) + 1 := by unfold up; omega
    have f5 := bits_or52 _ hm
    rw [← e1] at f5
    exact real_hi u _ _ _ _ _ _ u w _ hU e3 f1 (by omega) hE f2 f5 f3 f4 hx hM1 hM2 hR

end Go.Proofs.YtceoapkkmgllaaaGreatDoor
