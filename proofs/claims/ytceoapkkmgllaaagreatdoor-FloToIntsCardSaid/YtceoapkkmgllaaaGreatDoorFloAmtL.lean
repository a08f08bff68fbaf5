/- The reference's Mul. -/
import Derived.Test.YtceoapkkmgllaaaGreatDoorFloAmtK
import Derived.Test.YtceoapkkmgllaaaGreatDoorFloRnd
namespace FloM
open Ieee
/-- An operation's bits; the one NaN where it has none. -/
def opN (o : Option Nat) : Nat := o.getD 9221120237041090560
theorem mul_nan {u v : Nat} (h : cap < rg u ∨ cap < rg v) : double.mul u v = none := by
  unfold Format.mul
  rcases h with h | h
  · rw [read_nan h]; cases double.read v <;> rfl
  · rw [read_nan h]; cases double.read u <;> rfl
theorem mul_inf_zero {u v : Nat} (h : rg u = cap) (h2 : rg v = 0) : double.mul u v = none := by
  unfold Format.mul
  rw [read_inf h, read_num (by rw [h2]; decide), mg_zero.2 h2]; rfl
theorem mul_zero_inf {u v : Nat} (h : rg u = 0) (h2 : rg v = cap) : double.mul u v = none := by rw [mul_comm']; exact mul_inf_zero h2 h
theorem mul_inf_l {u v : Nat} (h : rg u = cap) (h2 : rg v ≤ cap) (h3 : rg v ≠ 0) : double.mul u v = some (wd (sgn u ^^ sgn v) cap) := by
  unfold Format.mul
  rcases Nat.lt_or_ge (rg v) cap with h4 | h4
  · rw [read_inf h, read_num h4]
    have hm : mg (rg v) ≠ 0 := fun h => h3 (mg_zero.1 h)
    simp only [Datum.product, if_neg hm, Option.map_some, Format.write, infRung_cap, word_wd]
  · rw [read_inf h, read_inf (show rg v = cap by omega)]
    simp only [Datum.product, Option.map_some, Format.write, infRung_cap, word_wd]
theorem mul_inf_r {u v : Nat} (h : rg v = cap) (h2 : rg u ≤ cap) (h3 : rg u ≠ 0) : double.mul u v = some (wd (sgn u ^^ sgn v) cap) := by
  rw [mul_comm', mul_inf_l h h2 h3, Bool.xor_comm]
theorem sgn_xor (u v : Nat) (_hu : u < 2 ^ 64) (_hv : v < 2 ^ 64) : sgn (u ^^^ v) = (sgn u ^^ sgn v) := by
  have e : ∀ x : Nat, sgn x = x.testBit 63 := by
    intro x
    rw [Nat.testBit_eq_decide_div_mod_eq]
    unfold sgn
    rw [Bool.eq_iff_iff, beq_iff_eq, decide_eq_true_eq]
  rw [e, e, e, Nat.testBit_xor]
theorem mg_nd (u : Nat) : nd (mg (rg u)) ≤ 4 := nd_bound (Nat.lt_of_lt_of_le (mg_lt (rg u)) (by decide))
theorem pp_bd (u : Nat) : -1074 ≤ pp u ∧ (u < 2 ^ 64 → pp u ≤ 972) := by
  unfold pp up
  refine ⟨by omega, fun _ => ?_⟩
  have : rg u / 2 ^ 52 < 2048 := by unfold rg; omega
  omega
end FloM
namespace Go.Proofs.YtceoapkkmgllaaaGreatDoor
open Go.RowKit FloM

theorem u64_xor_nat (a b : Nat) (ha : a < 18446744073709551616) (hb : b < 18446744073709551616) : bits .xor .u64 (a : Int) (b : Int) = ((a ^^^ b : Nat) : Int) := by
  have hx : a ^^^ b < 2 ^ 64 := Nat.xor_lt_two_pow (by omega) (by omega)
  show IntKind.u64.wrap ((BitVec.ofInt 64 (a : Int) ^^^ BitVec.ofInt 64 (b : Int)).toNat : Int) = _
  rw [BitVec.toNat_xor, ofInt_u64 a ha, ofInt_u64 b hb, IntKind.wrap_u64]
  omega
/-- (u^v)&sign != 0. -/
theorem xor_facts (u v : Nat) (hu : u < 2 ^ 64) (hv : v < 2 ^ 64) : ∃ x s : Nat, bits .xor .u64 (u : Int) (v : Int) = (x : Int) ∧ bits .and .u64 (x : Int) 9223372036854775808 = (s : Int) ∧ ((s : Int) != 0) = (sgn u ^^ sgn v) := by
  have hx : u ^^^ v < 2 ^ 64 := Nat.xor_lt_two_pow hu hv
  refine ⟨_, _, u64_xor_nat u v (by omega) (by omega), bits_sign _ hx, ?_⟩
  rw [sgn_ne _ hx, sgn_xor u v hu hv]

abbrev NanC (u : Nat) (b : Bool) : Prop := ∀ w, Calls Tryz.prog 19 #[.int .u64 u] w fun e w' => e = .returned (.bool b) ∧ w = w'
abbrev InfC (u : Nat) (b : Bool) : Prop := ∀ w, Calls Tryz.prog 24 #[.int .u64 u] w fun e w' => e = .returned (.bool b) ∧ w = w'
abbrev ZerC (u : Nat) (b : Bool) : Prop := ∀ w, Calls Tryz.prog 56 #[.int .u64 u] w fun e w' => e = .returned (.bool b) ∧ w = w'
theorem nanC {u : Nat} (hu : u < 2 ^ 64) {b : Bool} (h : decide (cap < rg u) = b) : NanC u b := fun w => by rw [← h]; exact rnan_any u hu w
theorem infC {u : Nat} (hu : u < 2 ^ 64) {b : Bool} (h : decide (rg u = cap) = b) : InfC u b := fun w => by rw [← h]; exact rinf_any u hu w
theorem zerC {u : Nat} (hu : u < 2 ^ 64) {b : Bool} (h : decide (rg u = 0) = b) : ZerC u b := fun w => by rw [← h]; exact rzero_any u hu w

set_option maxRecDepth 100000 in
set_option maxHeartbeats 2000000 in
/-- The product where it is no number. -/
theorem rmul_none (u v : Nat) (hu : u < 2 ^ 64) (hv : v < 2 ^ 64) (a b c d : Bool) (h : (a = true) ∨ (a = false ∧ b = true) ∨ (a = false ∧ b = false ∧ c = true) ∨ (a = false ∧ b = false ∧ c = false ∧ d = true))
    (n1 : NanC u a) (n2 : NanC v b) (i1 z1 i2 z2 : Bool) (hc : c = (i1 && z2)) (hd : d = (z1 && i2)) (I1 : InfC u i1) (Z2 : ZerC v z2) (Z1 : ZerC u z1) (I2 : InfC v i2) (w : World) :
    Calls Tryz.prog 38 #[.int .u64 u, .int .u64 v] w (RetU w 9221120237041090560) := by
  obtain ⟨x, s, f1, f2, f3⟩ := xor_facts u v hu hv
  generalize (sgn u ^^ sgn v) = sg at *
  have N1 := Lib.hid n1
  have N2 := Lib.hid n2
  have H1 := Lib.hid I1
  have H2 := Lib.hid I2
  have Y1 := Lib.hid Z1
  have Y2 := Lib.hid Z2
  clear n1 n2 I1 I2 Z1 Z2 hu hv
  subst hc hd
  rcases h with rfl | ⟨rfl, rfl⟩ | ⟨rfl, rfl, h⟩ | ⟨rfl, rfl, h, h2⟩
  rotate_left
  rotate_left
  · cases i1 <;> cases z2 <;> first | (exfalso; revert h; decide) | skip
    clear h
    all_goals
      go_enter Tryz.func38, Tryz.ntmps38
      go_wp2_with (first
        | (go_at_call 19; ((with_reducible refine (N1.out _).mono ?_); rintro e w' ⟨rfl, rfl⟩))
        | (go_at_call 19; ((with_reducible refine (N2.out _).mono ?_); rintro e w' ⟨rfl, rfl⟩))
        | (go_at_call 24; ((with_reducible refine (H1.out _).mono ?_); rintro e w' ⟨rfl, rfl⟩))
        | (go_at_call 56; ((with_reducible refine (Y2.out _).mono ?_); rintro e w' ⟨rfl, rfl⟩)))
      go_ret
      exact ⟨rfl, Below.refl _ _⟩
  · cases i1 <;> cases z2 <;> cases z1 <;> cases i2 <;> first | (exfalso; revert h h2; decide) | skip
    all_goals
      clear h h2
      go_enter Tryz.func38, Tryz.ntmps38
      go_wp2_with (first
        | (go_at_call 19; ((with_reducible refine (N1.out _).mono ?_); rintro e w' ⟨rfl, rfl⟩))
        | (go_at_call 19; ((with_reducible refine (N2.out _).mono ?_); rintro e w' ⟨rfl, rfl⟩))
        | (go_at_call 24; ((with_reducible refine (H1.out _).mono ?_); rintro e w' ⟨rfl, rfl⟩))
        | (go_at_call 56; ((with_reducible refine (Y2.out _).mono ?_); rintro e w' ⟨rfl, rfl⟩))
        | (go_at_call 24; ((with_reducible refine (H2.out _).mono ?_); rintro e w' ⟨rfl, rfl⟩))
        | (go_at_call 56; ((with_reducible refine (Y1.out _).mono ?_); rintro e w' ⟨rfl, rfl⟩)))
      go_ret
      exact ⟨rfl, Below.refl _ _⟩
  all_goals
    go_enter Tryz.func38, Tryz.ntmps38
    go_wp2_with (first
      | (go_at_call 19; ((with_reducible refine (N1.out _).mono ?_); rintro e w' ⟨rfl, rfl⟩))
      | (go_at_call 19; ((with_reducible refine (N2.out _).mono ?_); rintro e w' ⟨rfl, rfl⟩)))
    go_ret
    exact ⟨rfl, Below.refl _ _⟩
end Go.Proofs.YtceoapkkmgllaaaGreatDoor
