/- Walks of package flo's small functions: what each gives, as bits. -/
import Derived.Test.YtceoapkkmgllaaaGreatDoorRows
import Derived.Test.YtceoapkkmgllaaaGreatDoorFloLaws
import Derived.WalkKit
import Derived.WalkSpells
import Derived.WalkLawsBesides
import Derived.Handy
import Derived.Laws.Externs
import Derived.Lib.Hide
import Derived.Deep.Draws
namespace Go.Proofs.YtceoapkkmgllaaaGreatDoor
open Go.RowKit FloM

@[go_sem] theorem extFrom (u : Nat) (w : World) : (callFunc 54 #[.int .u64 (u : Int)]).run Tryz.prog w = .ok (.value (.float .f64 u)) w := by
  rw [run_callFunc_extern (e := Extern.MathFloatBits.float64frombits) Tryz.func54 (by kernel_rfl) (by kernel_rfl) (by kernel_rfl) (by kernel_rfl)]; rfl
@[go_sem] theorem extBits (u : Nat) (w : World) : (callFunc 55 #[.float .f64 u]).run Tryz.prog w = .ok (.value (.int .u64 (u : Int))) w := by
  rw [run_callFunc_extern (e := Extern.MathFloatBits.float64bits) Tryz.func55 (by kernel_rfl) (by kernel_rfl) (by kernel_rfl) (by kernel_rfl)]; rfl

theorem dbl : FloatKind.f64.format = Ieee.double := rfl

/-- The bits that are told. -/
def canon (u : Nat) : Nat := if cap < rg u then 9221120237041090560 else u

theorem order_self_nan {u : Nat} (h : cap < rg u) : FloatKind.f64.format.order u u = none := order_nan_l u h
theorem order_self {u : Nat} (h : rg u ≤ cap) : FloatKind.f64.format.order u u = some .eq := by
  rw [dbl, order_all h h]; simp [Std.ReflCmp.compare_self]
theorem neq_self_nan {u : Nat} (h : cap < rg u) : (FloatKind.f64.format.order u u != some Ordering.eq) = true := by rw [order_self_nan h]; rfl
theorem neq_self {u : Nat} (h : rg u ≤ cap) : (FloatKind.f64.format.order u u != some Ordering.eq) = false := by rw [order_self h]; rfl

set_option maxRecDepth 100000 in
set_option maxHeartbeats 400000 in
theorem from_any (u : Nat) (w : World) :
    Calls Tryz.prog 18 #[.int .u64 u] w fun e w' => e = .returned (.float .f64 u) ∧ w = w' := by
  go_enter Tryz.func18, Tryz.ntmps18
  go_wp2
  go_ret
  exact ⟨rfl, rfl⟩

set_option maxRecDepth 100000 in
set_option maxHeartbeats 400000 in
theorem of_any (u : Nat) (w : World) :
    Calls Tryz.prog 28 #[.int .u64 u] w fun e w' => e = .returned (.float .f64 u) ∧ w = w' := by
  go_enter Tryz.func28, Tryz.ntmps28
  go_wp2_with (go_at_call 18; refine (from_any _ _).mono ?_; rintro e w' ⟨rfl, rfl⟩)
  go_ret
  exact ⟨rfl, rfl⟩

theorem ret_int {k : IntKind} {a b : Int} (h : a = b) : Ending.returned (.int k a) = .returned (.int k b) := by rw [h]

set_option maxRecDepth 100000 in
set_option maxHeartbeats 400000 in
theorem bits_any (u : Nat) (w : World) :
    Calls Tryz.prog 20 #[.float .f64 u] w fun e w' => e = .returned (.int .u64 (canon u : Nat)) ∧ w = w' := by
  rcases Nat.lt_or_ge cap (rg u) with h | h
  · have hc : canon u = 9221120237041090560 := if_pos h
    rw [hc]
    have hn := neq_self_nan h
    go_enter Tryz.func20, Tryz.ntmps20
    go_wp2
    go_ret
    exact ⟨rfl, rfl⟩
  · have hc : canon u = u := if_neg (by omega)
    rw [hc]
    have hn := neq_self h
    go_enter Tryz.func20, Tryz.ntmps20
    go_wp2
    go_ret
    exact ⟨rfl, rfl⟩

theorem floatOfInt_eq (n : Int) : floatOfInt FloatKind.f64 n = ofI n := nearest_int n

set_option maxRecDepth 100000 in
set_option maxHeartbeats 400000 in
theorem int_any (n : Int) (w : World) :
    Calls Tryz.prog 35 #[.int .i64 n] w fun e w' => e = .returned (.float .f64 (ofI n)) ∧ w = w' := by
  rw [← floatOfInt_eq]
  go_enter Tryz.func35, Tryz.ntmps35
  go_wp2
  go_ret
  exact ⟨rfl, rfl⟩

theorem cmp_lt {u v : Nat} (h : (FloatKind.f64.format.order u v == some Ordering.lt) = true) : cmpI u v = -1 := by
  rw [cmpI_eq]; rw [dbl] at h; revert h; cases Ieee.double.order u v with
  | none => intro h; cases h
  | some o => cases o <;> intro h <;> first | rfl | cases h
theorem cmp_gt {u v : Nat} (h : (FloatKind.f64.format.order u v == some Ordering.gt) = true) : cmpI u v = 1 := by
  rw [cmpI_eq]; rw [dbl] at h; revert h; cases Ieee.double.order u v with
  | none => intro h; cases h
  | some o => cases o <;> intro h <;> first | rfl | cases h
theorem cmp_eq {u v : Nat} (h : (FloatKind.f64.format.order u v == some Ordering.eq) = true) : cmpI u v = 0 := by
  rw [cmpI_eq]; rw [dbl] at h; revert h; cases Ieee.double.order u v with
  | none => intro h; cases h
  | some o => cases o <;> intro h <;> first | rfl | cases h
theorem cmp_un {u v : Nat} (h1 : (FloatKind.f64.format.order u v == some Ordering.lt) = false) (h2 : (FloatKind.f64.format.order u v == some Ordering.gt) = false) (h3 : (FloatKind.f64.format.order u v == some Ordering.eq) = false) : cmpI u v = 2 := by
  rw [cmpI_eq]; rw [dbl] at h1 h2 h3; revert h1 h2 h3; cases Ieee.double.order u v with
  | none => intros; rfl
  | some o => cases o <;> intro h1 h2 h3 <;> first | (cases h1; done) | (cases h2; done) | (cases h3; done)

set_option maxRecDepth 100000 in
set_option maxHeartbeats 400000 in
theorem compare_any (u v : Nat) (w : World) :
    Calls Tryz.prog 45 #[.float .f64 u, .float .f64 v] w fun e w' => e = .returned (.int .i64 (cmpI u v)) ∧ w = w' := by
  go_enter Tryz.func45, Tryz.ntmps45
  go_wp2
  · go_ret; exact ⟨ret_int (cmp_lt ‹_›).symm, rfl⟩
  · go_ret; exact ⟨ret_int (cmp_gt ‹_›).symm, rfl⟩
  · go_ret; exact ⟨ret_int (cmp_eq ‹_›).symm, rfl⟩
  · go_ret; exact ⟨ret_int (cmp_un ‹_› ‹_› ‹_›).symm, rfl⟩

/-- What an operation gives: its bits, or some NaN. -/
def OpR (r : Option Nat) (z : Nat) : Prop := z < 2 ^ 64 ∧ match r with | some a => z = a | none => cap < rg z

theorem OpR.of_some {a z : Nat} (h : OpR (some a) z) : z = a := h.2
theorem OpR.of_none {z : Nat} (h : OpR none z) : cap < rg z := h.2

theorem nan_cut (t : Nat) : OpR none ((t % 2) * 2 ^ 63 + 0x7ff0000000000000 + 1 + (t / 2) % (2 ^ 52 - 1)) := by
  have h1 : t % 2 < 2 := Nat.mod_lt _ (by omega)
  have h2 : (t / 2) % (2 ^ 52 - 1) < 2 ^ 52 - 1 := Nat.mod_lt _ (by omega)
  generalize t % 2 = a at *
  generalize (t / 2) % (2 ^ 52 - 1) = b at *
  refine ⟨by omega, ?_⟩
  show cap < rg _
  unfold cap rg
  rcases Nat.lt_or_ge a 1 with h | h
  · have : a = 0 := by omega
    subst this; omega
  · have : a = 1 := by omega
    subst this; omega

theorem run_float_nan {P : Program} (w : World) (op : BinOp) (t : TypeId) (x y : Nat) (hop : op = .add ∨ op = .sub ∨ op = .mul ∨ op = .quo) (h : floatBits op .f64 x y = none) :
    ∃ z, OpR none z ∧ (binOp op t (.float .f64 x) (.float .f64 y)).run P w = .ok (.float .f64 z) w.drew := by
  refine ⟨_, nan_cut (w.tape w.drawn (.nanBits .f64 x y)), ?_⟩
  unfold floatBits at h
  rcases hop with rfl | rfl | rfl | rfl <;> simp only at h <;> simp [binOp, Op.floatArith, h] <;> rfl

theorem word_lt (r : Option Nat) (h : ∃ x y, r = Ieee.double.add x y ∨ r = Ieee.double.sub x y ∨ r = Ieee.double.mul x y ∨ r = Ieee.double.div x y) (a : Nat) (hr : r = some a) : a < 2 ^ 64 := by
  obtain ⟨x, y, rfl | rfl | rfl | rfl⟩ := h
  · exact Ieee.double.add_lt hr
  · exact Ieee.double.sub_lt hr
  · exact Ieee.double.mul_lt hr
  · exact Ieee.double.div_lt hr

set_option maxRecDepth 100000 in
set_option maxHeartbeats 400000 in
theorem add_any (u v : Nat) (w : World) :
    Calls Tryz.prog 31 #[.float .f64 u, .float .f64 v] w fun e w' => ∃ z n, e = .returned (.float .f64 z) ∧ OpR (Ieee.double.add u v) z ∧ w' = w.drewN n := by
  cases hr : Ieee.double.add u v with
  | some a =>
    have hw : a < 2 ^ 64 := word_lt _ ⟨u, v, by simp⟩ a hr
    have hrun := fun (w : World) (t : TypeId) => run_float_arith (P := Tryz.prog) w .add t .f64 u v a hr
    have hr' := Lib.hid hr
    clear hr
    go_enter Tryz.func31, Tryz.ntmps31
    go_wp2
    go_ret
    exact ⟨a, 0, rfl, ⟨hw, rfl⟩, rfl⟩
  | none =>
    obtain ⟨z, hz, hrun⟩ := run_float_nan (P := Tryz.prog) w .add 23 u v (by simp) hr
    have hz' := Lib.hid hz
    clear hz hr
    go_enter Tryz.func31, Tryz.ntmps31
    go_wp2
    go_ret
    exact ⟨z, 1, rfl, hz'.out, rfl⟩

set_option maxRecDepth 100000 in
set_option maxHeartbeats 400000 in
theorem sub_any (u v : Nat) (w : World) :
    Calls Tryz.prog 33 #[.float .f64 u, .float .f64 v] w fun e w' => ∃ z n, e = .returned (.float .f64 z) ∧ OpR (Ieee.double.sub u v) z ∧ w' = w.drewN n := by
  cases hr : Ieee.double.sub u v with
  | some a =>
    have hw : a < 2 ^ 64 := word_lt _ ⟨u, v, by simp⟩ a hr
    have hrun := fun (w : World) (t : TypeId) => run_float_arith (P := Tryz.prog) w .sub t .f64 u v a hr
    have hr' := Lib.hid hr
    clear hr
    go_enter Tryz.func33, Tryz.ntmps33
    go_wp2
    go_ret
    exact ⟨a, 0, rfl, ⟨hw, rfl⟩, rfl⟩
  | none =>
    obtain ⟨z, hz, hrun⟩ := run_float_nan (P := Tryz.prog) w .sub 23 u v (by simp) hr
    have hz' := Lib.hid hz
    clear hz hr
    go_enter Tryz.func33, Tryz.ntmps33
    go_wp2
    go_ret
    exact ⟨z, 1, rfl, hz'.out, rfl⟩

set_option maxRecDepth 100000 in
set_option maxHeartbeats 400000 in
theorem mul_any (u v : Nat) (w : World) :
    Calls Tryz.prog 37 #[.float .f64 u, .float .f64 v] w fun e w' => ∃ z n, e = .returned (.float .f64 z) ∧ OpR (Ieee.double.mul u v) z ∧ w' = w.drewN n := by
  cases hr : Ieee.double.mul u v with
  | some a =>
    have hw : a < 2 ^ 64 := word_lt _ ⟨u, v, by simp⟩ a hr
    have hrun := fun (w : World) (t : TypeId) => run_float_arith (P := Tryz.prog) w .mul t .f64 u v a hr
    have hr' := Lib.hid hr
    clear hr
    go_enter Tryz.func37, Tryz.ntmps37
    go_wp2
    go_ret
    exact ⟨a, 0, rfl, ⟨hw, rfl⟩, rfl⟩
  | none =>
    obtain ⟨z, hz, hrun⟩ := run_float_nan (P := Tryz.prog) w .mul 23 u v (by simp) hr
    have hz' := Lib.hid hz
    clear hz hr
    go_enter Tryz.func37, Tryz.ntmps37
    go_wp2
    go_ret
    exact ⟨z, 1, rfl, hz'.out, rfl⟩

set_option maxRecDepth 100000 in
set_option maxHeartbeats 400000 in
theorem div_any (u v : Nat) (w : World) :
    Calls Tryz.prog 39 #[.float .f64 u, .float .f64 v] w fun e w' => ∃ z n, e = .returned (.float .f64 z) ∧ OpR (Ieee.double.div u v) z ∧ w' = w.drewN n := by
  cases hr : Ieee.double.div u v with
  | some a =>
    have hw : a < 2 ^ 64 := word_lt _ ⟨u, v, by simp⟩ a hr
    have hrun := fun (w : World) (t : TypeId) => run_float_arith (P := Tryz.prog) w .quo t .f64 u v a hr
    have hr' := Lib.hid hr
    clear hr
    go_enter Tryz.func39, Tryz.ntmps39
    go_wp2
    go_ret
    exact ⟨a, 0, rfl, ⟨hw, rfl⟩, rfl⟩
  | none =>
    obtain ⟨z, hz, hrun⟩ := run_float_nan (P := Tryz.prog) w .quo 23 u v (by simp) hr
    have hz' := Lib.hid hz
    clear hz hr
    go_enter Tryz.func39, Tryz.ntmps39
    go_wp2
    go_ret
    exact ⟨z, 1, rfl, hz'.out, rfl⟩

end Go.Proofs.YtceoapkkmgllaaaGreatDoor
