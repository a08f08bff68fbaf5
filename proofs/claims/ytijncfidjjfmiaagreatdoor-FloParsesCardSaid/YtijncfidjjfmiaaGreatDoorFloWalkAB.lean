/- Walks of package flo's small functions: what each gives, as bits. Walks of package flo's small functions, more. -/
import Derived.Test.YtijncfidjjfmiaaGreatDoorRows
import Derived.Test.YtijncfidjjfmiaaGreatDoorFloBase
import Derived.WalkKit
import Derived.WalkSpells
import Derived.WalkLawsBesides
import Derived.Handy
import Derived.Laws.Externs
import Derived.Lib.Hide
import Derived.Deep.Draws
namespace Go.Proofs.YtijncfidjjfmiaaGreatDoor
open Go.RowKit FloM

@[go_sem] theorem extFrom (u : Nat) (w : World) : (callFunc 50 #[.int .u64 (u : Int)]).run Tryz.prog w = .ok (.value (.float .f64 u)) w := by
  rw [run_callFunc_extern (e := Extern.MathFloatBits.float64frombits) Tryz.func50 (by kernel_rfl) (by kernel_rfl) (by kernel_rfl) (by kernel_rfl)]; rfl
@[go_sem] theorem extBits (u : Nat) (w : World) : (callFunc 37 #[.float .f64 u]).run Tryz.prog w = .ok (.value (.int .u64 (u : Int))) w := by
  rw [run_callFunc_extern (e := Extern.MathFloatBits.float64bits) Tryz.func37 (by kernel_rfl) (by kernel_rfl) (by kernel_rfl) (by kernel_rfl)]; rfl

theorem dbl : FloatKind.f64.format = Ieee.double := rfl

/-- The bits that are told. -/
def canon (u : Nat) : Nat := if cap < rg u then 9221120237041090560 else u

theorem order_self_nan {u : Nat} (h : cap < rg u) : FloatKind.f64.format.order u u = none := order_nan_l u h
theorem order_self {u : Nat} (h : rg u ≤ cap) : FloatKind.f64.format.order u u = some .eq := by
  rw [dbl, order_all h h]; simp [Std.ReflCmp.compare_self]
theorem neq_self_nan {u : Nat} (h : cap < rg u) : (FloatKind.f64.format.order u u != some Ordering.eq) = true := by rw [order_self_nan h]; rfl
theorem neq_self {u : Nat} (h : rg u ≤ cap) : (FloatKind.f64.format.order u u != some Ordering.eq) = false := by rw [order_self h]; rfl

set_option maxRecDepth 100000 in
set_option maxHeartbeats 400000 in
theorem from_any (u : Nat) (w : World) :
    Calls Tryz.prog 23 #[.int .u64 u] w fun e w' => e = .returned (.float .f64 u) ∧ w = w' := by
  go_enter Tryz.func23, Tryz.ntmps23
  go_wp2
  go_ret
  exact ⟨rfl, rfl⟩

set_option maxRecDepth 100000 in
set_option maxHeartbeats 400000 in
theorem of_any (u : Nat) (w : World) :
    Calls Tryz.prog 7 #[.int .u64 u] w fun e w' => e = .returned (.float .f64 u) ∧ w = w' := by
  go_enter Tryz.func7, Tryz.ntmps7
  go_wp2_with (go_at_call 23; refine (from_any _ _).mono ?_; rintro e w' ⟨rfl, rfl⟩)
  go_ret
  exact ⟨rfl, rfl⟩

theorem ret_int {k : IntKind} {a b : Int} (h : a = b) : Ending.returned (.int k a) = .returned (.int k b) := by rw [h]

set_option maxRecDepth 100000 in
set_option maxHeartbeats 400000 in
theorem bits_any (u : Nat) (w : World) :
    Calls Tryz.prog 16 #[.float .f64 u] w fun e w' => e = .returned (.int .u64 (canon u : Nat)) ∧ w = w' := by
  rcases Nat.lt_or_ge cap (rg u) with h | h
  · have hc : canon u = 9221120237041090560 := if_pos h
    rw [hc]
    have hn := neq_self_nan h
    go_enter Tryz.func16, Tryz.ntmps16
    go_wp2
    go_ret
    exact ⟨rfl, rfl⟩
  · have hc : canon u = u := if_neg (by omega)
    rw [hc]
    have hn := neq_self h
    go_enter Tryz.func16, Tryz.ntmps16
    go_wp2
    go_ret
    exact ⟨rfl, rfl⟩

/-- What an operation gives: its bits, or some NaN. -/
def OpR (r : Option Nat) (z : Nat) : Prop := z < 2 ^ 64 ∧ match r with | some a => z = a | none => cap < rg z

theorem OpR.of_some {a z : Nat} (h : OpR (some a) z) : z = a := h.2
theorem OpR.of_none {z : Nat} (h : OpR none z) : cap < rg z := h.2

theorem nan_cut (t : Nat) : OpR none ((t % 2) * 2 ^ 63 + 0x7ff0000000000000 + 1 + (t / 2) % (2 ^ 52 - 1)) := by
  have h1 : t % 2 < 2 := Nat.mod_lt _ (by omega)
  have h2 : (t / 2) % (2 ^ 52 - 1) < 2 ^ 52 - 1 := Nat.mod_lt _ (by omega)
  generalize t % 2 = a at *
  generalize (t / 2) % (2 ^ 52 - 1) = b at *
  refine ⟨by omega, ?_⟩
  show cap < rg _
  unfold cap rg
  rcases Nat.lt_or_ge a 1 with h | h
  · have : a = 0 := by omega
    subst this; omega
  · have : a = 1 := by omega
    subst this; omega

theorem run_float_nan {P : Program} (w : World) (op : BinOp) (t : TypeId) (x y : Nat) (hop : op = .add ∨ op = .sub ∨ op = .mul ∨ op = .quo) (h : floatBits op .f64 x y = none) :
    ∃ z, OpR none z ∧ (binOp op t (.float .f64 x) (.float .f64 y)).run P w = .ok (.float .f64 z) w.drew := by
  refine ⟨_, nan_cut (w.tape w.drawn (.nanBits .f64 x y)), ?_⟩
  unfold floatBits at h
  rcases hop with rfl | rfl | rfl | rfl <;> simp only at h <;> simp [binOp, Op.floatArith, h] <;> rfl

theorem word_lt (r : Option Nat) (h : ∃ x y, r = Ieee.double.add x y ∨ r = Ieee.double.sub x y ∨ r = Ieee.double.mul x y ∨ r = Ieee.double.div x y) (a : Nat) (hr : r = some a) : a < 2 ^ 64 := by
  obtain ⟨x, y, rfl | rfl | rfl | rfl⟩ := h
  · exact Ieee.double.add_lt hr
  · exact Ieee.double.sub_lt hr
  · exact Ieee.double.mul_lt hr
  · exact Ieee.double.div_lt hr

set_option maxRecDepth 100000 in
set_option maxHeartbeats 400000 in
theorem add_any (u v : Nat) (w : World) :
    Calls Tryz.prog 28 #[.float .f64 u, .float .f64 v] w fun e w' => ∃ z n, e = .returned (.float .f64 z) ∧ OpR (Ieee.double.add u v) z ∧ w' = w.drewN n := by
  cases hr : Ieee.double.add u v with
  | some a =>
    have hw : a < 2 ^ 64 := word_lt _ ⟨u, v, by simp⟩ a hr
    have hrun := fun (w : World) (t : TypeId) => run_float_arith (P := Tryz.prog) w .add t .f64 u v a hr
    have hr' := Lib.hid hr
    clear hr
    go_enter Tryz.func28, Tryz.ntmps28
    go_wp2
    go_ret
    exact ⟨a, 0, rfl, ⟨hw, rfl⟩, rfl⟩
  | none =>
    obtain ⟨z, hz, hrun⟩ := run_float_nan (P := Tryz.prog) w .add 24 u v (by simp) hr
    have hz' := Lib.hid hz
    clear hz hr
    go_enter Tryz.func28, Tryz.ntmps28
    go_wp2
    go_ret
    exact ⟨z, 1, rfl, hz'.out, rfl⟩

end Go.Proofs.YtijncfidjjfmiaaGreatDoor

namespace Go.Proofs.YtijncfidjjfmiaaGreatDoor
open Go.RowKit FloM

/-- The bits without the sign, and with the sign turned. -/
def lowN (c : Nat) : Nat := c % 2 ^ 63
def turnN (c : Nat) : Nat := if c < 2 ^ 63 then 2 ^ 63 + c else c - 2 ^ 63

theorem bits_low (c : Nat) (h : c < 2 ^ 64) : bits .andNot .u64 (c : Int) 9223372036854775808 = ((lowN c : Nat) : Int) := by
  unfold lowN
  rw [← bv_and c h]
  rfl
theorem bits_turn (c : Nat) (h : c < 2 ^ 64) : bits .xor .u64 (c : Int) 9223372036854775808 = ((turnN c : Nat) : Int) := by
  unfold turnN
  rw [← bv_xor c h]
  rfl

/-- The class of bits. -/
def classN (u : Nat) : Int := if cap < rg u then 0 else if rg u = cap then 1 else if rg u = 0 then 2 else if rg u < 2 ^ 52 then 3 else 4

theorem canon_lt {u : Nat} (hu : u < 2 ^ 64) : canon u < 2 ^ 64 := by unfold canon; split <;> omega
theorem lowN_nan {u : Nat} (h : cap < rg u) : lowN (canon u) = 9221120237041090560 := by unfold canon lowN; rw [if_pos h]
theorem lowN_num {u : Nat} (h : rg u ≤ cap) : lowN (canon u) = rg u := by unfold canon lowN; rw [if_neg (by omega)]; rfl

set_option maxRecDepth 100000 in
set_option maxHeartbeats 400000 in
theorem class_any (u : Nat) (hu : u < 2 ^ 64) (w : World) :
    Calls Tryz.prog 15 #[.float .f64 u] w fun e w' => e = .returned (.int .i64 (classN u)) ∧ w = w' := by
  have hb := bits_low (canon u) (canon_lt hu)
  have hcl : classN u = if 9218868437227405312 < lowN (canon u) then 0 else if lowN (canon u) = 9218868437227405312 then 1 else if lowN (canon u) = 0 then 2 else if lowN (canon u) < 4503599627370496 then 3 else 4 := by
    have hcap : cap = 9218868437227405312 := by decide
    unfold classN
    rcases Nat.lt_or_ge cap (rg u) with h | h
    · rw [lowN_nan h, if_pos h, if_pos (show 9218868437227405312 < 9221120237041090560 by decide)]
    · rw [lowN_num h, hcap, show (2 : Nat) ^ 52 = 4503599627370496 by decide]
  rw [hcl]
  generalize hc : canon u = c at *
  generalize lowN c = r at *
  have hc' := Lib.hid hc
  clear hu hcl hc
  by_cases h1 : 9218868437227405312 < r
  · rw [if_pos h1]
    have d1 : decide ((9218868437227405312 : Int) < (r : Int)) = true := decide_eq_true (by omega)
    clear h1
    go_enter Tryz.func15, Tryz.ntmps15
    go_wp2_with (go_at_call 16; refine (bits_any _ _).mono ?_; rintro e w' ⟨rfl, rfl⟩; rw [hc'.out])
    go_ret
    exact ⟨rfl, rfl⟩
  rw [if_neg h1]
  have d1 : decide ((9218868437227405312 : Int) < (r : Int)) = false := decide_eq_false (by omega)
  by_cases h2 : r = 9218868437227405312
  · rw [if_pos h2]
    have d2 : ((r : Int) == 9218868437227405312) = true := by rw [beq_iff_eq]; omega
    clear h1 h2
    go_enter Tryz.func15, Tryz.ntmps15
    go_wp2_with (go_at_call 16; refine (bits_any _ _).mono ?_; rintro e w' ⟨rfl, rfl⟩; rw [hc'.out])
    go_ret
    exact ⟨rfl, rfl⟩
  rw [if_neg h2]
  have d2 : ((r : Int) == 9218868437227405312) = false := by rw [beq_eq_false_iff_ne]; omega
  by_cases h3 : r = 0
  · rw [if_pos h3]
    subst h3
    clear h1 h2
    go_enter Tryz.func15, Tryz.ntmps15
    go_wp2_with (go_at_call 16; refine (bits_any _ _).mono ?_; rintro e w' ⟨rfl, rfl⟩; rw [hc'.out])
    go_ret
    exact ⟨rfl, rfl⟩
  rw [if_neg h3]
  have d3 : ((r : Int) == 0) = false := by rw [beq_eq_false_iff_ne]; omega
  by_cases h4 : r < 4503599627370496
  · rw [if_pos h4]
    have d4 : decide ((r : Int) < 4503599627370496) = true := decide_eq_true (by omega)
    clear h1 h2 h3 h4
    go_enter Tryz.func15, Tryz.ntmps15
    go_wp2_with (go_at_call 16; refine (bits_any _ _).mono ?_; rintro e w' ⟨rfl, rfl⟩; rw [hc'.out])
    go_ret
    exact ⟨rfl, rfl⟩
  · rw [if_neg h4]
    have d4 : decide ((r : Int) < 4503599627370496) = false := decide_eq_false (by omega)
    clear h1 h2 h3 h4
    go_enter Tryz.func15, Tryz.ntmps15
    go_wp2_with (go_at_call 16; refine (bits_any _ _).mono ?_; rintro e w' ⟨rfl, rfl⟩; rw [hc'.out])
    go_ret
    exact ⟨rfl, rfl⟩

theorem ret_float {a b : Nat} (h : a = b) : Ending.returned (.float .f64 a) = .returned (.float .f64 b) := by rw [h]

/-- The sign turned; left out. -/
def negF (u : Nat) : Nat := if cap < rg u then u else turnN u
def absF (u : Nat) : Nat := lowN (canon u)

set_option maxRecDepth 100000 in
set_option maxHeartbeats 400000 in
theorem abs_any (u : Nat) (hu : u < 2 ^ 64) (w : World) :
    Calls Tryz.prog 18 #[.float .f64 u] w fun e w' => e = .returned (.float .f64 (absF u)) ∧ w = w' := by
  unfold absF
  have hb := bits_low (canon u) (canon_lt hu)
  generalize lowN (canon u) = r at *
  go_enter Tryz.func18, Tryz.ntmps18
  go_wp2_with (first | (go_at_call 16; refine (bits_any _ _).mono ?_; rintro e w' ⟨rfl, rfl⟩) | (go_at_call 23; go_simp; refine (from_any _ _).mono ?_; rintro e w' ⟨rfl, rfl⟩))
  go_ret
  exact ⟨rfl, rfl⟩

end Go.Proofs.YtijncfidjjfmiaaGreatDoor
