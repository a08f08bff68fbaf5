/- The law FloRises. -/
import Derived.Test.YtceoapkkmgllaaaGreatDoorFloSigns
namespace Go.Proofs.YtceoapkkmgllaaaGreatDoor
open Go.RowKit FloM

theorem ne_one {x : Int} (h : (x == 1) = false) : (x != 1) = true := by rw [bne, h]; rfl
theorem cmp_not_one {a b : Nat} (h : rg a ≤ cap → rg b ≤ cap → sv a ≤ sv b) : (cmpI a b == 1) = false := by
  rw [beq_eq_false_iff_ne]
  unfold cmpI
  split
  · decide
  · split
    · decide
    · split
      · next h1 h2 h3 => have := h (by omega) (by omega); omega
      · decide

theorem opr_sum {x y z a b : Nat} (hx : rg x ≤ cap) (hy : rg y ≤ cap) (hz : rg z ≤ cap) (hxy : sv x ≤ sv y)
    (ha : OpR (Ieee.double.add x z) a) (hb : OpR (Ieee.double.add y z) b) : (cmpI a b == 1) = false := by
  refine cmp_not_one fun h1 h2 => ?_
  cases ea : Ieee.double.add x z with
  | none => rw [ea] at ha; have := ha.of_none; omega
  | some a' =>
    cases eb : Ieee.double.add y z with
    | none => rw [eb] at hb; have := hb.of_none; omega
    | some b' =>
      rw [ea] at ha; rw [eb] at hb
      rw [ha.of_some, hb.of_some]
      exact add_rises hx hy hz hxy ea eb

theorem opr_mul {x y z a b : Nat} (hx : rg x ≤ cap) (hy : rg y ≤ cap) (hz : rg z ≤ cap) (hxy : sv x ≤ sv y)
    (ha : OpR (Ieee.double.mul x z) a) (hb : OpR (Ieee.double.mul y z) b) : (0 ≤ sv z → (cmpI a b == 1) = false) ∧ (sv z < 0 → (cmpI b a == 1) = false) := by
  have key : rg a ≤ cap → rg b ≤ cap → (0 ≤ sv z → sv a ≤ sv b) ∧ (sv z < 0 → sv b ≤ sv a) := by
    intro h1 h2
    cases ea : Ieee.double.mul x z with
    | none => rw [ea] at ha; have := ha.of_none; omega
    | some a' =>
      cases eb : Ieee.double.mul y z with
      | none => rw [eb] at hb; have := hb.of_none; omega
      | some b' =>
        rw [ea] at ha; rw [eb] at hb
        rw [ha.of_some, hb.of_some]
        exact mul_rises hx hy hz hxy ea eb
  exact ⟨fun h => cmp_not_one fun h1 h2 => (key h1 h2).1 h, fun h => cmp_not_one fun h1 h2 => (key h2 h1).2 h⟩

theorem sv_zero : sv 0 = 0 := by decide
theorem rg_zero : rg 0 = 0 := by decide
theorem cmp_zero {z : Nat} (hz : rg z ≤ cap) : decide (cmpI z 0 < 0) = decide (sv z < 0) := by
  rw [decide_eq_decide]
  unfold cmpI
  rw [if_neg (by rw [rg_zero]; omega), sv_zero]
  split
  · omega
  · split <;> omega

abbrev CmpC (x y : Nat) (c : Int) : Prop := ∀ w, Calls Tryz.prog 45 #[.float .f64 x, .float .f64 y] w fun e w' => e = .returned (.int .i64 c) ∧ w = w'
theorem cmpC (x y : Nat) : CmpC x y (cmpI x y) := fun w => compare_any x y w

set_option maxRecDepth 100000 in
set_option maxHeartbeats 1000000 in
theorem rises_nan1 (u v k : Nat) (w : World) (ht : Env w) (h : CmpC u v 2) :
    Calls Tryz.prog 12 #[.int .u64 u, .int .u64 v, .int .u64 k] w (LawPost w) := by
  have HT := Lib.hid ht
  have HC := Lib.hid h
  clear ht h
  go_enter Tryz.func12, Tryz.ntmps12
  go_wp2_with (first
    | (go_at_call 28; refine (of_any _ _).mono ?_; rintro e w' ⟨rfl, rfl⟩)
    | (go_at_call 23; refine (awake_true _ HT.out).mono ?_; rintro e w1 ⟨rfl, hb0⟩; have HB := Lib.hid hb0; clear hb0)
    | (go_at_call 45; ((with_reducible refine (HC.out _).mono ?_); rintro e w' ⟨rfl, rfl⟩)))
  go_ret
  exact ⟨rfl, HB.out⟩

set_option maxRecDepth 100000 in
set_option maxHeartbeats 1000000 in
theorem rises_nan2 (u v k : Nat) (c : Int) (hc : ((c : Int) == 2) = false) (w : World) (ht : Env w) (h : CmpC u v c) (h2 : CmpC k k 2) :
    Calls Tryz.prog 12 #[.int .u64 u, .int .u64 v, .int .u64 k] w (LawPost w) := by
  have HT := Lib.hid ht
  have HC := Lib.hid h
  have HC2 := Lib.hid h2
  clear ht h h2
  go_enter Tryz.func12, Tryz.ntmps12
  go_wp2_with (first
    | (go_at_call 28; refine (of_any _ _).mono ?_; rintro e w' ⟨rfl, rfl⟩)
    | (go_at_call 23; refine (awake_true _ HT.out).mono ?_; rintro e w1 ⟨rfl, hb0⟩; have HB := Lib.hid hb0; clear hb0)
    | (go_at_call 45; ((with_reducible refine (HC.out _).mono ?_); rintro e w' ⟨rfl, rfl⟩))
    | (go_at_call 45; ((with_reducible refine (HC2.out _).mono ?_); rintro e w' ⟨rfl, rfl⟩)))
  go_ret
  exact ⟨rfl, HB.out⟩


set_option maxRecDepth 100000 in
set_option maxHeartbeats 2000000 in
theorem rises_1 (u v k : Nat) (c g h0 : Int) (hc : ((c : Int) == 2) = false) (hg : ((g : Int) == 2) = false) (hp : decide ((0 : Int) < c) = false) (hn : decide ((h0 : Int) < 0) = false)
    (hx : rg u ≤ cap) (hy : rg v ≤ cap) (hz : rg k ≤ cap) (hxy : sv u ≤ sv v) (hsz : 0 ≤ sv k) (w : World) (ht : Env w) (h : CmpC u v c) (h2 : CmpC k k g) (h3 : CmpC k 0 h0) :
    Calls Tryz.prog 12 #[.int .u64 u, .int .u64 v, .int .u64 k] w (LawPost w) := by
  have HT := Lib.hid ht
  have HC := Lib.hid h
  have HC2 := Lib.hid h2
  have HC3 := Lib.hid h3
  have A1 := Lib.hid (fun w => add_any u k w)
  have A2 := Lib.hid (fun w => add_any v k w)
  have M1 := Lib.hid (fun w => mul_any u k w)
  have M2 := Lib.hid (fun w => mul_any v k w)
  have RS := Lib.hid (fun (a b : Nat) (ha : OpR (Ieee.double.add u k) a) (hb : OpR (Ieee.double.add v k) b) => opr_sum hx hy hz hxy ha hb)
  have RM := Lib.hid (fun (a b : Nat) (ha : OpR (Ieee.double.mul u k) a) (hb : OpR (Ieee.double.mul v k) b) => (opr_mul hx hy hz hxy ha hb).1 hsz)
  clear ht h h2 h3 hx hy hz hxy hsz
  go_enter Tryz.func12, Tryz.ntmps12
  go_wp2_with (first
    | (go_at_call 28; refine (of_any _ _).mono ?_; rintro e w' ⟨rfl, rfl⟩)
    | (go_at_call 23; refine (awake_true _ HT.out).mono ?_; rintro e w1 ⟨rfl, hb0⟩; have HB := Lib.hid hb0; clear hb0)
    | (go_at_call 45; ((with_reducible refine (HC.out _).mono ?_); rintro e w' ⟨rfl, rfl⟩))
    | (go_at_call 45; ((with_reducible refine (HC2.out _).mono ?_); rintro e w' ⟨rfl, rfl⟩))
    | (go_at_call 18; refine (from_any _ _).mono ?_; rintro e w' ⟨rfl, rfl⟩)
    | (go_at_call 45; ((with_reducible refine (HC3.out _).mono ?_); rintro e w' ⟨rfl, rfl⟩))
    | (go_at_call 31; ((with_reducible refine (A1.out _).mono ?_); rintro e w' ⟨z1, n1, rfl, hz1, rfl⟩); have Z1 := Lib.hid hz1; clear hz1)
    | (go_at_call 31; ((with_reducible refine (A2.out _).mono ?_); rintro e w' ⟨z2, n2, rfl, hz2, rfl⟩); have Z2 := Lib.hid hz2; clear hz2)
    | (go_at_call 37; ((with_reducible refine (M1.out _).mono ?_); rintro e w' ⟨z3, n3, rfl, hz3, rfl⟩); have Z3 := Lib.hid hz3; clear hz3)
    | (go_at_call 37; ((with_reducible refine (M2.out _).mono ?_); rintro e w' ⟨z4, n4, rfl, hz4, rfl⟩); have Z4 := Lib.hid hz4; clear hz4)
    | (go_at_call 45; ((with_reducible refine (cmpC z1 z2 _).mono ?_); rintro e w' ⟨rfl, rfl⟩); have F1 := RS.out z1 z2 Z1.out Z2.out; have F3 := ne_one F1)
    | (go_at_call 45; ((with_reducible refine (cmpC _ _ _).mono ?_); rintro e w' ⟨rfl, rfl⟩); first | (have F2 := RM.out z3 z4 Z3.out Z4.out; have F4 := ne_one F2) | skip))
  go_ret
  refine ⟨?_, ?_⟩
  · rfl
  · exact below_drewN HB.out _

set_option maxRecDepth 100000 in
set_option maxHeartbeats 2000000 in
theorem rises_2 (u v k : Nat) (c g h0 : Int) (hc : ((c : Int) == 2) = false) (hg : ((g : Int) == 2) = false) (hp : decide ((0 : Int) < c) = false) (hn : decide ((h0 : Int) < 0) = true)
    (hx : rg u ≤ cap) (hy : rg v ≤ cap) (hz : rg k ≤ cap) (hxy : sv u ≤ sv v) (hsz : sv k < 0) (w : World) (ht : Env w) (h : CmpC u v c) (h2 : CmpC k k g) (h3 : CmpC k 0 h0) :
    Calls Tryz.prog 12 #[.int .u64 u, .int .u64 v, .int .u64 k] w (LawPost w) := by
  have HT := Lib.hid ht
  have HC := Lib.hid h
  have HC2 := Lib.hid h2
  have HC3 := Lib.hid h3
  have A1 := Lib.hid (fun w => add_any u k w)
  have A2 := Lib.hid (fun w => add_any v k w)
  have M1 := Lib.hid (fun w => mul_any u k w)
  have M2 := Lib.hid (fun w => mul_any v k w)
  have RS := Lib.hid (fun (a b : Nat) (ha : OpR (Ieee.double.add u k) a) (hb : OpR (Ieee.double.add v k) b) => opr_sum hx hy hz hxy ha hb)
  have RM := Lib.hid (fun (a b : Nat) (ha : OpR (Ieee.double.mul u k) a) (hb : OpR (Ieee.double.mul v k) b) => (opr_mul hx hy hz hxy ha hb).2 hsz)
  clear ht h h2 h3 hx hy hz hxy hsz
  go_enter Tryz.func12, Tryz.ntmps12
  go_wp2_with (first
    | (go_at_call 28; refine (of_any _ _).mono ?_; rintro e w' ⟨rfl, rfl⟩)
    | (go_at_call 23; refine (awake_true _ HT.out).mono ?_; rintro e w1 ⟨rfl, hb0⟩; have HB := Lib.hid hb0; clear hb0)
    | (go_at_call 45; ((with_reducible refine (HC.out _).mono ?_); rintro e w' ⟨rfl, rfl⟩))
    | (go_at_call 45; ((with_reducible refine (HC2.out _).mono ?_); rintro e w' ⟨rfl, rfl⟩))
    | (go_at_call 18; refine (from_any _ _).mono ?_; rintro e w' ⟨rfl, rfl⟩)
    | (go_at_call 45; ((with_reducible refine (HC3.out _).mono ?_); rintro e w' ⟨rfl, rfl⟩))
    | (go_at_call 31; ((with_reducible refine (A1.out _).mono ?_); rintro e w' ⟨z1, n1, rfl, hz1, rfl⟩); have Z1 := Lib.hid hz1; clear hz1)
    | (go_at_call 31; ((with_reducible refine (A2.out _).mono ?_); rintro e w' ⟨z2, n2, rfl, hz2, rfl⟩); have Z2 := Lib.hid hz2; clear hz2)
    | (go_at_call 37; ((with_reducible refine (M1.out _).mono ?_); rintro e w' ⟨z3, n3, rfl, hz3, rfl⟩); have Z3 := Lib.hid hz3; clear hz3)
    | (go_at_call 37; ((with_reducible refine (M2.out _).mono ?_); rintro e w' ⟨z4, n4, rfl, hz4, rfl⟩); have Z4 := Lib.hid hz4; clear hz4)
    | (go_at_call 45; ((with_reducible refine (cmpC z1 z2 _).mono ?_); rintro e w' ⟨rfl, rfl⟩); have F1 := RS.out z1 z2 Z1.out Z2.out; have F3 := ne_one F1)
    | (go_at_call 45; ((with_reducible refine (cmpC _ _ _).mono ?_); rintro e w' ⟨rfl, rfl⟩); first | (have F2 := RM.out z3 z4 Z3.out Z4.out; have F4 := ne_one F2) | skip))
  go_ret
  refine ⟨?_, ?_⟩
  · rfl
  · exact below_drewN HB.out _

set_option maxRecDepth 100000 in
set_option maxHeartbeats 2000000 in
theorem rises_3 (u v k : Nat) (c g h0 : Int) (hc : ((c : Int) == 2) = false) (hg : ((g : Int) == 2) = false) (hp : decide ((0 : Int) < c) = true) (hn : decide ((h0 : Int) < 0) = false)
    (hx : rg v ≤ cap) (hy : rg u ≤ cap) (hz : rg k ≤ cap) (hxy : sv v ≤ sv u) (hsz : 0 ≤ sv k) (w : World) (ht : Env w) (h : CmpC u v c) (h2 : CmpC k k g) (h3 : CmpC k 0 h0) :
    Calls Tryz.prog 12 #[.int .u64 u, .int .u64 v, .int .u64 k] w (LawPost w) := by
  have HT := Lib.hid ht
  have HC := Lib.hid h
  have HC2 := Lib.hid h2
  have HC3 := Lib.hid h3
  have A1 := Lib.hid (fun w => add_any v k w)
  have A2 := Lib.hid (fun w => add_any u k w)
  have M1 := Lib.hid (fun w => mul_any v k w)
  have M2 := Lib.hid (fun w => mul_any u k w)
  have RS := Lib.hid (fun (a b : Nat) (ha : OpR (Ieee.double.add v k) a) (hb : OpR (Ieee.double.add u k) b) => opr_sum hx hy hz hxy ha hb)
  have RM := Lib.hid (fun (a b : Nat) (ha : OpR (Ieee.double.mul v k) a) (hb : OpR (Ieee.double.mul u k) b) => (opr_mul hx hy hz hxy ha hb).1 hsz)
  clear ht h h2 h3 hx hy hz hxy hsz
  go_enter Tryz.func12, Tryz.ntmps12
  go_wp2_with (first
    | (go_at_call 28; refine (of_any _ _).mono ?_; rintro e w' ⟨rfl, rfl⟩)
    | (go_at_call 23; refine (awake_true _ HT.out).mono ?_; rintro e w1 ⟨rfl, hb0⟩; have HB := Lib.hid hb0; clear hb0)
    | (go_at_call 45; ((with_reducible refine (HC.out _).mono ?_); rintro e w' ⟨rfl, rfl⟩))
    | (go_at_call 45; ((with_reducible refine (HC2.out _).mono ?_); rintro e w' ⟨rfl, rfl⟩))
    | (go_at_call 18; refine (from_any _ _).mono ?_; rintro e w' ⟨rfl, rfl⟩)
    | (go_at_call 45; ((with_reducible refine (HC3.out _).mono ?_); rintro e w' ⟨rfl, rfl⟩))
    | (go_at_call 31; ((with_reducible refine (A1.out _).mono ?_); rintro e w' ⟨z1, n1, rfl, hz1, rfl⟩); have Z1 := Lib.hid hz1; clear hz1)
    | (go_at_call 31; ((with_reducible refine (A2.out _).mono ?_); rintro e w' ⟨z2, n2, rfl, hz2, rfl⟩); have Z2 := Lib.hid hz2; clear hz2)
    | (go_at_call 37; ((with_reducible refine (M1.out _).mono ?_); rintro e w' ⟨z3, n3, rfl, hz3, rfl⟩); have Z3 := Lib.hid hz3; clear hz3)
    | (go_at_call 37; ((with_reducible refine (M2.out _).mono ?_); rintro e w' ⟨z4, n4, rfl, hz4, rfl⟩); have Z4 := Lib.hid hz4; clear hz4)
    | (go_at_call 45; ((with_reducible refine (cmpC z1 z2 _).mono ?_); rintro e w' ⟨rfl, rfl⟩); have F1 := RS.out z1 z2 Z1.out Z2.out; have F3 := ne_one F1)
    | (go_at_call 45; ((with_reducible refine (cmpC _ _ _).mono ?_); rintro e w' ⟨rfl, rfl⟩); first | (have F2 := RM.out z3 z4 Z3.out Z4.out; have F4 := ne_one F2) | skip))
  go_ret
  refine ⟨?_, ?_⟩
  · rfl
  · exact below_drewN HB.out _

set_option maxRecDepth 100000 in
set_option maxHeartbeats 2000000 in
theorem rises_4 (u v k : Nat) (c g h0 : Int) (hc : ((c : Int) == 2) = false) (hg : ((g : Int) == 2) = false) (hp : decide ((0 : Int) < c) = true) (hn : decide ((h0 : Int) < 0) = true)
    (hx : rg v ≤ cap) (hy : rg u ≤ cap) (hz : rg k ≤ cap) (hxy : sv v ≤ sv u) (hsz : sv k < 0) (w : World) (ht : Env w) (h : CmpC u v c) (h2 : CmpC k k g) (h3 : CmpC k 0 h0) :
    Calls Tryz.prog 12 #[.int .u64 u, .int .u64 v, .int .u64 k] w (LawPost w) := by
  have HT := Lib.hid ht
  have HC := Lib.hid h
  have HC2 := Lib.hid h2
  have HC3 := Lib.hid h3
  have A1 := Lib.hid (fun w => add_any v k w)
  have A2 := Lib.hid (fun w => add_any u k w)
  have M1 := Lib.hid (fun w => mul_any v k w)
  have M2 := Lib.hid (fun w => mul_any u k w)
  have RS := Lib.hid (fun (a b : Nat) (ha : OpR (Ieee.double.add v k) a) (hb : OpR (Ieee.double.add u k) b) => opr_sum hx hy hz hxy ha hb)
  have RM := Lib.hid (fun (a b : Nat) (ha : OpR (Ieee.double.mul v k) a) (hb : OpR (Ieee.double.mul u k) b) => (opr_mul hx hy hz hxy ha hb).2 hsz)
  clear ht h h2 h3 hx hy hz hxy hsz
  go_enter Tryz.func12, Tryz.ntmps12
  go_wp2_with (first
    | (go_at_call 28; refine (of_any _ _).mono ?_; rintro e w' ⟨rfl, rfl⟩)
    | (go_at_call 23; refine (awake_true _ HT.out).mono ?_; rintro e w1 ⟨rfl, hb0⟩; have HB := Lib.hid hb0; clear hb0)
    | (go_at_call 45; ((with_reducible refine (HC.out _).mono ?_); rintro e w' ⟨rfl, rfl⟩))
    | (go_at_call 45; ((with_reducible refine (HC2.out _).mono ?_); rintro e w' ⟨rfl, rfl⟩))
    | (go_at_call 18; refine (from_any _ _).mono ?_; rintro e w' ⟨rfl, rfl⟩)
    | (go_at_call 45; ((with_reducible refine (HC3.out _).mono ?_); rintro e w' ⟨rfl, rfl⟩))
    | (go_at_call 31; ((with_reducible refine (A1.out _).mono ?_); rintro e w' ⟨z1, n1, rfl, hz1, rfl⟩); have Z1 := Lib.hid hz1; clear hz1)
    | (go_at_call 31; ((with_reducible refine (A2.out _).mono ?_); rintro e w' ⟨z2, n2, rfl, hz2, rfl⟩); have Z2 := Lib.hid hz2; clear hz2)
    | (go_at_call 37; ((with_reducible refine (M1.out _).mono ?_); rintro e w' ⟨z3, n3, rfl, hz3, rfl⟩); have Z3 := Lib.hid hz3; clear hz3)
    | (go_at_call 37; ((with_reducible refine (M2.out _).mono ?_); rintro e w' ⟨z4, n4, rfl, hz4, rfl⟩); have Z4 := Lib.hid hz4; clear hz4)
    | (go_at_call 45; ((with_reducible refine (cmpC z1 z2 _).mono ?_); rintro e w' ⟨rfl, rfl⟩); have F1 := RS.out z1 z2 Z1.out Z2.out; have F3 := ne_one F1)
    | (go_at_call 45; ((with_reducible refine (cmpC _ _ _).mono ?_); rintro e w' ⟨rfl, rfl⟩); first | (have F2 := RM.out z3 z4 Z3.out Z4.out; have F4 := ne_one F2) | skip))
  go_ret
  refine ⟨?_, ?_⟩
  · rfl
  · exact below_drewN HB.out _

theorem law_rises (u v k : Nat) (w : World) (ht : Env w) :
    Calls Tryz.prog 12 #[.int .u64 u, .int .u64 v, .int .u64 k] w (LawPost w) := by
  have two : ∀ {x y : Nat}, ¬ (cap < rg x ∨ cap < rg y) → ((cmpI x y : Int) == 2) = false := fun h => by rw [beq_eq_false_iff_ne]; exact fun e => h ((cmpI_two _ _).1 e)
  by_cases h1 : cap < rg u ∨ cap < rg v
  · refine rises_nan1 u v k w ht ?_
    have := cmpC u v
    rwa [(cmpI_two u v).2 h1] at this
  by_cases h2 : cap < rg k
  · refine rises_nan2 u v k _ (two h1) w ht (cmpC u v) ?_
    have := cmpC k k
    rwa [(cmpI_two k k).2 (.inl h2)] at this
  have hz : rg k ≤ cap := by omega
  have hs := cmp_zero hz
  have hord : ∀ {x y : Nat}, ¬ (cap < rg x ∨ cap < rg y) → (decide ((0 : Int) < cmpI x y) = false → sv x ≤ sv y) ∧ (decide ((0 : Int) < cmpI x y) = true → sv y ≤ sv x) := by
    intro x y h
    unfold cmpI
    rw [if_neg h]
    split
    · exact ⟨fun _ => by omega, fun h => by simp at h⟩
    · split
      · exact ⟨fun h => by simp at h, fun _ => by omega⟩
      · exact ⟨fun _ => by omega, fun h => by simp at h⟩
  cases hp : decide ((0 : Int) < cmpI u v) with
  | false =>
    have ho := (hord h1).1 hp
    cases hn : decide (cmpI k 0 < 0) with
    | false => exact rises_1 u v k _ _ _ (two h1) (two (by omega)) hp hn (by omega) (by omega) hz ho (by rw [hn] at hs; have := of_decide_eq_false hs.symm; omega) w ht (cmpC u v) (cmpC k k) (cmpC k 0)
    | true => exact rises_2 u v k _ _ _ (two h1) (two (by omega)) hp hn (by omega) (by omega) hz ho (by rw [hn] at hs; exact of_decide_eq_true hs.symm) w ht (cmpC u v) (cmpC k k) (cmpC k 0)
  | true =>
    have ho := (hord h1).2 hp
    cases hn : decide (cmpI k 0 < 0) with
    | false => exact rises_3 u v k _ _ _ (two h1) (two (by omega)) hp hn (by omega) (by omega) hz ho (by rw [hn] at hs; have := of_decide_eq_false hs.symm; omega) w ht (cmpC u v) (cmpC k k) (cmpC k 0)
    | true => exact rises_4 u v k _ _ _ (two h1) (two (by omega)) hp hn (by omega) (by omega) hz ho (by rw [hn] at hs; exact of_decide_eq_true hs.symm) w ht (cmpC u v) (cmpC k k) (cmpC k 0)
end Go.Proofs.YtceoapkkmgllaaaGreatDoor
