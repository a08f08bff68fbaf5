/- The law FloLine. -/
import Derived.Test.YtceoapkkmgllaaaGreatDoorFloSigns
namespace Go.Proofs.YtceoapkkmgllaaaGreatDoor
open Go.RowKit FloM

/-- The order of reals is one. -/
theorem line_num (u v k : Nat) (h1 : ¬ cap < rg u) (h2 : ¬ cap < rg v) (h3 : ¬ cap < rg k) :
    cmpI v u = - cmpI u v ∧
    ((cmpI u v = -1 ∧ cmpI v k = -1 ∧ cmpI u k = -1) ∨ (cmpI u v = -1 ∧ cmpI v k = 0 ∧ cmpI u k = -1) ∨ (cmpI u v = -1 ∧ cmpI v k = 1 ∧ (cmpI u k = -1 ∨ cmpI u k = 0 ∨ cmpI u k = 1)) ∨
     (cmpI u v = 0 ∧ cmpI v k = -1 ∧ cmpI u k = -1) ∨ (cmpI u v = 0 ∧ cmpI v k = 0 ∧ cmpI u k = 0) ∨ (cmpI u v = 0 ∧ cmpI v k = 1 ∧ cmpI u k = 1) ∨
     (cmpI u v = 1 ∧ cmpI v k = -1 ∧ (cmpI u k = -1 ∨ cmpI u k = 0 ∨ cmpI u k = 1)) ∨ (cmpI u v = 1 ∧ cmpI v k = 0 ∧ cmpI u k = 1) ∨ (cmpI u v = 1 ∧ cmpI v k = 1 ∧ cmpI u k = 1)) := by
  unfold cmpI
  simp only [h1, h2, h3, or_self, if_false]
  generalize sv u = x
  generalize sv v = y
  generalize sv k = z
  rcases Int.lt_trichotomy x y with a | a | a <;> rcases Int.lt_trichotomy y z with b | b | b <;> rcases Int.lt_trichotomy x z with c | c | c <;> (try omega) <;> (repeat' first | rw [if_pos (by omega)] | rw [if_neg (by omega)]) <;> omega

set_option maxRecDepth 100000 in
set_option maxHeartbeats 1000000 in
theorem line_w1 (u v k : Nat) (b : Int) (C1 : ∀ w, Calls Tryz.prog 45 #[.float .f64 u, .float .f64 v] w fun e w' => e = .returned (.int .i64 2) ∧ w = w') (C2 : ∀ w, Calls Tryz.prog 45 #[.float .f64 v, .float .f64 k] w fun e w' => e = .returned (.int .i64 b) ∧ w = w') (C3 : ∀ w, Calls Tryz.prog 45 #[.float .f64 u, .float .f64 k] w fun e w' => e = .returned (.int .i64 2) ∧ w = w') (N1 : ∀ w, Calls Tryz.prog 19 #[.int .u64 u] w fun e w' => e = .returned (.bool true) ∧ w = w') (w : World) (ht : Env w) :
    Calls Tryz.prog 11 #[.int .u64 u, .int .u64 v, .int .u64 k] w (LawPost w) := by
  have HC1 := Lib.hid C1
  clear C1
  have HC2 := Lib.hid C2
  clear C2
  have HC3 := Lib.hid C3
  clear C3
  have HN1 := Lib.hid N1
  clear N1
  have HT := Lib.hid ht
  clear ht
  go_enter Tryz.func11, Tryz.ntmps11
  go_wp2_with (first
    | (go_at_call 28; refine (of_any _ _).mono ?_; rintro e w' ⟨rfl, rfl⟩)
    | (go_at_call 45; ((with_reducible refine (HC1.out _).mono ?_); rintro e w' ⟨rfl, rfl⟩))
    | (go_at_call 45; ((with_reducible refine (HC2.out _).mono ?_); rintro e w' ⟨rfl, rfl⟩))
    | (go_at_call 45; ((with_reducible refine (HC3.out _).mono ?_); rintro e w' ⟨rfl, rfl⟩))
    | (go_at_call 19; ((with_reducible refine (HN1.out _).mono ?_); rintro e w' ⟨rfl, rfl⟩))
    | (go_at_call 23; refine (awake_true _ HT.out).mono ?_; rintro e w1 ⟨rfl, hb⟩))
  go_ret
  exact ⟨rfl, hb⟩

set_option maxRecDepth 100000 in
set_option maxHeartbeats 1000000 in
theorem line_w2 (u v k : Nat) (c : Int) (C1 : ∀ w, Calls Tryz.prog 45 #[.float .f64 u, .float .f64 v] w fun e w' => e = .returned (.int .i64 2) ∧ w = w') (C2 : ∀ w, Calls Tryz.prog 45 #[.float .f64 v, .float .f64 k] w fun e w' => e = .returned (.int .i64 2) ∧ w = w') (C3 : ∀ w, Calls Tryz.prog 45 #[.float .f64 u, .float .f64 k] w fun e w' => e = .returned (.int .i64 c) ∧ w = w') (N1 : ∀ w, Calls Tryz.prog 19 #[.int .u64 u] w fun e w' => e = .returned (.bool false) ∧ w = w') (N2 : ∀ w, Calls Tryz.prog 19 #[.int .u64 v] w fun e w' => e = .returned (.bool true) ∧ w = w') (w : World) (ht : Env w) :
    Calls Tryz.prog 11 #[.int .u64 u, .int .u64 v, .int .u64 k] w (LawPost w) := by
  have HC1 := Lib.hid C1
  clear C1
  have HC2 := Lib.hid C2
  clear C2
  have HC3 := Lib.hid C3
  clear C3
  have HN1 := Lib.hid N1
  clear N1
  have HN2 := Lib.hid N2
  clear N2
  have HT := Lib.hid ht
  clear ht
  go_enter Tryz.func11, Tryz.ntmps11
  go_wp2_with (first
    | (go_at_call 28; refine (of_any _ _).mono ?_; rintro e w' ⟨rfl, rfl⟩)
    | (go_at_call 45; ((with_reducible refine (HC1.out _).mono ?_); rintro e w' ⟨rfl, rfl⟩))
    | (go_at_call 45; ((with_reducible refine (HC2.out _).mono ?_); rintro e w' ⟨rfl, rfl⟩))
    | (go_at_call 45; ((with_reducible refine (HC3.out _).mono ?_); rintro e w' ⟨rfl, rfl⟩))
    | (go_at_call 19; ((with_reducible refine (HN1.out _).mono ?_); rintro e w' ⟨rfl, rfl⟩))
    | (go_at_call 19; ((with_reducible refine (HN2.out _).mono ?_); rintro e w' ⟨rfl, rfl⟩))
    | (go_at_call 23; refine (awake_true _ HT.out).mono ?_; rintro e w1 ⟨rfl, hb⟩))
  go_ret
  exact ⟨rfl, hb⟩

set_option maxRecDepth 100000 in
set_option maxHeartbeats 1000000 in
theorem line_w3 (u v k : Nat) (a : Int) (ha : ((a : Int) == 2) = false) (C1 : ∀ w, Calls Tryz.prog 45 #[.float .f64 u, .float .f64 v] w fun e w' => e = .returned (.int .i64 a) ∧ w = w') (C2 : ∀ w, Calls Tryz.prog 45 #[.float .f64 v, .float .f64 k] w fun e w' => e = .returned (.int .i64 2) ∧ w = w') (C3 : ∀ w, Calls Tryz.prog 45 #[.float .f64 u, .float .f64 k] w fun e w' => e = .returned (.int .i64 2) ∧ w = w') (N1 : ∀ w, Calls Tryz.prog 19 #[.int .u64 u] w fun e w' => e = .returned (.bool false) ∧ w = w') (N2 : ∀ w, Calls Tryz.prog 19 #[.int .u64 v] w fun e w' => e = .returned (.bool false) ∧ w = w') (N3 : ∀ w, Calls Tryz.prog 19 #[.int .u64 k] w fun e w' => e = .returned (.bool true) ∧ w = w') (w : World) (ht : Env w) :
    Calls Tryz.prog 11 #[.int .u64 u, .int .u64 v, .int .u64 k] w (LawPost w) := by
  have HC1 := Lib.hid C1
  clear C1
  have HC2 := Lib.hid C2
  clear C2
  have HC3 := Lib.hid C3
  clear C3
  have HN1 := Lib.hid N1
  clear N1
  have HN2 := Lib.hid N2
  clear N2
  have HN3 := Lib.hid N3
  clear N3
  have HT := Lib.hid ht
  clear ht
  go_enter Tryz.func11, Tryz.ntmps11
  go_wp2_with (first
    | (go_at_call 28; refine (of_any _ _).mono ?_; rintro e w' ⟨rfl, rfl⟩)
    | (go_at_call 45; ((with_reducible refine (HC1.out _).mono ?_); rintro e w' ⟨rfl, rfl⟩))
    | (go_at_call 45; ((with_reducible refine (HC2.out _).mono ?_); rintro e w' ⟨rfl, rfl⟩))
    | (go_at_call 45; ((with_reducible refine (HC3.out _).mono ?_); rintro e w' ⟨rfl, rfl⟩))
    | (go_at_call 19; ((with_reducible refine (HN1.out _).mono ?_); rintro e w' ⟨rfl, rfl⟩))
    | (go_at_call 19; ((with_reducible refine (HN2.out _).mono ?_); rintro e w' ⟨rfl, rfl⟩))
    | (go_at_call 19; ((with_reducible refine (HN3.out _).mono ?_); rintro e w' ⟨rfl, rfl⟩))
    | (go_at_call 23; refine (awake_true _ HT.out).mono ?_; rintro e w1 ⟨rfl, hb⟩))
  go_ret
  exact ⟨rfl, hb⟩

set_option maxRecDepth 100000 in
set_option maxHeartbeats 1000000 in
theorem line_n0 (u v k : Nat) (C1 : ∀ w, Calls Tryz.prog 45 #[.float .f64 u, .float .f64 v] w fun e w' => e = .returned (.int .i64 (-1)) ∧ w = w') (C2 : ∀ w, Calls Tryz.prog 45 #[.float .f64 v, .float .f64 k] w fun e w' => e = .returned (.int .i64 (-1)) ∧ w = w') (C3 : ∀ w, Calls Tryz.prog 45 #[.float .f64 u, .float .f64 k] w fun e w' => e = .returned (.int .i64 (-1)) ∧ w = w') (C4 : ∀ w, Calls Tryz.prog 45 #[.float .f64 v, .float .f64 u] w fun e w' => e = .returned (.int .i64 (1)) ∧ w = w') (w : World) (ht : Env w) :
    Calls Tryz.prog 11 #[.int .u64 u, .int .u64 v, .int .u64 k] w (LawPost w) := by
  have HC1 := Lib.hid C1
  clear C1
  have HC2 := Lib.hid C2
  clear C2
  have HC3 := Lib.hid C3
  clear C3
  have HC4 := Lib.hid C4
  clear C4
  have HT := Lib.hid ht
  clear ht
  go_enter Tryz.func11, Tryz.ntmps11
  go_wp2_with (first
    | (go_at_call 28; refine (of_any _ _).mono ?_; rintro e w' ⟨rfl, rfl⟩)
    | (go_at_call 45; ((with_reducible refine (HC1.out _).mono ?_); rintro e w' ⟨rfl, rfl⟩))
    | (go_at_call 45; ((with_reducible refine (HC2.out _).mono ?_); rintro e w' ⟨rfl, rfl⟩))
    | (go_at_call 45; ((with_reducible refine (HC3.out _).mono ?_); rintro e w' ⟨rfl, rfl⟩))
    | (go_at_call 45; ((with_reducible refine (HC4.out _).mono ?_); rintro e w' ⟨rfl, rfl⟩))
    | (go_at_call 23; refine (awake_true _ HT.out).mono ?_; rintro e w1 ⟨rfl, hb⟩))
  go_ret
  exact ⟨rfl, hb⟩

set_option maxRecDepth 100000 in
set_option maxHeartbeats 1000000 in
theorem line_n1 (u v k : Nat) (C1 : ∀ w, Calls Tryz.prog 45 #[.float .f64 u, .float .f64 v] w fun e w' => e = .returned (.int .i64 (-1)) ∧ w = w') (C2 : ∀ w, Calls Tryz.prog 45 #[.float .f64 v, .float .f64 k] w fun e w' => e = .returned (.int .i64 (0)) ∧ w = w') (C3 : ∀ w, Calls Tryz.prog 45 #[.float .f64 u, .float .f64 k] w fun e w' => e = .returned (.int .i64 (-1)) ∧ w = w') (C4 : ∀ w, Calls Tryz.prog 45 #[.float .f64 v, .float .f64 u] w fun e w' => e = .returned (.int .i64 (1)) ∧ w = w') (w : World) (ht : Env w) :
    Calls Tryz.prog 11 #[.int .u64 u, .int .u64 v, .int .u64 k] w (LawPost w) := by
  have HC1 := Lib.hid C1
  clear C1
  have HC2 := Lib.hid C2
  clear C2
  have HC3 := Lib.hid C3
  clear C3
  have HC4 := Lib.hid C4
  clear C4
  have HT := Lib.hid ht
  clear ht
  go_enter Tryz.func11, Tryz.ntmps11
  go_wp2_with (first
    | (go_at_call 28; refine (of_any _ _).mono ?_; rintro e w' ⟨rfl, rfl⟩)
    | (go_at_call 45; ((with_reducible refine (HC1.out _).mono ?_); rintro e w' ⟨rfl, rfl⟩))
    | (go_at_call 45; ((with_reducible refine (HC2.out _).mono ?_); rintro e w' ⟨rfl, rfl⟩))
    | (go_at_call 45; ((with_reducible refine (HC3.out _).mono ?_); rintro e w' ⟨rfl, rfl⟩))
    | (go_at_call 45; ((with_reducible refine (HC4.out _).mono ?_); rintro e w' ⟨rfl, rfl⟩))
    | (go_at_call 23; refine (awake_true _ HT.out).mono ?_; rintro e w1 ⟨rfl, hb⟩))
  go_ret
  exact ⟨rfl, hb⟩

set_option maxRecDepth 100000 in
set_option maxHeartbeats 1000000 in
theorem line_n2 (u v k : Nat) (C1 : ∀ w, Calls Tryz.prog 45 #[.float .f64 u, .float .f64 v] w fun e w' => e = .returned (.int .i64 (-1)) ∧ w = w') (C2 : ∀ w, Calls Tryz.prog 45 #[.float .f64 v, .float .f64 k] w fun e w' => e = .returned (.int .i64 (1)) ∧ w = w') (C3 : ∀ w, Calls Tryz.prog 45 #[.float .f64 u, .float .f64 k] w fun e w' => e = .returned (.int .i64 (-1)) ∧ w = w') (C4 : ∀ w, Calls Tryz.prog 45 #[.float .f64 v, .float .f64 u] w fun e w' => e = .returned (.int .i64 (1)) ∧ w = w') (w : World) (ht : Env w) :
    Calls Tryz.prog 11 #[.int .u64 u, .int .u64 v, .int .u64 k] w (LawPost w) := by
  have HC1 := Lib.hid C1
  clear C1
  have HC2 := Lib.hid C2
  clear C2
  have HC3 := Lib.hid C3
  clear C3
  have HC4 := Lib.hid C4
  clear C4
  have HT := Lib.hid ht
  clear ht
  go_enter Tryz.func11, Tryz.ntmps11
  go_wp2_with (first
    | (go_at_call 28; refine (of_any _ _).mono ?_; rintro e w' ⟨rfl, rfl⟩)
    | (go_at_call 45; ((with_reducible refine (HC1.out _).mono ?_); rintro e w' ⟨rfl, rfl⟩))
    | (go_at_call 45; ((with_reducible refine (HC2.out _).mono ?_); rintro e w' ⟨rfl, rfl⟩))
    | (go_at_call 45; ((with_reducible refine (HC3.out _).mono ?_); rintro e w' ⟨rfl, rfl⟩))
    | (go_at_call 45; ((with_reducible refine (HC4.out _).mono ?_); rintro e w' ⟨rfl, rfl⟩))
    | (go_at_call 23; refine (awake_true _ HT.out).mono ?_; rintro e w1 ⟨rfl, hb⟩))
  go_ret
  exact ⟨rfl, hb⟩

set_option maxRecDepth 100000 in
set_option maxHeartbeats 1000000 in
theorem line_n3 (u v k : Nat) (C1 : ∀ w, Calls Tryz.prog 45 #[.float .f64 u, .float .f64 v] w fun e w' => e = .returned (.int .i64 (-1)) ∧ w = w') (C2 : ∀ w, Calls Tryz.prog 45 #[.float .f64 v, .float .f64 k] w fun e w' => e = .returned (.int .i64 (1)) ∧ w = w') (C3 : ∀ w, Calls Tryz.prog 45 #[.float .f64 u, .float .f64 k] w fun e w' => e = .returned (.int .i64 (0)) ∧ w = w') (C4 : ∀ w, Calls Tryz.prog 45 #[.float .f64 v, .float .f64 u] w fun e w' => e = .returned (.int .i64 (1)) ∧ w = w') (w : World) (ht : Env w) :
    Calls Tryz.prog 11 #[.int .u64 u, .int .u64 v, .int .u64 k] w (LawPost w) := by
  have HC1 := Lib.hid C1
  clear C1
  have HC2 := Lib.hid C2
  clear C2
  have HC3 := Lib.hid C3
  clear C3
  have HC4 := Lib.hid C4
  clear C4
  have HT := Lib.hid ht
  clear ht
  go_enter Tryz.func11, Tryz.ntmps11
  go_wp2_with (first
    | (go_at_call 28; refine (of_any _ _).mono ?_; rintro e w' ⟨rfl, rfl⟩)
    | (go_at_call 45; ((with_reducible refine (HC1.out _).mono ?_); rintro e w' ⟨rfl, rfl⟩))
    | (go_at_call 45; ((with_reducible refine (HC2.out _).mono ?_); rintro e w' ⟨rfl, rfl⟩))
    | (go_at_call 45; ((with_reducible refine (HC3.out _).mono ?_); rintro e w' ⟨rfl, rfl⟩))
    | (go_at_call 45; ((with_reducible refine (HC4.out _).mono ?_); rintro e w' ⟨rfl, rfl⟩))
    | (go_at_call 23; refine (awake_true _ HT.out).mono ?_; rintro e w1 ⟨rfl, hb⟩))
  go_ret
  exact ⟨rfl, hb⟩

set_option maxRecDepth 100000 in
set_option maxHeartbeats 1000000 in
theorem line_n4 (u v k : Nat) (C1 : ∀ w, Calls Tryz.prog 45 #[.float .f64 u, .float .f64 v] w fun e w' => e = .returned (.int .i64 (-1)) ∧ w = w') (C2 : ∀ w, Calls Tryz.prog 45 #[.float .f64 v, .float .f64 k] w fun e w' => e = .returned (.int .i64 (1)) ∧ w = w') (C3 : ∀ w, Calls Tryz.prog 45 #[.float .f64 u, .float .f64 k] w fun e w' => e = .returned (.int .i64 (1)) ∧ w = w') (C4 : ∀ w, Calls Tryz.prog 45 #[.float .f64 v, .float .f64 u] w fun e w' => e = .returned (.int .i64 (1)) ∧ w = w') (w : World) (ht : Env w) :
    Calls Tryz.prog 11 #[.int .u64 u, .int .u64 v, .int .u64 k] w (LawPost w) := by
  have HC1 := Lib.hid C1
  clear C1
  have HC2 := Lib.hid C2
  clear C2
  have HC3 := Lib.hid C3
  clear C3
  have HC4 := Lib.hid C4
  clear C4
  have HT := Lib.hid ht
  clear ht
  go_enter Tryz.func11, Tryz.ntmps11
  go_wp2_with (first
    | (go_at_call 28; refine (of_any _ _).mono ?_; rintro e w' ⟨rfl, rfl⟩)
    | (go_at_call 45; ((with_reducible refine (HC1.out _).mono ?_); rintro e w' ⟨rfl, rfl⟩))
    | (go_at_call 45; ((with_reducible refine (HC2.out _).mono ?_); rintro e w' ⟨rfl, rfl⟩))
    | (go_at_call 45; ((with_reducible refine (HC3.out _).mono ?_); rintro e w' ⟨rfl, rfl⟩))
    | (go_at_call 45; ((with_reducible refine (HC4.out _).mono ?_); rintro e w' ⟨rfl, rfl⟩))
    | (go_at_call 23; refine (awake_true _ HT.out).mono ?_; rintro e w1 ⟨rfl, hb⟩))
  go_ret
  exact ⟨rfl, hb⟩

set_option maxRecDepth 100000 in
set_option maxHeartbeats 1000000 in
theorem line_n5 (u v k : Nat) (C1 : ∀ w, Calls Tryz.prog 45 #[.float .f64 u, .float .f64 v] w fun e w' => e = .returned (.int .i64 (0)) ∧ w = w') (C2 : ∀ w, Calls Tryz.prog 45 #[.float .f64 v, .float .f64 k] w fun e w' => e = .returned (.int .i64 (-1)) ∧ w = w') (C3 : ∀ w, Calls Tryz.prog 45 #[.float .f64 u, .float .f64 k] w fun e w' => e = .returned (.int .i64 (-1)) ∧ w = w') (C4 : ∀ w, Calls Tryz.prog 45 #[.float .f64 v, .float .f64 u] w fun e w' => e = .returned (.int .i64 (0)) ∧ w = w') (w : World) (ht : Env w) :
    Calls Tryz.prog 11 #[.int .u64 u, .int .u64 v, .int .u64 k] w (LawPost w) := by
  have HC1 := Lib.hid C1
  clear C1
  have HC2 := Lib.hid C2
  clear C2
  have HC3 := Lib.hid C3
  clear C3
  have HC4 := Lib.hid C4
  clear C4
  have HT := Lib.hid ht
  clear ht
  go_enter Tryz.func11, Tryz.ntmps11
  go_wp2_with (first
    | (go_at_call 28; refine (of_any _ _).mono ?_; rintro e w' ⟨rfl, rfl⟩)
    | (go_at_call 45; ((with_reducible refine (HC1.out _).mono ?_); rintro e w' ⟨rfl, rfl⟩))
    | (go_at_call 45; ((with_reducible refine (HC2.out _).mono ?_); rintro e w' ⟨rfl, rfl⟩))
    | (go_at_call 45; ((with_reducible refine (HC3.out _).mono ?_); rintro e w' ⟨rfl, rfl⟩))
    | (go_at_call 45; ((with_reducible refine (HC4.out _).mono ?_); rintro e w' ⟨rfl, rfl⟩))
    | (go_at_call 23; refine (awake_true _ HT.out).mono ?_; rintro e w1 ⟨rfl, hb⟩))
  go_ret
  exact ⟨rfl, hb⟩

set_option maxRecDepth 100000 in
set_option maxHeartbeats 1000000 in
theorem line_n6 (u v k : Nat) (C1 : ∀ w, Calls Tryz.prog 45 #[.float .f64 u, .float .f64 v] w fun e w' => e = .returned (.int .i64 (0)) ∧ w = w') (C2 : ∀ w, Calls Tryz.prog 45 #[.float .f64 v, .float .f64 k] w fun e w' => e = .returned (.int .i64 (0)) ∧ w = w') (C3 : ∀ w, Calls Tryz.prog 45 #[.float .f64 u, .float .f64 k] w fun e w' => e = .returned (.int .i64 (0)) ∧ w = w') (C4 : ∀ w, Calls Tryz.prog 45 #[.float .f64 v, .float .f64 u] w fun e w' => e = .returned (.int .i64 (0)) ∧ w = w') (w : World) (ht : Env w) :
    Calls Tryz.prog 11 #[.int .u64 u, .int .u64 v, .int .u64 k] w (LawPost w) := by
  have HC1 := Lib.hid C1
  clear C1
  have HC2 := Lib.hid C2
  clear C2
  have HC3 := Lib.hid C3
  clear C3
  have HC4 := Lib.hid C4
  clear C4
  have HT := Lib.hid ht
  clear ht
  go_enter Tryz.func11, Tryz.ntmps11
  go_wp2_with (first
    | (go_at_call 28; refine (of_any _ _).mono ?_; rintro e w' ⟨rfl, rfl⟩)
    | (go_at_call 45; ((with_reducible refine (HC1.out _).mono ?_); rintro e w' ⟨rfl, rfl⟩))
    | (go_at_call 45; ((with_reducible refine (HC2.out _).mono ?_); rintro e w' ⟨rfl, rfl⟩))
    | (go_at_call 45; ((with_reducible refine (HC3.out _).mono ?_); rintro e w' ⟨rfl, rfl⟩))
    | (go_at_call 45; ((with_reducible refine (HC4.out _).mono ?_); rintro e w' ⟨rfl, rfl⟩))
    | (go_at_call 23; refine (awake_true _ HT.out).mono ?_; rintro e w1 ⟨rfl, hb⟩))
  go_ret
  exact ⟨rfl, hb⟩

set_option maxRecDepth 100000 in
set_option maxHeartbeats 1000000 in
theorem line_n7 (u v k : Nat) (C1 : ∀ w, Calls Tryz.prog 45 #[.float .f64 u, .float .f64 v] w fun e w' => e = .returned (.int .i64 (0)) ∧ w = w') (C2 : ∀ w, Calls Tryz.prog 45 #[.float .f64 v, .float .f64 k] w fun e w' => e = .returned (.int .i64 (1)) ∧ w = w') (C3 : ∀ w, Calls Tryz.prog 45 #[.float .f64 u, .float .f64 k] w fun e w' => e = .returned (.int .i64 (1)) ∧ w = w') (C4 : ∀ w, Calls Tryz.prog 45 #[.float .f64 v, .float .f64 u] w fun e w' => e = .returned (.int .i64 (0)) ∧ w = w') (w : World) (ht : Env w) :
    Calls Tryz.prog 11 #[.int .u64 u, .int .u64 v, .int .u64 k] w (LawPost w) := by
  have HC1 := Lib.hid C1
  clear C1
  have HC2 := Lib.hid C2
  clear C2
  have HC3 := Lib.hid C3
  clear C3
  have HC4 := Lib.hid C4
  clear C4
  have HT := Lib.hid ht
  clear ht
  go_enter Tryz.func11, Tryz.ntmps11
  go_wp2_with (first
    | (go_at_call 28; refine (of_any _ _).mono ?_; rintro e w' ⟨rfl, rfl⟩)
    | (go_at_call 45; ((with_reducible refine (HC1.out _).mono ?_); rintro e w' ⟨rfl, rfl⟩))
    | (go_at_call 45; ((with_reducible refine (HC2.out _).mono ?_); rintro e w' ⟨rfl, rfl⟩))
    | (go_at_call 45; ((with_reducible refine (HC3.out _).mono ?_); rintro e w' ⟨rfl, rfl⟩))
    | (go_at_call 45; ((with_reducible refine (HC4.out _).mono ?_); rintro e w' ⟨rfl, rfl⟩))
    | (go_at_call 23; refine (awake_true _ HT.out).mono ?_; rintro e w1 ⟨rfl, hb⟩))
  go_ret
  exact ⟨rfl, hb⟩

set_option maxRecDepth 100000 in
set_option maxHeartbeats 1000000 in
theorem line_n8 (u v k : Nat) (C1 : ∀ w, Calls Tryz.prog 45 #[.float .f64 u, .float .f64 v] w fun e w' => e = .returned (.int .i64 (1)) ∧ w = w') (C2 : ∀ w, Calls Tryz.prog 45 #[.float .f64 v, .float .f64 k] w fun e w' => e = .returned (.int .i64 (-1)) ∧ w = w') (C3 : ∀ w, Calls Tryz.prog 45 #[.float .f64 u, .float .f64 k] w fun e w' => e = .returned (.int .i64 (-1)) ∧ w = w') (C4 : ∀ w, Calls Tryz.prog 45 #[.float .f64 v, .float .f64 u] w fun e w' => e = .returned (.int .i64 (-1)) ∧ w = w') (w : World) (ht : Env w) :
    Calls Tryz.prog 11 #[.int .u64 u, .int .u64 v, .int .u64 k] w (LawPost w) := by
  have HC1 := Lib.hid C1
  clear C1
  have HC2 := Lib.hid C2
  clear C2
  have HC3 := Lib.hid C3
  clear C3
  have HC4 := Lib.hid C4
  clear C4
  have HT := Lib.hid ht
  clear ht
  go_enter Tryz.func11, Tryz.ntmps11
  go_wp2_with (first
    | (go_at_call 28; refine (of_any _ _).mono ?_; rintro e w' ⟨rfl, rfl⟩)
    | (go_at_call 45; ((with_reducible refine (HC1.out _).mono ?_); rintro e w' ⟨rfl, rfl⟩))
    | (go_at_call 45; ((with_reducible refine (HC2.out _).mono ?_); rintro e w' ⟨rfl, rfl⟩))
    | (go_at_call 45; ((with_reducible refine (HC3.out _).mono ?_); rintro e w' ⟨rfl, rfl⟩))
    | (go_at_call 45; ((with_reducible refine (HC4.out _).mono ?_); rintro e w' ⟨rfl, rfl⟩))
    | (go_at_call 23; refine (awake_true _ HT.out).mono ?_; rintro e w1 ⟨rfl, hb⟩))
  go_ret
  exact ⟨rfl, hb⟩

set_option maxRecDepth 100000 in
set_option maxHeartbeats 1000000 in
theorem line_n9 (u v k : Nat) (C1 : ∀ w, Calls Tryz.prog 45 #[.float .f64 u, .float .f64 v] w fun e w' => e = .returned (.int .i64 (1)) ∧ w = w') (C2 : ∀ w, Calls Tryz.prog 45 #[.float .f64 v, .float .f64 k] w fun e w' => e = .returned (.int .i64 (-1)) ∧ w = w') (C3 : ∀ w, Calls Tryz.prog 45 #[.float .f64 u, .float .f64 k] w fun e w' => e = .returned (.int .i64 (0)) ∧ w = w') (C4 : ∀ w, Calls Tryz.prog 45 #[.float .f64 v, .float .f64 u] w fun e w' => e = .returned (.int .i64 (-1)) ∧ w = w') (w : World) (ht : Env w) :
    Calls Tryz.prog 11 #[.int .u64 u, .int .u64 v, .int .u64 k] w (LawPost w) := by
  have HC1 := Lib.hid C1
  clear C1
  have HC2 := Lib.hid C2
  clear C2
  have HC3 := Lib.hid C3
  clear C3
  have HC4 := Lib.hid C4
  clear C4
  have HT := Lib.hid ht
  clear ht
  go_enter Tryz.func11, Tryz.ntmps11
  go_wp2_with (first
    | (go_at_call 28; refine (of_any _ _).mono ?_; rintro e w' ⟨rfl, rfl⟩)
    | (go_at_call 45; ((with_reducible refine (HC1.out _).mono ?_); rintro e w' ⟨rfl, rfl⟩))
    | (go_at_call 45; ((with_reducible refine (HC2.out _).mono ?_); rintro e w' ⟨rfl, rfl⟩))
    | (go_at_call 45; ((with_reducible refine (HC3.out _).mono ?_); rintro e w' ⟨rfl, rfl⟩))
    | (go_at_call 45; ((with_reducible refine (HC4.out _).mono ?_); rintro e w' ⟨rfl, rfl⟩))
    | (go_at_call 23; refine (awake_true _ HT.out).mono ?_; rintro e w1 ⟨rfl, hb⟩))
  go_ret
  exact ⟨rfl, hb⟩

set_option maxRecDepth 100000 in
set_option maxHeartbeats 1000000 in
theorem line_n10 (u v k : Nat) (C1 : ∀ w, Calls Tryz.prog 45 #[.float .f64 u, .float .f64 v] w fun e w' => e = .returned (.int .i64 (1)) ∧ w = w') (C2 : ∀ w, Calls Tryz.prog 45 #[.float .f64 v, .float .f64 k] w fun e w' => e = .returned (.int .i64 (-1)) ∧ w = w') (C3 : ∀ w, Calls Tryz.prog 45 #[.float .f64 u, .float .f64 k] w fun e w' => e = .returned (.int .i64 (1)) ∧ w = w') (C4 : ∀ w, Calls Tryz.prog 45 #[.float .f64 v, .float .f64 u] w fun e w' => e = .returned (.int .i64 (-1)) ∧ w = w') (w : World) (ht : Env w) :
    Calls Tryz.prog 11 #[.int .u64 u, .int .u64 v, .int .u64 k] w (LawPost w) := by
  have HC1 := Lib.hid C1
  clear C1
  have HC2 := Lib.hid C2
  clear C2
  have HC3 := Lib.hid C3
  clear C3
  have HC4 := Lib.hid C4
  clear C4
  have HT := Lib.hid ht
  clear ht
  go_enter Tryz.func11, Tryz.ntmps11
  go_wp2_with (first
    | (go_at_call 28; refine (of_any _ _).mono ?_; rintro e w' ⟨rfl, rfl⟩)
    | (go_at_call 45; ((with_reducible refine (HC1.out _).mono ?_); rintro e w' ⟨rfl, rfl⟩))
    | (go_at_call 45; ((with_reducible refine (HC2.out _).mono ?_); rintro e w' ⟨rfl, rfl⟩))
    | (go_at_call 45; ((with_reducible refine (HC3.out _).mono ?_); rintro e w' ⟨rfl, rfl⟩))
    | (go_at_call 45; ((with_reducible refine (HC4.out _).mono ?_); rintro e w' ⟨rfl, rfl⟩))
    | (go_at_call 23; refine (awake_true _ HT.out).mono ?_; rintro e w1 ⟨rfl, hb⟩))
  go_ret
  exact ⟨rfl, hb⟩

set_option maxRecDepth 100000 in
set_option maxHeartbeats 1000000 in
theorem line_n11 (u v k : Nat) (C1 : ∀ w, Calls Tryz.prog 45 #[.float .f64 u, .float .f64 v] w fun e w' => e = .returned (.int .i64 (1)) ∧ w = w') (C2 : ∀ w, Calls Tryz.prog 45 #[.float .f64 v, .float .f64 k] w fun e w' => e = .returned (.int .i64 (0)) ∧ w = w') (C3 : ∀ w, Calls Tryz.prog 45 #[.float .f64 u, .float .f64 k] w fun e w' => e = .returned (.int .i64 (1)) ∧ w = w') (C4 : ∀ w, Calls Tryz.prog 45 #[.float .f64 v, .float .f64 u] w fun e w' => e = .returned (.int .i64 (-1)) ∧ w = w') (w : World) (ht : Env w) :
    Calls Tryz.prog 11 #[.int .u64 u, .int .u64 v, .int .u64 k] w (LawPost w) := by
  have HC1 := Lib.hid C1
  clear C1
  have HC2 := Lib.hid C2
  clear C2
  have HC3 := Lib.hid C3
  clear C3
  have HC4 := Lib.hid C4
  clear C4
  have HT := Lib.hid ht
  clear ht
  go_enter Tryz.func11, Tryz.ntmps11
  go_wp2_with (first
    | (go_at_call 28; refine (of_any _ _).mono ?_; rintro e w' ⟨rfl, rfl⟩)
    | (go_at_call 45; ((with_reducible refine (HC1.out _).mono ?_); rintro e w' ⟨rfl, rfl⟩))
    | (go_at_call 45; ((with_reducible refine (HC2.out _).mono ?_); rintro e w' ⟨rfl, rfl⟩))
    | (go_at_call 45; ((with_reducible refine (HC3.out _).mono ?_); rintro e w' ⟨rfl, rfl⟩))
    | (go_at_call 45; ((with_reducible refine (HC4.out _).mono ?_); rintro e w' ⟨rfl, rfl⟩))
    | (go_at_call 23; refine (awake_true _ HT.out).mono ?_; rintro e w1 ⟨rfl, hb⟩))
  go_ret
  exact ⟨rfl, hb⟩

set_option maxRecDepth 100000 in
set_option maxHeartbeats 1000000 in
theorem line_n12 (u v k : Nat) (C1 : ∀ w, Calls Tryz.prog 45 #[.float .f64 u, .float .f64 v] w fun e w' => e = .returned (.int .i64 (1)) ∧ w = w') (C2 : ∀ w, Calls Tryz.prog 45 #[.float .f64 v, .float .f64 k] w fun e w' => e = .returned (.int .i64 (1)) ∧ w = w') (C3 : ∀ w, Calls Tryz.prog 45 #[.float .f64 u, .float .f64 k] w fun e w' => e = .returned (.int .i64 (1)) ∧ w = w') (C4 : ∀ w, Calls Tryz.prog 45 #[.float .f64 v, .float .f64 u] w fun e w' => e = .returned (.int .i64 (-1)) ∧ w = w') (w : World) (ht : Env w) :
    Calls Tryz.prog 11 #[.int .u64 u, .int .u64 v, .int .u64 k] w (LawPost w) := by
  have HC1 := Lib.hid C1
  clear C1
  have HC2 := Lib.hid C2
  clear C2
  have HC3 := Lib.hid C3
  clear C3
  have HC4 := Lib.hid C4
  clear C4
  have HT := Lib.hid ht
  clear ht
  go_enter Tryz.func11, Tryz.ntmps11
  go_wp2_with (first
    | (go_at_call 28; refine (of_any _ _).mono ?_; rintro e w' ⟨rfl, rfl⟩)
    | (go_at_call 45; ((with_reducible refine (HC1.out _).mono ?_); rintro e w' ⟨rfl, rfl⟩))
    | (go_at_call 45; ((with_reducible refine (HC2.out _).mono ?_); rintro e w' ⟨rfl, rfl⟩))
    | (go_at_call 45; ((with_reducible refine (HC3.out _).mono ?_); rintro e w' ⟨rfl, rfl⟩))
    | (go_at_call 45; ((with_reducible refine (HC4.out _).mono ?_); rintro e w' ⟨rfl, rfl⟩))
    | (go_at_call 23; refine (awake_true _ HT.out).mono ?_; rintro e w1 ⟨rfl, hb⟩))
  go_ret
  exact ⟨rfl, hb⟩

theorem law_line (u v k : Nat) (hu : u < 2 ^ 64) (hv : v < 2 ^ 64) (hk : k < 2 ^ 64) (w : World) (ht : Env w) :
    Calls Tryz.prog 11 #[.int .u64 u, .int .u64 v, .int .u64 k] w (LawPost w) := by
  have C1 := fun w => compare_any u v w
  have C2 := fun w => compare_any v k w
  have C3 := fun w => compare_any u k w
  have C4 := fun w => compare_any v u w
  have N1 := fun w => rnan_any u hu w
  have N2 := fun w => rnan_any v hv w
  have N3 := fun w => rnan_any k hk w
  by_cases h1 : cap < rg u
  · simp only [decide_eq_true h1] at N1
    simp only [(cmpI_two u v).2 (.inl h1)] at C1
    simp only [(cmpI_two u k).2 (.inl h1)] at C3
    exact line_w1 u v k _ C1 C2 C3 N1 w ht
  simp only [decide_eq_false h1] at N1
  by_cases h2 : cap < rg v
  · simp only [decide_eq_true h2] at N2
    simp only [(cmpI_two u v).2 (.inr h2)] at C1
    simp only [(cmpI_two v k).2 (.inl h2)] at C2
    exact line_w2 u v k _ C1 C2 C3 N1 N2 w ht
  simp only [decide_eq_false h2] at N2
  by_cases h3 : cap < rg k
  · simp only [decide_eq_true h3] at N3
    simp only [(cmpI_two v k).2 (.inr h3)] at C2
    simp only [(cmpI_two u k).2 (.inr h3)] at C3
    exact line_w3 u v k _ (by rw [beq_eq_false_iff_ne]; intro h; rcases (cmpI_two u v).1 h with h | h <;> contradiction) C1 C2 C3 N1 N2 N3 w ht
  clear N1 N2 N3
  obtain ⟨hd, h⟩ := line_num u v k h1 h2 h3
  simp only [hd] at C4
  rcases h with ⟨a, b, c⟩ | ⟨a, b, c⟩ | ⟨a, b, c | c | c⟩ | ⟨a, b, c⟩ | ⟨a, b, c⟩ | ⟨a, b, c⟩ | ⟨a, b, c | c | c⟩ | ⟨a, b, c⟩ | ⟨a, b, c⟩
  · simp only [a] at C1 C4; simp only [b] at C2; simp only [c] at C3; exact line_n0 u v k C1 C2 C3 C4 w ht
  · simp only [a] at C1 C4; simp only [b] at C2; simp only [c] at C3; exact line_n1 u v k C1 C2 C3 C4 w ht
  · simp only [a] at C1 C4; simp only [b] at C2; simp only [c] at C3; exact line_n2 u v k C1 C2 C3 C4 w ht
  · simp only [a] at C1 C4; simp only [b] at C2; simp only [c] at C3; exact line_n3 u v k C1 C2 C3 C4 w ht
  · simp only [a] at C1 C4; simp only [b] at C2; simp only [c] at C3; exact line_n4 u v k C1 C2 C3 C4 w ht
  · simp only [a] at C1 C4; simp only [b] at C2; simp only [c] at C3; exact line_n5 u v k C1 C2 C3 C4 w ht
  · simp only [a] at C1 C4; simp only [b] at C2; simp only [c] at C3; exact line_n6 u v k C1 C2 C3 C4 w ht
  · simp only [a] at C1 C4; simp only [b] at C2; simp only [c] at C3; exact line_n7 u v k C1 C2 C3 C4 w ht
  · simp only [a] at C1 C4; simp only [b] at C2; simp only [c] at C3; exact line_n8 u v k C1 C2 C3 C4 w ht
  · simp only [a] at C1 C4; simp only [b] at C2; simp only [c] at C3; exact line_n9 u v k C1 C2 C3 C4 w ht
  · simp only [a] at C1 C4; simp only [b] at C2; simp only [c] at C3; exact line_n10 u v k C1 C2 C3 C4 w ht
  · simp only [a] at C1 C4; simp only [b] at C2; simp only [c] at C3; exact line_n11 u v k C1 C2 C3 C4 w ht
  · simp only [a] at C1 C4; simp only [b] at C2; simp only [c] at C3; exact line_n12 u v k C1 C2 C3 C4 w ht
end Go.Proofs.YtceoapkkmgllaaaGreatDoor
