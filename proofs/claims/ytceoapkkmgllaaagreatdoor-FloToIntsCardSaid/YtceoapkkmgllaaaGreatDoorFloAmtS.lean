/- The reference's ToInt. -/
import Derived.Test.YtceoapkkmgllaaaGreatDoorFloAmtR
import Derived.Deep.DeepCutAuto
namespace Go.Proofs.YtceoapkkmgllaaaGreatDoor
open Go.RowKit FloM

def Ret2I (w : World) (p : Int × Int) (e : Ending) (w' : World) : Prop := e = .returned (.tuple #[.int .i64 p.1, .int .i64 p.2]) ∧ Below w.heap.size w w'
abbrev WholeC (s : Bool) (M : Nat) (P : Int) (n : Nat) (h : Int) (b : Bool) : Prop := ∀ (va : Value) (w : World), D w va M → Calls Tryz.prog 78 #[.agg #[.bool s, va, .int .i64 P]] w (Ret3 w n h b)
abbrev OfC (u : Nat) (s : Bool) (M : Nat) (P : Int) : Prop := ∀ w, Calls Tryz.prog 68 #[.int .u64 u] w (GivesX w s M P)

set_option maxRecDepth 100000 in
set_option maxHeartbeats 1000000 in
theorem rto_nan (u : Nat) (x : Int) (w : World) (n1 : NanC u true) : Calls Tryz.prog 51 #[.int .u64 u, .int .i64 x] w (Ret2I w (0, 20)) := by
  have N1 := Lib.hid n1
  clear n1
  go_enter Tryz.func51, Tryz.ntmps51
  go_wp2_with (go_at_call 19; ((with_reducible refine (N1.out _).mono ?_); rintro e w' ⟨rfl, rfl⟩))
  go_ret2
  exact ⟨rfl, Below.refl _ _⟩

set_option maxRecDepth 100000 in
set_option maxHeartbeats 1000000 in
theorem rto_inf (u : Nat) (x : Int) (w : World) (n1 : NanC u false) (i1 : InfC u true) : Calls Tryz.prog 51 #[.int .u64 u, .int .i64 x] w (Ret2I w (0, 10)) := by
  have N1 := Lib.hid n1
  have H1 := Lib.hid i1
  clear n1 i1
  go_enter Tryz.func51, Tryz.ntmps51
  go_wp2_with (first
    | (go_at_call 19; ((with_reducible refine (N1.out _).mono ?_); rintro e w' ⟨rfl, rfl⟩))
    | (go_at_call 24; ((with_reducible refine (H1.out _).mono ?_); rintro e w' ⟨rfl, rfl⟩)))
  go_ret2
  exact ⟨rfl, Below.refl _ _⟩

set_option maxRecDepth 100000 in
set_option maxHeartbeats 1000000 in
theorem rto_big (u M : Nat) (s : Bool) (P x : Int) (w : World) (n1 : NanC u false) (i1 : InfC u false) (o : OfC u s M P) (wh : WholeC s M P 0 0 false) : Calls Tryz.prog 51 #[.int .u64 u, .int .i64 x] w (Ret2I w (0, 10)) := by
  have N1 := Lib.hid n1
  have H1 := Lib.hid i1
  have O1 := Lib.hid o
  have W1 := Lib.hid wh
  clear n1 i1 o wh
  go_enter Tryz.func51, Tryz.ntmps51
  go_wp2_with (first
    | (go_at_call 19; ((with_reducible refine (N1.out _).mono ?_); rintro e w' ⟨rfl, rfl⟩))
    | (go_at_call 24; ((with_reducible refine (H1.out _).mono ?_); rintro e w' ⟨rfl, rfl⟩))
    | (go_at_call 68; ((with_reducible refine (O1.out _).mono ?_); rintro e w1 ⟨v1, rfl, hv1, hbel1⟩); obtain ⟨A1, k1, rfl⟩ := hv1.shape; have HV1 := Lib.hid hv1; have HB1 := Lib.hid hbel1; clear hv1 hbel1))
  refine (W1.out _ _ (HV1.out.below ((Below.refl _ _).alloc (Nat.le_refl _) _))).mono ?_
  rintro e w2 ⟨rfl, hbel2⟩
  have HB2 := Lib.hid (HB1.out.trans ((((Below.refl w1.heap.size w1).alloc (Nat.le_refl _) _).trans (hbel2.mono (by simp))).mono HB1.out.size))
  clear hbel2
  go_wp2_with fail
  go_ret2
  exact ⟨rfl, HB2.out⟩

/-- One more?, of the tests' words. -/
def upW (way : Ieee.Toward) (s b2 b1 bo : Bool) : Bool := match way with | .down => s | .up => !s | .zero => false | .even => b2 || (b1 && bo)

theorem ret_ii {a b c d : Int} (h1 : a = c) (h2 : b = d) : Ending.returned (.tuple #[.int .i64 a, .int .i64 b]) = .returned (.tuple #[.int .i64 c, .int .i64 d]) := by rw [h1, h2]

set_option maxRecDepth 100000 in
set_option maxHeartbeats 8000000 in
theorem rto_finT (way : Ieee.Toward) (b2 b1 bo bg ci : Bool) (u M n m : Nat) (P h : Int) (r : Int × Int) (w : World) (hb2 : ((h : Int) == 2) = b2) (hb1 : ((h : Int) == 1) = b1) (hbo : (((n : Int) % 2) == 1) = bo) (hbg : decide (0 ≤ h) = bg)
    (hn : (n : Int) ≤ 9223372036854775806) (hm : (m : Int) = if (bg && upW way true b2 b1 bo) = true then (n : Int) + 1 else n)
    (hin : ci = true → (m : Int) ≤ 4611686018427387904) (hout : ci = false → decide ((m : Int) ≤ 4611686018427387904) = false) (hr : r = if ci then (-(m : Int), 0) else (0, 10))
    (n1 : NanC u false) (i1 : InfC u false) (o : OfC u true M P) (wh : WholeC true M P n h true) : Calls Tryz.prog 51 #[.int .u64 u, .int .i64 (wayI way)] w (Ret2I w r) := by
  have N1 := Lib.hid n1
  have H1 := Lib.hid i1
  have O1 := Lib.hid o
  have W1 := Lib.hid wh
  clear n1 i1 o wh
  cases way
  case' even => cases b2 <;> cases b1 <;> cases bo
  all_goals cases bg
  all_goals cases ci
  all_goals
    simp [upW] at hm hr
    first
      | (have q1 := hin rfl; clear hin hout; rw [hm] at q1)
      | (have q1 := hout rfl; clear hin hout; rw [hm] at q1)
    have HM := Lib.hid hm
    have HR := Lib.hid hr
    have Q1 := Lib.hid q1
    have HN := Lib.hid hn
    clear hm hr q1 hn
    simp only [wayI]
    go_enter Tryz.func51, Tryz.ntmps51
    go_wp2_with (first
      | (go_at_call 19; ((with_reducible refine (N1.out _).mono ?_); rintro e w' ⟨rfl, rfl⟩))
      | (go_at_call 24; ((with_reducible refine (H1.out _).mono ?_); rintro e w' ⟨rfl, rfl⟩))
      | (go_at_call 68; ((with_reducible refine (O1.out _).mono ?_); rintro e w1 ⟨v1, rfl, hv1, hbel1⟩); obtain ⟨A1, k1, rfl⟩ := hv1.shape; have HV1 := Lib.hid hv1; have HB1 := Lib.hid hbel1; clear hv1 hbel1))
    refine (W1.out _ _ (HV1.out.below ((Below.refl _ _).alloc (Nat.le_refl _) _))).mono ?_
    rintro e w2 ⟨rfl, hbel2⟩
    have c0 := (box_cells ((Blk.new w1 _ #[.bool _, .slice A1 (nd M) k1, .int .i64 P]).below hbel2 (by simp))).1
    have HB2 := Lib.hid (HB1.out.trans ((((Below.refl w1.heap.size w1).alloc (Nat.le_refl _) _).trans (hbel2.mono (by simp))).mono HB1.out.size))
    clear hbel2
    go_upto_region 10 with (fail)
    clear hbo hb1 hb2
    have hn := HN.out
    go_upto_region 12 with (fail)
    have q1 := Q1.out
    first
      | go_upto_region 13 with (fail)
      | go_upto_region 14 with (fail)
    clear q1
    go_wp2_with fail
    go_ret2
    exact ⟨by rw [HR.out]; exact ret_ii (by have := HM.out; omega) rfl, HB2.out⟩
set_option maxRecDepth 100000 in
set_option maxHeartbeats 8000000 in
theorem rto_finF (way : Ieee.Toward) (b2 b1 bo bg ci : Bool) (u M n m : Nat) (P h : Int) (r : Int × Int) (w : World) (hb2 : ((h : Int) == 2) = b2) (hb1 : ((h : Int) == 1) = b1) (hbo : (((n : Int) % 2) == 1) = bo) (hbg : decide (0 ≤ h) = bg)
    (hn : (n : Int) ≤ 9223372036854775806) (hm : (m : Int) = if (bg && upW way false b2 b1 bo) = true then (n : Int) + 1 else n)
    (hin : ci = true → (m : Int) < 4611686018427387904) (hout : ci = false → decide ((m : Int) < 4611686018427387904) = false) (hr : r = if ci then ((m : Int), 0) else (0, 10))
    (n1 : NanC u false) (i1 : InfC u false) (o : OfC u false M P) (wh : WholeC false M P n h true) : Calls Tryz.prog 51 #[.int .u64 u, .int .i64 (wayI way)] w (Ret2I w r) := by
  have N1 := Lib.hid n1
  have H1 := Lib.hid i1
  have O1 := Lib.hid o
  have W1 := Lib.hid wh
  clear n1 i1 o wh
  cases way
  case' even => cases b2 <;> cases b1 <;> cases bo
  all_goals cases bg
  all_goals cases ci
  all_goals
    simp [upW] at hm hr
    first
      | (have q1 := hin rfl; clear hin hout; rw [hm] at q1)
      | (have q1 := hout rfl; clear hin hout; rw [hm] at q1)
    have HM := Lib.hid hm
    have HR := Lib.hid hr
    have Q1 := Lib.hid q1
    have HN := Lib.hid hn
    clear hm hr q1 hn
    simp only [wayI]
    go_enter Tryz.func51, Tryz.ntmps51
    go_wp2_with (first
      | (go_at_call 19; ((with_reducible refine (N1.out _).mono ?_); rintro e w' ⟨rfl, rfl⟩))
      | (go_at_call 24; ((with_reducible refine (H1.out _).mono ?_); rintro e w' ⟨rfl, rfl⟩))
      | (go_at_call 68; ((with_reducible refine (O1.out _).mono ?_); rintro e w1 ⟨v1, rfl, hv1, hbel1⟩); obtain ⟨A1, k1, rfl⟩ := hv1.shape; have HV1 := Lib.hid hv1; have HB1 := Lib.hid hbel1; clear hv1 hbel1))
    refine (W1.out _ _ (HV1.out.below ((Below.refl _ _).alloc (Nat.le_refl _) _))).mono ?_
    rintro e w2 ⟨rfl, hbel2⟩
    have c0 := (box_cells ((Blk.new w1 _ #[.bool _, .slice A1 (nd M) k1, .int .i64 P]).below hbel2 (by simp))).1
    have HB2 := Lib.hid (HB1.out.trans ((((Below.refl w1.heap.size w1).alloc (Nat.le_refl _) _).trans (hbel2.mono (by simp))).mono HB1.out.size))
    clear hbel2
    go_upto_region 10 with (fail)
    clear hbo hb1 hb2
    have hn := HN.out
    go_upto_region 14 with (fail)
    have q1 := Q1.out
    first
      | go_upto_region 15 with (fail)
      | go_upto_region 16 with (fail)
    clear q1
    go_wp2_with fail
    go_ret2
    exact ⟨by rw [HR.out]; exact ret_ii (by have := HM.out; omega) rfl, HB2.out⟩
end Go.Proofs.YtceoapkkmgllaaaGreatDoor
