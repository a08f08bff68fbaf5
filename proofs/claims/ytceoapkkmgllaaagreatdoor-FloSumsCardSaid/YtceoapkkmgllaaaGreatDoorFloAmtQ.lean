/- The reference's Add and Sub: the walks. -/
import Derived.Test.YtceoapkkmgllaaaGreatDoorFloAmtP
namespace Go.Proofs.YtceoapkkmgllaaaGreatDoor
open Go.RowKit FloM

set_option maxRecDepth 100000 in
set_option maxHeartbeats 1000000 in
theorem radd_nan1 (u v : Nat)  (n1 : NanC u true) (w : World) :
    Calls Tryz.prog 32 #[.int .u64 u, .int .u64 v] w (RetU w 9221120237041090560) := by
  have N1 := Lib.hid n1
  clear n1
  go_enter Tryz.func32, Tryz.ntmps32
  go_wp2_with (first
    | (go_at_call 19; ((with_reducible refine (N1.out _).mono ?_); rintro e w' ⟨rfl, rfl⟩)))
  go_ret
  exact ⟨rfl, Below.refl _ _⟩

set_option maxRecDepth 100000 in
set_option maxHeartbeats 1000000 in
theorem radd_nan2 (u v : Nat)  (n1 : NanC u false) (n2 : NanC v true) (w : World) :
    Calls Tryz.prog 32 #[.int .u64 u, .int .u64 v] w (RetU w 9221120237041090560) := by
  have N1 := Lib.hid n1
  have N2 := Lib.hid n2
  clear n1 n2
  go_enter Tryz.func32, Tryz.ntmps32
  go_wp2_with (first
    | (go_at_call 19; ((with_reducible refine (N1.out _).mono ?_); rintro e w' ⟨rfl, rfl⟩))
    | (go_at_call 19; ((with_reducible refine (N2.out _).mono ?_); rintro e w' ⟨rfl, rfl⟩)))
  go_ret
  exact ⟨rfl, Below.refl _ _⟩

set_option maxRecDepth 100000 in
set_option maxHeartbeats 1000000 in
theorem radd_infs (u v : Nat) (hd : ((u : Int) != (v : Int)) = true) (n1 : NanC u false) (n2 : NanC v false) (i1 : InfC u true) (i2 : InfC v true) (w : World) :
    Calls Tryz.prog 32 #[.int .u64 u, .int .u64 v] w (RetU w 9221120237041090560) := by
  have N1 := Lib.hid n1
  have N2 := Lib.hid n2
  have H1 := Lib.hid i1
  have H2 := Lib.hid i2
  clear n1 n2 i1 i2
  go_enter Tryz.func32, Tryz.ntmps32
  go_wp2_with (first
    | (go_at_call 19; ((with_reducible refine (N1.out _).mono ?_); rintro e w' ⟨rfl, rfl⟩))
    | (go_at_call 19; ((with_reducible refine (N2.out _).mono ?_); rintro e w' ⟨rfl, rfl⟩))
    | (go_at_call 24; ((with_reducible refine (H1.out _).mono ?_); rintro e w' ⟨rfl, rfl⟩))
    | (go_at_call 24; ((with_reducible refine (H2.out _).mono ?_); rintro e w' ⟨rfl, rfl⟩)))
  go_ret
  exact ⟨rfl, Below.refl _ _⟩

set_option maxRecDepth 100000 in
set_option maxHeartbeats 1000000 in
theorem radd_infe (u v : Nat) (hd : ((u : Int) != (v : Int)) = false) (n1 : NanC u false) (n2 : NanC v false) (i1 : InfC u true) (i2 : InfC v true) (w : World) :
    Calls Tryz.prog 32 #[.int .u64 u, .int .u64 v] w (RetU w u) := by
  have N1 := Lib.hid n1
  have N2 := Lib.hid n2
  have H1 := Lib.hid i1
  have H2 := Lib.hid i2
  clear n1 n2 i1 i2
  go_enter Tryz.func32, Tryz.ntmps32
  go_wp2_with (first
    | (go_at_call 19; ((with_reducible refine (N1.out _).mono ?_); rintro e w' ⟨rfl, rfl⟩))
    | (go_at_call 19; ((with_reducible refine (N2.out _).mono ?_); rintro e w' ⟨rfl, rfl⟩))
    | (go_at_call 24; ((with_reducible refine (H1.out _).mono ?_); rintro e w' ⟨rfl, rfl⟩))
    | (go_at_call 24; ((with_reducible refine (H2.out _).mono ?_); rintro e w' ⟨rfl, rfl⟩)))
  go_ret
  exact ⟨rfl, Below.refl _ _⟩

set_option maxRecDepth 100000 in
set_option maxHeartbeats 1000000 in
theorem radd_inf1 (u v : Nat)  (n1 : NanC u false) (n2 : NanC v false) (i1 : InfC u true) (i2 : InfC v false) (w : World) :
    Calls Tryz.prog 32 #[.int .u64 u, .int .u64 v] w (RetU w u) := by
  have N1 := Lib.hid n1
  have N2 := Lib.hid n2
  have H1 := Lib.hid i1
  have H2 := Lib.hid i2
  clear n1 n2 i1 i2
  go_enter Tryz.func32, Tryz.ntmps32
  go_wp2_with (first
    | (go_at_call 19; ((with_reducible refine (N1.out _).mono ?_); rintro e w' ⟨rfl, rfl⟩))
    | (go_at_call 19; ((with_reducible refine (N2.out _).mono ?_); rintro e w' ⟨rfl, rfl⟩))
    | (go_at_call 24; ((with_reducible refine (H1.out _).mono ?_); rintro e w' ⟨rfl, rfl⟩))
    | (go_at_call 24; ((with_reducible refine (H2.out _).mono ?_); rintro e w' ⟨rfl, rfl⟩)))
  go_ret
  exact ⟨rfl, Below.refl _ _⟩

set_option maxRecDepth 100000 in
set_option maxHeartbeats 1000000 in
theorem radd_inf2 (u v : Nat)  (n1 : NanC u false) (n2 : NanC v false) (i1 : InfC u false) (i2 : InfC v true) (w : World) :
    Calls Tryz.prog 32 #[.int .u64 u, .int .u64 v] w (RetU w v) := by
  have N1 := Lib.hid n1
  have N2 := Lib.hid n2
  have H1 := Lib.hid i1
  have H2 := Lib.hid i2
  clear n1 n2 i1 i2
  go_enter Tryz.func32, Tryz.ntmps32
  go_wp2_with (first
    | (go_at_call 19; ((with_reducible refine (N1.out _).mono ?_); rintro e w' ⟨rfl, rfl⟩))
    | (go_at_call 19; ((with_reducible refine (N2.out _).mono ?_); rintro e w' ⟨rfl, rfl⟩))
    | (go_at_call 24; ((with_reducible refine (H1.out _).mono ?_); rintro e w' ⟨rfl, rfl⟩))
    | (go_at_call 24; ((with_reducible refine (H2.out _).mono ?_); rintro e w' ⟨rfl, rfl⟩)))
  go_ret
  exact ⟨rfl, Below.refl _ _⟩

set_option maxRecDepth 100000 in
set_option maxHeartbeats 1000000 in
theorem radd_zero (u v : Nat) (r : Nat) (hb : bits .and .u64 (u : Int) (v : Int) = (r : Int)) (n1 : NanC u false) (n2 : NanC v false) (i1 : InfC u false) (i2 : InfC v false) (z1 : ZerC u true) (z2 : ZerC v true) (w : World) :
    Calls Tryz.prog 32 #[.int .u64 u, .int .u64 v] w (RetU w r) := by
  have N1 := Lib.hid n1
  have N2 := Lib.hid n2
  have H1 := Lib.hid i1
  have H2 := Lib.hid i2
  have Y1 := Lib.hid z1
  have Y2 := Lib.hid z2
  clear n1 n2 i1 i2 z1 z2
  go_enter Tryz.func32, Tryz.ntmps32
  go_wp2_with (first
    | (go_at_call 19; ((with_reducible refine (N1.out _).mono ?_); rintro e w' ⟨rfl, rfl⟩))
    | (go_at_call 19; ((with_reducible refine (N2.out _).mono ?_); rintro e w' ⟨rfl, rfl⟩))
    | (go_at_call 24; ((with_reducible refine (H1.out _).mono ?_); rintro e w' ⟨rfl, rfl⟩))
    | (go_at_call 24; ((with_reducible refine (H2.out _).mono ?_); rintro e w' ⟨rfl, rfl⟩))
    | (go_at_call 56; ((with_reducible refine (Y1.out _).mono ?_); rintro e w' ⟨rfl, rfl⟩))
    | (go_at_call 56; ((with_reducible refine (Y2.out _).mono ?_); rintro e w' ⟨rfl, rfl⟩)))
  go_ret
  exact ⟨rfl, Below.refl _ _⟩

set_option maxRecDepth 100000 in
set_option maxHeartbeats 2000000 in
theorem radd_num (u v : Nat) (hu : u < 2 ^ 64) (hv : v < 2 ^ 64) (z1 z2 : Bool) (hz : (z1 && z2) = false) (n1 : NanC u false) (n2 : NanC v false) (i1 : InfC u false) (i2 : InfC v false) (y1 : ZerC u z1) (y2 : ZerC v z2) (w : World) :
    Calls Tryz.prog 32 #[.int .u64 u, .int .u64 v] w (RetU w (wd (addS (sgn u) (sgn v) (mg (rg u) * 2 ^ (up (rg u) - lo u v)) (mg (rg v) * 2 ^ (up (rg v) - lo u v)))
      (rNear (addM (sgn u) (sgn v) (mg (rg u) * 2 ^ (up (rg u) - lo u v)) (mg (rg v) * 2 ^ (up (rg v) - lo u v))) ((lo u v : Int) - 1074) 0))) := by
  have N1 := Lib.hid n1
  have N2 := Lib.hid n2
  have H1 := Lib.hid i1
  have H2 := Lib.hid i2
  have Y1 := Lib.hid y1
  have Y2 := Lib.hid y2
  have O1 := Lib.hid (fun w => rof_any u hu w)
  have O2 := Lib.hid (fun w => rof_any v hv w)
  have hU : up (rg u) ≤ 2047 := by unfold up; have : rg u / 2 ^ 52 < 2048 := by unfold rg; omega
                                   omega
  have hV : up (rg v) ≤ 2047 := by unfold up; have : rg v / 2 ^ 52 < 2048 := by unfold rg; omega
                                   omega
  have hl1 : lo u v ≤ up (rg u) := Nat.min_le_left _ _
  have hl2 : lo u v ≤ up (rg v) := Nat.min_le_right _ _
  have hmin : ((lo u v : Nat) : Int) - 1074 = min (pp u) (pp v) := by unfold lo pp; omega
  have e1 : ((up (rg u) - lo u v : Nat) : Int) = pp u - ((lo u v : Int) - 1074) := by unfold pp; omega
  have e2 : ((up (rg v) - lo u v : Nat) : Int) = pp v - ((lo u v : Int) - 1074) := by unfold pp; omega
  have hm1 := mg_nd u
  have hm2 := mg_nd v
  have ha1 := mg_lt (rg u)
  have ha2 := mg_lt (rg v)
  have hlo : lo u v ≤ 2047 := by omega
  obtain ⟨i, hi⟩ : ∃ i, i = up (rg u) - lo u v := ⟨_, rfl⟩
  obtain ⟨j, hj⟩ : ∃ j, j = up (rg v) - lo u v := ⟨_, rfl⟩
  rw [← hi] at e1 ⊢
  rw [← hj] at e2 ⊢
  have hi2 : i ≤ 2100 := by omega
  have hj2 : j ≤ 2100 := by omega
  clear n1 n2 i1 i2 y1 y2 hu hv hi hj hl1 hl2 hU hV
  generalize lo u v = l at *
  generalize sgn u = su at *
  generalize sgn v = sv at *
  generalize mg (rg u) = m1 at *
  generalize mg (rg v) = m2 at *
  generalize pp u = P1 at *
  generalize pp v = P2 at *
  have hR : nd (addM su sv (m1 * 2 ^ i) (m2 * 2 ^ j)) ≤ 20000 := by
    have h1 := nd_shl m1 i
    have h2 := nd_shl m2 j
    have h3 : addM su sv (m1 * 2 ^ i) (m2 * 2 ^ j) ≤ m1 * 2 ^ i + m2 * 2 ^ j := by unfold addM; (repeat' split) <;> omega
    have h4 : nd (m1 * 2 ^ i + m2 * 2 ^ j) ≤ 400 := by
      obtain ⟨q, hq⟩ : ∃ q, q = 399 := ⟨_, rfl⟩
      rw [show (400 : Nat) = q + 1 by omega, nd_le]
      have a1 : m1 * 2 ^ i < 65536 ^ q := Nat.lt_of_lt_of_le (lt_nd _) (pow_le (by omega))
      have a2 : m2 * 2 ^ j < 65536 ^ q := Nat.lt_of_lt_of_le (lt_nd _) (pow_le (by omega))
      rw [Nat.pow_succ]
      omega
    have := nd_mono h3
    omega
  have A := Lib.hid (fun va vb w (ha : D w va m1) (hb : D w vb m2) => radd_walk su sv va vb m1 m2 P1 P2 ((l : Int) - 1074) i j w e1 e2 hmin hi2 hj2 (by omega) (by omega) hm1 hm2 ha hb)
  generalize addM su sv (m1 * 2 ^ i) (m2 * 2 ^ j) = R at *
  generalize addS su sv (m1 * 2 ^ i) (m2 * 2 ^ j) = B at *
  have hp1 : -1074 ≤ (l : Int) - 1074 := by omega
  have hp2 : (l : Int) - 1074 ≤ 2000 := by omega
  have HRR := Lib.hid hR
  clear e1 e2 hmin hi2 hj2 hm1 hm2 ha1 ha2 hlo hR
  generalize (l : Int) - 1074 = p at *
  cases z1 <;> cases z2 <;> first | (exfalso; revert hz; decide) | skip
  all_goals
    clear hz
    go_enter Tryz.func32, Tryz.ntmps32
    go_wp2_with (first
      | (go_at_call 19; ((with_reducible refine (N1.out _).mono ?_); rintro e w' ⟨rfl, rfl⟩))
      | (go_at_call 19; ((with_reducible refine (N2.out _).mono ?_); rintro e w' ⟨rfl, rfl⟩))
      | (go_at_call 24; ((with_reducible refine (H1.out _).mono ?_); rintro e w' ⟨rfl, rfl⟩))
      | (go_at_call 24; ((with_reducible refine (H2.out _).mono ?_); rintro e w' ⟨rfl, rfl⟩))
      | (go_at_call 56; ((with_reducible refine (Y1.out _).mono ?_); rintro e w' ⟨rfl, rfl⟩))
      | (go_at_call 56; ((with_reducible refine (Y2.out _).mono ?_); rintro e w' ⟨rfl, rfl⟩))
      | (go_at_call 68; ((with_reducible refine (O1.out _).mono ?_); rintro e w1 ⟨v1, rfl, hv1, hbel1⟩); have HV1 := Lib.hid hv1; have HB1 := Lib.hid hbel1; clear hv1 hbel1)
      | (go_at_call 68; ((with_reducible refine (O2.out _).mono ?_); rintro e w2 ⟨v2, rfl, hv2, hbel2⟩); have HV2 := Lib.hid hv2; have HB2 := Lib.hid hbel2; clear hv2 hbel2)
      | (go_at_call 67; ((with_reducible refine (A.out v1 v2 _ (HV1.out.below HB2.out) HV2.out).mono ?_); rintro e w3 ⟨v3, rfl, hv3, hbel3⟩); have HV3 := Lib.hid hv3; have HB3 := Lib.hid hbel3; clear hv3 hbel3)
      | (go_at_call 66; ((with_reducible refine (near_any B false v3 R p _ HRR.out (by omega) (by omega) HV3.out).mono ?_); rintro e w4 ⟨rfl, hbel4⟩); have HB4 := Lib.hid hbel4; clear hbel4))
    go_ret
    exact ⟨rfl, HB1.out.trans ((HB2.out.trans ((HB3.out.trans (HB4.out.mono HB3.out.size)).mono HB2.out.size)).mono HB1.out.size)⟩

theorem radd_any (u v : Nat) (hu : u < 2 ^ 64) (hv : v < 2 ^ 64) (w : World) :
    Calls Tryz.prog 32 #[.int .u64 u, .int .u64 v] w (RetU w (opN (Ieee.double.add u v))) := by
  have hca : (0 : Nat) ≠ cap := by decide
  by_cases h1 : cap < rg u
  · rw [add_nan (.inl h1)]
    exact radd_nan1 u v (nanC hu (decide_eq_true h1)) w
  by_cases h2 : cap < rg v
  · rw [add_nan (.inr h2)]
    exact radd_nan2 u v (nanC hu (decide_eq_false h1)) (nanC hv (decide_eq_true h2)) w
  have n1 := nanC hu (decide_eq_false h1)
  have n2 := nanC hv (decide_eq_false h2)
  by_cases i1 : rg u = cap
  · by_cases i2 : rg v = cap
    · rw [add_inf_inf hu hv i1 i2]
      by_cases e : u = v
      · rw [if_pos e]
        exact radd_infe u v (by rw [e]; simp) n1 n2 (infC hu (decide_eq_true i1)) (infC hv (decide_eq_true i2)) w
      · rw [if_neg e]
        exact radd_infs u v (by rw [bne_iff_ne]; omega) n1 n2 (infC hu (decide_eq_true i1)) (infC hv (decide_eq_true i2)) w
    · rw [add_inf_l hu i1 (by omega)]
      exact radd_inf1 u v n1 n2 (infC hu (decide_eq_true i1)) (infC hv (decide_eq_false i2)) w
  · by_cases i2 : rg v = cap
    · rw [add_inf_r hv i2 (by omega)]
      exact radd_inf2 u v n1 n2 (infC hu (decide_eq_false i1)) (infC hv (decide_eq_true i2)) w
    · by_cases hz : rg u = 0 ∧ rg v = 0
      · rw [add_zeros hu hv hz.1 hz.2]
        exact radd_zero u v _ (u64_and_nat u v (by omega) (by omega)) n1 n2 (infC hu (decide_eq_false i1)) (infC hv (decide_eq_false i2)) (zerC hu (decide_eq_true hz.1)) (zerC hv (decide_eq_true hz.2)) w
      · rw [radd_fin (by omega) (by omega) hz]
        exact radd_num u v hu hv _ _ (by rw [← Bool.decide_and, decide_eq_false hz]) n1 n2 (infC hu (decide_eq_false i1)) (infC hv (decide_eq_false i2)) (zerC hu rfl) (zerC hv rfl) w

theorem rNeg_turn (v : Nat) : rNeg v = (if cap < rg v then 9221120237041090560 else (if v < 2 ^ 63 then 2 ^ 63 + v else v - 2 ^ 63)) := rfl

set_option maxRecDepth 100000 in
set_option maxHeartbeats 1000000 in
theorem rsub_any (u v : Nat) (hu : u < 2 ^ 64) (hv : v < 2 ^ 64) (w : World) :
    Calls Tryz.prog 34 #[.int .u64 u, .int .u64 v] w (RetU w (opN (Ieee.double.sub u v))) := by
  rw [sub_add u v hv, ← rNeg_turn v]
  have C1 := Lib.hid (fun w => rneg_any v hv w)
  have C2 := Lib.hid (fun w => radd_any u (rNeg v) hu (rNeg_lt hv) w)
  generalize rNeg v = t at *
  generalize opN (Ieee.double.add u t) = r at *
  clear hu hv
  go_enter Tryz.func34, Tryz.ntmps34
  go_wp2_with (first
    | (go_at_call 42; ((with_reducible refine (C1.out _).mono ?_); rintro e w' ⟨rfl, rfl⟩))
    | (go_at_call 32; ((with_reducible refine (C2.out _).mono ?_); rintro e w2 ⟨rfl, hb2⟩); have HB2 := Lib.hid hb2; clear hb2))
  go_ret
  exact ⟨rfl, HB2.out⟩
end Go.Proofs.YtceoapkkmgllaaaGreatDoor
