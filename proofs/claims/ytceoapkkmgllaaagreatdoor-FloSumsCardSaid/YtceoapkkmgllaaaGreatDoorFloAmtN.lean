/- The reference's Div. -/
import Derived.Test.YtceoapkkmgllaaaGreatDoorFloAmtM
namespace FloM
open Ieee
theorem div_nan {u v : Nat} (h : cap < rg u ∨ cap < rg v) : double.div u v = none := by
  unfold Format.div
  rcases h with h | h
  · rw [read_nan h]; cases double.read v <;> rfl
  · rw [read_nan h]; cases double.read u <;> rfl
theorem div_inf_inf {u v : Nat} (h : rg u = cap) (h2 : rg v = cap) : double.div u v = none := by
  unfold Format.div
  rw [read_inf h, read_inf h2]; rfl
theorem div_zero_zero {u v : Nat} (h : rg u = 0) (h2 : rg v = 0) : double.div u v = none := by
  unfold Format.div
  rw [read_num (by rw [h]; decide), read_num (by rw [h2]; decide), mg_zero.2 h, mg_zero.2 h2]; rfl
theorem div_inf_l {u v : Nat} (h : rg u = cap) (h2 : rg v < cap) : double.div u v = some (wd (sgn u ^^ sgn v) cap) := by
  unfold Format.div
  rw [read_inf h, read_num h2]
  simp only [Datum.quotient, Option.map_some, Format.write, infRung_cap, word_wd]
theorem div_zero_r {u v : Nat} (h : rg v = 0) (h2 : rg u < cap) (h3 : rg u ≠ 0) : double.div u v = some (wd (sgn u ^^ sgn v) cap) := by
  unfold Format.div
  have hm : mg (rg u) ≠ 0 := fun h => h3 (mg_zero.1 h)
  rw [read_num h2, read_num (by rw [h]; decide), mg_zero.2 h]
  simp only [Datum.quotient, if_true, if_neg hm, Option.map_some, Format.write, infRung_cap, word_wd]
theorem div_inf_r {u v : Nat} (h : rg v = cap) (h2 : rg u < cap) : double.div u v = some (wd (sgn u ^^ sgn v) 0) := by
  unfold Format.div
  rw [read_num h2, read_inf h]
  simp only [Datum.quotient, Option.map_some, Format.write, Format.nearest, word_wd, if_true]
theorem div_zero_l {u v : Nat} (h : rg u = 0) (h2 : rg v < cap) (h3 : rg v ≠ 0) : double.div u v = some (wd (sgn u ^^ sgn v) 0) := by
  rw [div_fin (by rw [h]; decide) h2 h3, rq_val0 (by rw [h, val_zero])]
end FloM
namespace Go.Proofs.YtceoapkkmgllaaaGreatDoor
open Go.RowKit FloM

set_option maxRecDepth 100000 in
set_option maxHeartbeats 4000000 in
/-- The quotient where no rounding is wanted: the tests alone tell. r: what is told. -/
theorem rdiv_flat (u v : Nat) (hu : u < 2 ^ 64) (hv : v < 2 ^ 64) (a b i1 z1 i2 z2 : Bool) (r : Nat)
    (h : ((a || b || (i1 && i2) || (z1 && z2)) = true ∧ r = 9221120237041090560) ∨ ((a || b || (i1 && i2) || (z1 && z2)) = false ∧ (i1 || z2) = true ∧ r = wd (sgn u ^^ sgn v) cap) ∨
      ((a || b || (i1 && i2) || (z1 && z2)) = false ∧ (i1 || z2) = false ∧ (i2 || z1) = true ∧ r = wd (sgn u ^^ sgn v) 0))
    (n1 : NanC u a) (n2 : NanC v b) (I1 : InfC u i1) (Z2 : ZerC v z2) (Z1 : ZerC u z1) (I2 : InfC v i2) (w : World) :
    Calls Tryz.prog 40 #[.int .u64 u, .int .u64 v] w (RetU w r) := by
  obtain ⟨x, s, f1, f2, f3⟩ := xor_facts u v hu hv
  have S1 := Lib.hid (fun b w => sgn_int b cap 9218868437227405312 w cap_lt (by decide))
  have S2 := Lib.hid (fun b w => sgn_int b 0 0 w (by decide) rfl)
  generalize (sgn u ^^ sgn v) = sg at *
  have N1 := Lib.hid n1
  have N2 := Lib.hid n2
  have H1 := Lib.hid I1
  have H2 := Lib.hid I2
  have Y1 := Lib.hid Z1
  have Y2 := Lib.hid Z2
  clear n1 n2 I1 I2 Z1 Z2 hu hv
  rcases h with ⟨h, rfl⟩ | ⟨h, h2, rfl⟩ | ⟨h, h2, h3, rfl⟩
  · cases a
    · cases b
      · cases i1
        · cases z1
          · exfalso; revert h; cases i2 <;> cases z2 <;> decide
          · cases z2
            · exfalso; revert h; cases i2 <;> decide
            · clear h
              go_enter Tryz.func40, Tryz.ntmps40
              go_wp2_with (first
                | (go_at_call 19; ((with_reducible refine (N1.out _).mono ?_); rintro e w' ⟨rfl, rfl⟩))
                | (go_at_call 19; ((with_reducible refine (N2.out _).mono ?_); rintro e w' ⟨rfl, rfl⟩))
                | (go_at_call 24; ((with_reducible refine (H1.out _).mono ?_); rintro e w' ⟨rfl, rfl⟩))
                | (go_at_call 56; ((with_reducible refine (Y1.out _).mono ?_); rintro e w' ⟨rfl, rfl⟩))
                | (go_at_call 56; ((with_reducible refine (Y2.out _).mono ?_); rintro e w' ⟨rfl, rfl⟩)))
              go_ret
              exact ⟨rfl, Below.refl _ _⟩
        · cases i2
          · cases z1
            · exfalso; revert h; cases z2 <;> decide
            · cases z2
              · exfalso; revert h; decide
              · clear h
                go_enter Tryz.func40, Tryz.ntmps40
                go_wp2_with (first
                  | (go_at_call 19; ((with_reducible refine (N1.out _).mono ?_); rintro e w' ⟨rfl, rfl⟩))
                  | (go_at_call 19; ((with_reducible refine (N2.out _).mono ?_); rintro e w' ⟨rfl, rfl⟩))
                  | (go_at_call 24; ((with_reducible refine (H1.out _).mono ?_); rintro e w' ⟨rfl, rfl⟩))
                  | (go_at_call 24; ((with_reducible refine (H2.out _).mono ?_); rintro e w' ⟨rfl, rfl⟩))
                  | (go_at_call 56; ((with_reducible refine (Y1.out _).mono ?_); rintro e w' ⟨rfl, rfl⟩))
                  | (go_at_call 56; ((with_reducible refine (Y2.out _).mono ?_); rintro e w' ⟨rfl, rfl⟩)))
                go_ret
                exact ⟨rfl, Below.refl _ _⟩
          · clear h
            go_enter Tryz.func40, Tryz.ntmps40
            go_wp2_with (first
              | (go_at_call 19; ((with_reducible refine (N1.out _).mono ?_); rintro e w' ⟨rfl, rfl⟩))
              | (go_at_call 19; ((with_reducible refine (N2.out _).mono ?_); rintro e w' ⟨rfl, rfl⟩))
              | (go_at_call 24; ((with_reducible refine (H1.out _).mono ?_); rintro e w' ⟨rfl, rfl⟩))
              | (go_at_call 24; ((with_reducible refine (H2.out _).mono ?_); rintro e w' ⟨rfl, rfl⟩)))
            go_ret
            exact ⟨rfl, Below.refl _ _⟩
      · clear h
        go_enter Tryz.func40, Tryz.ntmps40
        go_wp2_with (first
          | (go_at_call 19; ((with_reducible refine (N1.out _).mono ?_); rintro e w' ⟨rfl, rfl⟩))
          | (go_at_call 19; ((with_reducible refine (N2.out _).mono ?_); rintro e w' ⟨rfl, rfl⟩)))
        go_ret
        exact ⟨rfl, Below.refl _ _⟩
    · clear h
      go_enter Tryz.func40, Tryz.ntmps40
      go_wp2_with (go_at_call 19; ((with_reducible refine (N1.out _).mono ?_); rintro e w' ⟨rfl, rfl⟩))
      go_ret
      exact ⟨rfl, Below.refl _ _⟩
  · cases a <;> cases b <;> cases i1 <;> cases i2 <;> cases z1 <;> cases z2 <;> first | (exfalso; revert h h2; decide) | skip
    all_goals
      clear h h2
      go_enter Tryz.func40, Tryz.ntmps40
      go_wp2_with (first
        | (go_at_call 19; ((with_reducible refine (N1.out _).mono ?_); rintro e w' ⟨rfl, rfl⟩))
        | (go_at_call 19; ((with_reducible refine (N2.out _).mono ?_); rintro e w' ⟨rfl, rfl⟩))
        | (go_at_call 24; ((with_reducible refine (H1.out _).mono ?_); rintro e w' ⟨rfl, rfl⟩))
        | (go_at_call 24; ((with_reducible refine (H2.out _).mono ?_); rintro e w' ⟨rfl, rfl⟩))
        | (go_at_call 56; ((with_reducible refine (Y1.out _).mono ?_); rintro e w' ⟨rfl, rfl⟩))
        | (go_at_call 56; ((with_reducible refine (Y2.out _).mono ?_); rintro e w' ⟨rfl, rfl⟩))
        | (go_at_call 69; ((with_reducible refine (S1.out _ _).mono ?_); rintro e w' ⟨rfl, rfl⟩)))
      go_ret
      exact ⟨rfl, Below.refl _ _⟩
  · cases a <;> cases b <;> cases i1 <;> cases i2 <;> cases z1 <;> cases z2 <;> first | (exfalso; revert h h2 h3; decide) | skip
    all_goals
      clear h h2 h3
      go_enter Tryz.func40, Tryz.ntmps40
      go_wp2_with (first
        | (go_at_call 19; ((with_reducible refine (N1.out _).mono ?_); rintro e w' ⟨rfl, rfl⟩))
        | (go_at_call 19; ((with_reducible refine (N2.out _).mono ?_); rintro e w' ⟨rfl, rfl⟩))
        | (go_at_call 24; ((with_reducible refine (H1.out _).mono ?_); rintro e w' ⟨rfl, rfl⟩))
        | (go_at_call 24; ((with_reducible refine (H2.out _).mono ?_); rintro e w' ⟨rfl, rfl⟩))
        | (go_at_call 56; ((with_reducible refine (Y1.out _).mono ?_); rintro e w' ⟨rfl, rfl⟩))
        | (go_at_call 56; ((with_reducible refine (Y2.out _).mono ?_); rintro e w' ⟨rfl, rfl⟩))
        | (go_at_call 69; ((with_reducible refine (S2.out _ _).mono ?_); rintro e w' ⟨rfl, rfl⟩)))
      go_ret
      exact ⟨rfl, Below.refl _ _⟩

set_option maxRecDepth 100000 in
set_option maxHeartbeats 4000000 in
/-- Finite reals, none of them zero. -/
theorem rdiv_num (u v : Nat) (hu : u < 2 ^ 64) (hv : v < 2 ^ 64) (hz : rg v ≠ 0) (n1 : NanC u false) (n2 : NanC v false) (I1 : InfC u false) (Z1 : ZerC u false) (I2 : InfC v false) (Z2 : ZerC v false) (w : World) :
    Calls Tryz.prog 40 #[.int .u64 u, .int .u64 v] w (RetU w (wd (sgn u ^^ sgn v) (rNear (mg (rg u) * 2 ^ 128 / mg (rg v)) (pp u - pp v - 128) (if mg (rg u) * 2 ^ 128 % mg (rg v) = 0 then 0 else 1)))) := by
  obtain ⟨x, s, f1, f2, f3⟩ := xor_facts u v hu hv
  generalize (sgn u ^^ sgn v) = sg at *
  have N1 := Lib.hid n1
  have N2 := Lib.hid n2
  have H1 := Lib.hid I1
  have H2 := Lib.hid I2
  have Y1 := Lib.hid Z1
  have Y2 := Lib.hid Z2
  have O1 := Lib.hid (fun w => rof_any u hu w)
  have O2 := Lib.hid (fun w => rof_any v hv w)
  have p1 := pp_bd u
  have p2 := pp_bd v
  have p1' := p1.2 hu
  have p2' := p2.2 hv
  have hm1 := mg_nd u
  have hm2 := mg_nd v
  have hmp := mg_pos hz
  have hp10 : -1074 ≤ pp u := p1.1
  have hp20 : -1074 ≤ pp v := p2.1
  clear n1 n2 I1 I2 Z1 Z2 hu hv p1 p2 hz
  generalize sgn u = su at *
  generalize sgn v = sv at *
  generalize mg (rg u) = m1 at *
  generalize mg (rg v) = m2 at *
  generalize pp u = P1 at *
  generalize pp v = P2 at *
  have hsh := nd_shl m1 128
  have hqn : nd (m1 * 2 ^ 128 / m2) ≤ 20000 := by have := nd_mono (Nat.div_le_self (m1 * 2 ^ 128) m2); omega
  generalize hq : m1 * 2 ^ 128 / m2 = q at *
  generalize hr : m1 * 2 ^ 128 % m2 = r at *
  generalize ht : (if r = 0 then 0 else 1) = t at *
  have HT := Lib.hid (show t = (decide (0 < nd r)).toNat by
    have := @nd_eq_zero r
    rw [← ht]
    by_cases h : r = 0
    · rw [if_pos h, decide_eq_false (by omega)]; rfl
    · rw [if_neg h, decide_eq_true (by omega)]; rfl)
  have HSH := Lib.hid hsh
  have HQ := Lib.hid hq
  have HR := Lib.hid hr
  have HMP := Lib.hid hmp
  clear hsh hmp hq hr ht
  go_enter Tryz.func40, Tryz.ntmps40
  go_wp2_with (first
    | (go_at_call 19; ((with_reducible refine (N1.out _).mono ?_); rintro e w' ⟨rfl, rfl⟩))
    | (go_at_call 19; ((with_reducible refine (N2.out _).mono ?_); rintro e w' ⟨rfl, rfl⟩))
    | (go_at_call 24; ((with_reducible refine (H1.out _).mono ?_); rintro e w' ⟨rfl, rfl⟩))
    | (go_at_call 24; ((with_reducible refine (H2.out _).mono ?_); rintro e w' ⟨rfl, rfl⟩))
    | (go_at_call 56; ((with_reducible refine (Y1.out _).mono ?_); rintro e w' ⟨rfl, rfl⟩))
    | (go_at_call 56; ((with_reducible refine (Y2.out _).mono ?_); rintro e w' ⟨rfl, rfl⟩))
    | (go_at_call 68; ((with_reducible refine (O1.out _).mono ?_); rintro e w1 ⟨v1, rfl, hv1, hbel1⟩); obtain ⟨A1, k1, rfl⟩ := hv1.shape; have HV1 := Lib.hid hv1; have HB1 := Lib.hid hbel1; clear hv1 hbel1)
    | (go_at_call 68; ((with_reducible refine (O2.out _).mono ?_); rintro e w2 ⟨v2, rfl, hv2, hbel2⟩); obtain ⟨A2, k2, rfl⟩ := hv2.shape; have HV2 := Lib.hid hv2; have HB2 := Lib.hid hbel2; clear hv2 hbel2))
  have b1 := (Blk.new w2 72 #[.bool su, .slice A1 (nd m1) k1, .int .i64 P1]).alloc (.cells #[.bool sv, .slice A2 (nd m2) k2, .int .i64 P2] 72)
  have b2 : Blk ((w2.alloc (.cells #[.bool su, .slice A1 (nd m1) k1, .int .i64 P1] 72)).alloc (.cells #[.bool sv, .slice A2 (nd m2) k2, .int .i64 P2] 72)) (w2.heap.size + 1) 72 #[.bool sv, .slice A2 (nd m2) k2, .int .i64 P2] := by
    have := Blk.new (w2.alloc (.cells #[.bool su, .slice A1 (nd m1) k1, .int .i64 P1] 72)) 72 #[.bool sv, .slice A2 (nd m2) k2, .int .i64 P2]
    simpa using this
  have hW := two_alloc w2 (.cells #[.bool su, .slice A1 (nd m1) k1, .int .i64 P1] 72) (.cells #[.bool sv, .slice A2 (nd m2) k2, .int .i64 P2] 72)
  generalize (w2.alloc (.cells #[.bool su, .slice A1 (nd m1) k1, .int .i64 P1] 72)).alloc (.cells #[.bool sv, .slice A2 (nd m2) k2, .int .i64 P2] 72) = W at *
  obtain ⟨c0, c1, c2⟩ := box_cells b1
  obtain ⟨d0, d1, d2⟩ := box_cells b2
  have D1 := Lib.hid ((HV1.out.below HB2.out).below hW)
  have D2 := Lib.hid (HV2.out.below hW)
  have BX1 := Lib.hid b1
  have BX2 := Lib.hid b2
  have HW := Lib.hid (HB1.out.trans ((HB2.out.trans (hW.mono HB2.out.size)).mono HB1.out.size))
  have l1 := b1.lt
  have l2 := b2.lt
  have hsW := HW.out.size
  clear b1 b2 hW HB1 HB2 HV1 HV2
  go_region_held3 (fun w' => w'.cell? ⟨w2.heap.size, 1, none⟩ = some (.slice A1 (nd m1) k1) ∧ w'.cell? ⟨w2.heap.size, 2, none⟩ = some (.int .i64 P1) ∧ w'.cell? ⟨w2.heap.size + 1, 1, none⟩ = some (.slice A2 (nd m2) k2) ∧ w'.cell? ⟨w2.heap.size + 1, 2, none⟩ = some (.int .i64 P2)) (first | go_keep | exact K3.out)
    (first
      | (go_at_call 72; refine (shl_D _ m1 128 _ _ (by omega) (by omega) rfl (by exact D1.out)).mono ?_; rintro e w3 ⟨v3, rfl, hv3, _, hbel3⟩; have HV3 := Lib.hid hv3; have K3 := Lib.hid (four_cells (BX1.out.drew.below hbel3 l1) (BX2.out.drew.below hbel3 l2)); have HB3 := Lib.hid hbel3; clear hv3 hbel3)
      | (go_at_call 71; refine (div_D v3 _ (m1 * 2 ^ 128) m2 _ (by have := HSH.out; omega) (by omega) HMP.out HV3.out (by exact (D.below (show D W.drew _ m2 from D2.out) HB3.out))).mono ?_; rintro e w4 ⟨v4, u4, rfl, hv4, hu4, _, _, hbel4⟩; rw [HQ.out] at hv4; rw [HR.out] at hu4; have HV4 := Lib.hid hv4; have HU4 := Lib.hid hu4; have hbt := HB3.out.trans (hbel4.mono HB3.out.size); have BX41 := Lib.hid (BX1.out.drew.below hbt l1); have BX42 := Lib.hid (BX2.out.drew.below hbt l2); have K3 := Lib.hid (four_cells BX41.out BX42.out); have HB4 := Lib.hid hbt; clear hv4 hu4 hbel4 hbt))
  clear c0 c1 c2 d0 d1 d2
  obtain ⟨c1, c2, d1, d2⟩ := K3.out
  obtain ⟨A4, k4, rfl⟩ := HV4.out.shape
  obtain ⟨A5, k5, rfl⟩ := HU4.out.shape
  go_wp2_with fail
  refine (near_any sg (decide (0 < nd r)) _ q (P1 - P2 - 128) _ hqn (by omega) (by omega) HV4.out).mono ?_
  rintro e w5 ⟨rfl, hbel5⟩
  have HB5 := Lib.hid hbel5
  clear hbel5
  go_wp2_with fail
  go_ret
  exact ⟨by rw [HT.out]; rfl, HW.out.drew.trans ((HB4.out.trans (HB5.out.mono HB4.out.size)).mono hsW)⟩

theorem rdiv_any (u v : Nat) (hu : u < 2 ^ 64) (hv : v < 2 ^ 64) (w : World) :
    Calls Tryz.prog 40 #[.int .u64 u, .int .u64 v] w (RetU w (opN (Ieee.double.div u v))) := by
  have hca : (0 : Nat) ≠ cap := by decide
  by_cases h1 : cap < rg u
  · rw [div_nan (.inl h1)]
    exact rdiv_flat u v hu hv true _ _ _ _ _ _ (.inl ⟨rfl, rfl⟩) (nanC hu (decide_eq_true h1)) (nanC hv rfl) (infC hu rfl) (zerC hv rfl) (zerC hu rfl) (infC hv rfl) w
  by_cases h2 : cap < rg v
  · rw [div_nan (.inr h2)]
    exact rdiv_flat u v hu hv false true _ _ _ _ _ (.inl ⟨rfl, rfl⟩) (nanC hu (decide_eq_false h1)) (nanC hv (decide_eq_true h2)) (infC hu rfl) (zerC hv rfl) (zerC hu rfl) (infC hv rfl) w
  have n1 := nanC hu (decide_eq_false h1)
  have n2 := nanC hv (decide_eq_false h2)
  by_cases i1 : rg u = cap
  · by_cases i2 : rg v = cap
    · rw [div_inf_inf i1 i2]
      exact rdiv_flat u v hu hv false false true _ true _ _ (.inl ⟨rfl, rfl⟩) n1 n2 (infC hu (decide_eq_true i1)) (zerC hv rfl) (zerC hu rfl) (infC hv (decide_eq_true i2)) w
    · rw [div_inf_l i1 (by omega)]
      exact rdiv_flat u v hu hv false false true false false _ _ (.inr (.inl ⟨rfl, rfl, rfl⟩)) n1 n2 (infC hu (decide_eq_true i1)) (zerC hv rfl) (zerC hu (decide_eq_false (by omega))) (infC hv (decide_eq_false i2)) w
  · by_cases z2 : rg v = 0
    · by_cases z1 : rg u = 0
      · rw [div_zero_zero z1 z2]
        exact rdiv_flat u v hu hv false false false true _ true _ (.inl ⟨by cases decide (rg v = cap) <;> rfl, rfl⟩) n1 n2 (infC hu (decide_eq_false i1)) (zerC hv (decide_eq_true z2)) (zerC hu (decide_eq_true z1)) (infC hv rfl) w
      · rw [div_zero_r z2 (by omega) z1]
        exact rdiv_flat u v hu hv false false false false false true _ (.inr (.inl ⟨rfl, rfl, rfl⟩)) n1 n2 (infC hu (decide_eq_false i1)) (zerC hv (decide_eq_true z2)) (zerC hu (decide_eq_false z1)) (infC hv (decide_eq_false (by omega))) w
    · by_cases i2 : rg v = cap
      · rw [div_inf_r i2 (by omega)]
        exact rdiv_flat u v hu hv false false false (decide (rg u = 0)) true false _ (.inr (.inr ⟨by cases decide (rg u = 0) <;> rfl, rfl, rfl, rfl⟩)) n1 n2 (infC hu (decide_eq_false i1)) (zerC hv (decide_eq_false z2)) (zerC hu rfl) (infC hv (decide_eq_true i2)) w
      · by_cases z1 : rg u = 0
        · rw [div_zero_l z1 (by omega) z2]
          exact rdiv_flat u v hu hv false false false true false false _ (.inr (.inr ⟨rfl, rfl, rfl, rfl⟩)) n1 n2 (infC hu (decide_eq_false i1)) (zerC hv (decide_eq_false z2)) (zerC hu (decide_eq_true z1)) (infC hv (decide_eq_false i2)) w
        · rw [rdiv_fin (by omega) (by omega) z1 z2]
          exact rdiv_num u v hu hv z2 n1 n2 (infC hu (decide_eq_false i1)) (zerC hu (decide_eq_false z1)) (infC hv (decide_eq_false i2)) (zerC hv (decide_eq_false z2)) w
end Go.Proofs.YtceoapkkmgllaaaGreatDoor
