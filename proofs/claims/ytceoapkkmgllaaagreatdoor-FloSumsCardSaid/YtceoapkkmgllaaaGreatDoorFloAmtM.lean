/- The reference's Mul, whole. -/
import Derived.Test.YtceoapkkmgllaaaGreatDoorFloAmtL
namespace Go.Proofs.YtceoapkkmgllaaaGreatDoor
open Go.RowKit FloM

theorem two_alloc (w : World) (o o' : Obj) : Below w.heap.size w ((w.alloc o).alloc o') := ((Below.refl _ _).alloc (Nat.le_refl _) o).alloc (by simp) o'
theorem four_cells {w : World} {g g' : Nat} {t t' : TypeId} {a b c a' b' c' : Value} (h : Blk w g t #[a, b, c]) (h' : Blk w g' t' #[a', b', c']) :
    w.cell? ⟨g, 1, none⟩ = some b ∧ w.cell? ⟨g, 2, none⟩ = some c ∧ w.cell? ⟨g', 1, none⟩ = some b' ∧ w.cell? ⟨g', 2, none⟩ = some c' := ⟨h.cell 1, h.cell 2, h'.cell 1, h'.cell 2⟩

set_option maxRecDepth 100000 in
set_option maxHeartbeats 2000000 in
/-- An infinity times what is no zero. -/
theorem rmul_inf (u v : Nat) (hu : u < 2 ^ 64) (hv : v < 2 ^ 64) (n1 : NanC u false) (n2 : NanC v false) (i1 z1 i2 z2 : Bool) (hc : (i1 && z2) = false) (hd : (z1 && i2) = false) (hi : (i1 || i2) = true)
    (I1 : InfC u i1) (Z2 : ZerC v z2) (Z1 : ZerC u z1) (I2 : InfC v i2) (w : World) :
    Calls Tryz.prog 38 #[.int .u64 u, .int .u64 v] w (RetU w (wd (sgn u ^^ sgn v) cap)) := by
  obtain ⟨x, s, f1, f2, f3⟩ := xor_facts u v hu hv
  have S := Lib.hid (fun b w => sgn_int b cap 9218868437227405312 w cap_lt (by decide))
  generalize (sgn u ^^ sgn v) = sg at *
  have N1 := Lib.hid n1
  have N2 := Lib.hid n2
  have H1 := Lib.hid I1
  have H2 := Lib.hid I2
  have Y1 := Lib.hid Z1
  have Y2 := Lib.hid Z2
  clear n1 n2 I1 I2 Z1 Z2 hu hv
  cases i1 <;> cases z2 <;> cases z1 <;> cases i2 <;> first | (exfalso; revert hc hd hi; decide) | skip
  all_goals
    clear hc hd hi
    go_enter Tryz.func38, Tryz.ntmps38
    go_wp2_with (first
      | (go_at_call 19; ((with_reducible refine (N1.out _).mono ?_); rintro e w' ⟨rfl, rfl⟩))
      | (go_at_call 19; ((with_reducible refine (N2.out _).mono ?_); rintro e w' ⟨rfl, rfl⟩))
      | (go_at_call 24; ((with_reducible refine (H1.out _).mono ?_); rintro e w' ⟨rfl, rfl⟩))
      | (go_at_call 56; ((with_reducible refine (Y2.out _).mono ?_); rintro e w' ⟨rfl, rfl⟩))
      | (go_at_call 24; ((with_reducible refine (H2.out _).mono ?_); rintro e w' ⟨rfl, rfl⟩))
      | (go_at_call 56; ((with_reducible refine (Y1.out _).mono ?_); rintro e w' ⟨rfl, rfl⟩))
      | (go_at_call 69; ((with_reducible refine (S.out _ _).mono ?_); rintro e w' ⟨rfl, rfl⟩)))
    go_ret
    exact ⟨rfl, Below.refl _ _⟩

set_option maxRecDepth 100000 in
set_option maxHeartbeats 4000000 in
/-- Finite reals. -/
theorem rmul_num (u v : Nat) (hu : u < 2 ^ 64) (hv : v < 2 ^ 64) (n1 : NanC u false) (n2 : NanC v false) (z1 : Bool) (I1 : InfC u false) (Z1 : ZerC u z1) (I2 : InfC v false) (w : World) :
    Calls Tryz.prog 38 #[.int .u64 u, .int .u64 v] w (RetU w (wd (sgn u ^^ sgn v) (rNear (mg (rg u) * mg (rg v)) (pp u + pp v) 0))) := by
  obtain ⟨x, s, f1, f2, f3⟩ := xor_facts u v hu hv
  generalize (sgn u ^^ sgn v) = sg at *
  have N1 := Lib.hid n1
  have N2 := Lib.hid n2
  have H1 := Lib.hid I1
  have H2 := Lib.hid I2
  have Y1 := Lib.hid Z1
  have O1 := Lib.hid (fun w => rof_any u hu w)
  have O2 := Lib.hid (fun w => rof_any v hv w)
  have p1 := pp_bd u
  have p2 := pp_bd v
  have p1' := p1.2 hu
  have p2' := p2.2 hv
  have hm1 := mg_nd u
  have hm2 := mg_nd v
  have hmm : nd (mg (rg u) * mg (rg v)) ≤ 20000 := by
    have : mg (rg u) * mg (rg v) < 2 ^ (16 * 10) := by
      have h1 := mg_lt (rg u)
      have h2 := mg_lt (rg v)
      calc mg (rg u) * mg (rg v) ≤ 2 ^ 53 * 2 ^ 53 := Nat.mul_le_mul (Nat.le_of_lt h1) (Nat.le_of_lt h2)
        _ < 2 ^ (16 * 10) := by decide
    have := nd_bound this
    omega
  have hp10 : -1074 ≤ pp u := p1.1
  have hp20 : -1074 ≤ pp v := p2.1
  clear n1 n2 I1 I2 Z1 hu hv p1 p2
  generalize sgn u = su at *
  generalize sgn v = sv at *
  generalize mg (rg u) = m1 at *
  generalize mg (rg v) = m2 at *
  generalize pp u = P1 at *
  generalize pp v = P2 at *
  have hwr : IntKind.i64.wrap (P1 + P2) = P1 + P2 := IntWalk.i64_in _ (by omega)
  cases z1
  all_goals
    go_enter Tryz.func38, Tryz.ntmps38
    go_wp2_with (first
      | (go_at_call 19; ((with_reducible refine (N1.out _).mono ?_); rintro e w' ⟨rfl, rfl⟩))
      | (go_at_call 19; ((with_reducible refine (N2.out _).mono ?_); rintro e w' ⟨rfl, rfl⟩))
      | (go_at_call 24; ((with_reducible refine (H1.out _).mono ?_); rintro e w' ⟨rfl, rfl⟩))
      | (go_at_call 24; ((with_reducible refine (H2.out _).mono ?_); rintro e w' ⟨rfl, rfl⟩))
      | (go_at_call 56; ((with_reducible refine (Y1.out _).mono ?_); rintro e w' ⟨rfl, rfl⟩))
      | (go_at_call 68; ((with_reducible refine (O1.out _).mono ?_); rintro e w1 ⟨v1, rfl, hv1, hbel1⟩); obtain ⟨A1, k1, rfl⟩ := hv1.shape; have HV1 := Lib.hid hv1; have HB1 := Lib.hid hbel1; clear hv1 hbel1)
      | (go_at_call 68; ((with_reducible refine (O2.out _).mono ?_); rintro e w2 ⟨v2, rfl, hv2, hbel2⟩); obtain ⟨A2, k2, rfl⟩ := hv2.shape; have HV2 := Lib.hid hv2; have HB2 := Lib.hid hbel2; clear hv2 hbel2))
    have b1 := (Blk.new w2 72 #[.bool su, .slice A1 (nd m1) k1, .int .i64 P1]).alloc (.cells #[.bool sv, .slice A2 (nd m2) k2, .int .i64 P2] 72)
    have b2 : Blk ((w2.alloc (.cells #[.bool su, .slice A1 (nd m1) k1, .int .i64 P1] 72)).alloc (.cells #[.bool sv, .slice A2 (nd m2) k2, .int .i64 P2] 72)) (w2.heap.size + 1) 72 #[.bool sv, .slice A2 (nd m2) k2, .int .i64 P2] := by
      have := Blk.new (w2.alloc (.cells #[.bool su, .slice A1 (nd m1) k1, .int .i64 P1] 72)) 72 #[.bool sv, .slice A2 (nd m2) k2, .int .i64 P2]
      simpa using this
    have hW := two_alloc w2 (.cells #[.bool su, .slice A1 (nd m1) k1, .int .i64 P1] 72) (.cells #[.bool sv, .slice A2 (nd m2) k2, .int .i64 P2] 72)
    generalize (w2.alloc (.cells #[.bool su, .slice A1 (nd m1) k1, .int .i64 P1] 72)).alloc (.cells #[.bool sv, .slice A2 (nd m2) k2, .int .i64 P2] 72) = W at *
    obtain ⟨c0, c1, c2⟩ := box_cells b1
    obtain ⟨d0, d1, d2⟩ := box_cells b2
    have D1 := Lib.hid ((HV1.out.below HB2.out).below hW)
    have D2 := Lib.hid (HV2.out.below hW)
    have BX1 := Lib.hid b1
    have BX2 := Lib.hid b2
    have HW := Lib.hid (HB1.out.trans ((HB2.out.trans (hW.mono HB2.out.size)).mono HB1.out.size))
    have l1 := b1.lt
    have l2 := b2.lt
    have hsW := HW.out.size
    clear b1 b2 hW HB1 HB2 HV1 HV2
    go_region_held3 (fun w' => w'.cell? ⟨w2.heap.size, 1, none⟩ = some (.slice A1 (nd m1) k1) ∧ w'.cell? ⟨w2.heap.size, 2, none⟩ = some (.int .i64 P1) ∧ w'.cell? ⟨w2.heap.size + 1, 1, none⟩ = some (.slice A2 (nd m2) k2) ∧ w'.cell? ⟨w2.heap.size + 1, 2, none⟩ = some (.int .i64 P2)) (first | go_keep | exact K3.out)
      (first
        | (go_at_call 70; refine (mul_D _ _ m1 m2 _ (by omega) (by omega) (by exact D1.out) (by exact D2.out)).mono ?_; rintro e w3 ⟨v3, rfl, hv3, _, hbel3⟩; obtain ⟨A3, k3, rfl⟩ := hv3.shape; have HV3 := Lib.hid hv3; have K3 := Lib.hid (four_cells (BX1.out.drew.below hbel3 l1) (BX2.out.drew.below hbel3 l2)); have HB3 := Lib.hid hbel3; clear hv3 hbel3)
        | (go_at_call 66; refine (near_any sg false _ (m1 * m2) (P1 + P2) _ hmm (by omega) (by omega) (by exact HV3.out)).mono ?_; rintro e w4 ⟨rfl, hbel4⟩; have K3 := Lib.hid (four_cells (BX1.out.drew.below (HB3.out.trans (hbel4.mono HB3.out.size)) l1) (BX2.out.drew.below (HB3.out.trans (hbel4.mono HB3.out.size)) l2)); have HB4 := Lib.hid hbel4; clear hbel4))
    go_wp2_with fail
    go_ret
    exact ⟨rfl, HW.out.drew.trans ((HB3.out.trans (HB4.out.mono HB3.out.size)).mono hsW)⟩

theorem rmul_any (u v : Nat) (hu : u < 2 ^ 64) (hv : v < 2 ^ 64) (w : World) :
    Calls Tryz.prog 38 #[.int .u64 u, .int .u64 v] w (RetU w (opN (Ieee.double.mul u v))) := by
  by_cases h1 : cap < rg u
  · rw [mul_nan (.inl h1)]
    exact rmul_none u v hu hv true _ _ _ (.inl rfl) (nanC hu (decide_eq_true h1)) (nanC hv rfl) _ _ _ _ rfl rfl (infC hu rfl) (zerC hv rfl) (zerC hu rfl) (infC hv rfl) w
  by_cases h2 : cap < rg v
  · rw [mul_nan (.inr h2)]
    exact rmul_none u v hu hv false true _ _ (.inr (.inl ⟨rfl, rfl⟩)) (nanC hu (decide_eq_false h1)) (nanC hv (decide_eq_true h2)) _ _ _ _ rfl rfl (infC hu rfl) (zerC hv rfl) (zerC hu rfl) (infC hv rfl) w
  have n1 := nanC hu (decide_eq_false h1)
  have n2 := nanC hv (decide_eq_false h2)
  have hca : (0 : Nat) ≠ cap := by decide
  by_cases i1 : rg u = cap
  · by_cases z2 : rg v = 0
    · rw [mul_inf_zero i1 z2]
      exact rmul_none u v hu hv false false true _ (.inr (.inr (.inl ⟨rfl, rfl, rfl⟩))) n1 n2 true _ _ true rfl rfl (infC hu (decide_eq_true i1)) (zerC hv (decide_eq_true z2)) (zerC hu rfl) (infC hv rfl) w
    · rw [mul_inf_l i1 (by omega) z2]
      exact rmul_inf u v hu hv n1 n2 true false _ false rfl rfl rfl (infC hu (decide_eq_true i1)) (zerC hv (decide_eq_false z2)) (zerC hu (decide_eq_false (by omega))) (infC hv rfl) w
  · by_cases i2 : rg v = cap
    · by_cases z1 : rg u = 0
      · rw [mul_zero_inf z1 i2]
        exact rmul_none u v hu hv false false false true (.inr (.inr (.inr ⟨rfl, rfl, rfl, rfl⟩))) n1 n2 false true true _ rfl rfl (infC hu (decide_eq_false i1)) (zerC hv rfl) (zerC hu (decide_eq_true z1)) (infC hv (decide_eq_true i2)) w
      · rw [mul_inf_r i2 (by omega) z1]
        exact rmul_inf u v hu hv n1 n2 false false true _ rfl rfl rfl (infC hu (decide_eq_false i1)) (zerC hv rfl) (zerC hu (decide_eq_false z1)) (infC hv (decide_eq_true i2)) w
    · rw [rmul_fin (by omega) (by omega)]
      exact rmul_num u v hu hv n1 n2 _ (infC hu (decide_eq_false i1)) (zerC hu rfl) (infC hv (decide_eq_false i2)) w
end Go.Proofs.YtceoapkkmgllaaaGreatDoor
