/- The reference's exact sum. -/
import Derived.Test.YtceoapkkmgllaaaGreatDoorFloAmtN
namespace Go.Proofs.YtceoapkkmgllaaaGreatDoor
open Go.RowKit FloM

theorem keep_set3 {w : World} {g g' i : Nat} {v x y z : Value} (h : w.cell? ⟨g, i, none⟩ = some v) (hne : g ≠ g') : (set3 w g' x y z).cell? ⟨g, i, none⟩ = some v := by
  unfold set3
  have e : ∀ j, (⟨g, i, none⟩ : Addr) ≠ ⟨g', j, none⟩ := fun j h => hne (congrArg Addr.block h)
  rw [World.cell?_setCell_other _ _ _ _ (e 2).symm, World.cell?_setCell_other _ _ _ _ (e 1).symm, World.cell?_setCell_other _ _ _ _ (e 0).symm]
  exact h
theorem nil_D (w : World) : D w (.slice none 0 0) 0 := by
  show DS w (.slice none 0 0) (nd 0) 0
  rw [nd_zero]
  exact ⟨none, 0, rfl, Nat.le_refl _, by unfold maxLen; omega, by simp, Reads.none_⟩
theorem three_alloc (w : World) (o o' o2 : Obj) : Below w.heap.size w (((w.alloc o).alloc o').alloc o2) := (two_alloc w o o').alloc (by simp; omega) o2

set_option maxRecDepth 100000 in
set_option maxHeartbeats 4000000 in
theorem radd_walk (s t : Bool) (va vb : Value) (M N : Nat) (P1 P2 p : Int) (i j : Nat) (w : World) (hi : (i : Int) = P1 - p) (hj : (j : Int) = P2 - p) (hp : p = min P1 P2) (hi2 : i ≤ 2100) (hj2 : j ≤ 2100) (_hpb : -1074 ≤ p) (_hpb2 : p ≤ 1000) (hM : nd M ≤ 4) (hN : nd N ≤ 4)
    (ha : D w va M) (hb : D w vb N) :
    Calls Tryz.prog 67 #[.agg #[.bool s, va, .int .i64 P1], .agg #[.bool t, vb, .int .i64 P2]] w (GivesX w (addS s t (M * 2 ^ i) (N * 2 ^ j)) (addM s t (M * 2 ^ i) (N * 2 ^ j)) p) := by
  obtain ⟨A1, k1, rfl⟩ := ha.shape
  obtain ⟨A2, k2, rfl⟩ := hb.shape
  have HA := Lib.hid ha
  have HB := Lib.hid hb
  have hmn : min P1 P2 = p := hp.symm
  have hw1 : IntKind.i64.wrap (P1 - p) = (i : Int) := by rw [← hi]; exact IntWalk.i64_in _ (by omega)
  have hw2 : IntKind.i64.wrap (P2 - p) = (j : Int) := by rw [← hj]; exact IntWalk.i64_in _ (by omega)
  obtain ⟨B, hB⟩ : ∃ B, B = addS s t (M * 2 ^ i) (N * 2 ^ j) := ⟨_, rfl⟩
  obtain ⟨R, hR⟩ : ∃ R, R = addM s t (M * 2 ^ i) (N * 2 ^ j) := ⟨_, rfl⟩
  rw [← hB, ← hR]
  have HBB := Lib.hid hB
  have HRR := Lib.hid hR
  have S1 := Lib.hid (fun va w (h : D w va M) => shl_D va M i i w (by omega) (by omega) rfl h)
  have S2 := Lib.hid (fun va w (h : D w va N) => shl_D va N j j w (by omega) (by omega) rfl h)
  have hn1 := nd_shl M i
  have hn2 := nd_shl N j
  generalize M * 2 ^ i = a at *
  generalize N * 2 ^ j = b at *
  clear ha hb hp hi hj hB hR
  go_enter Tryz.func67, Tryz.ntmps67
  go_wp2_with fail
  clear hmn
  have T := 72
  clear T
  have b1 : Blk (((w.alloc (.cells #[.bool s, .slice A1 (nd M) k1, .int .i64 P1] 72)).alloc (.cells #[.bool t, .slice A2 (nd N) k2, .int .i64 P2] 72)).alloc (.cells #[.bool false, .slice none 0 0, .int .i64 0] 72)) w.heap.size 72 #[.bool s, .slice A1 (nd M) k1, .int .i64 P1] := ((Blk.new w _ _).alloc _).alloc _
  have b2 : Blk (((w.alloc (.cells #[.bool s, .slice A1 (nd M) k1, .int .i64 P1] 72)).alloc (.cells #[.bool t, .slice A2 (nd N) k2, .int .i64 P2] 72)).alloc (.cells #[.bool false, .slice none 0 0, .int .i64 0] 72)) (w.heap.size + 1) 72 #[.bool t, .slice A2 (nd N) k2, .int .i64 P2] := by
    have := Blk.new (w.alloc (.cells #[.bool s, .slice A1 (nd M) k1, .int .i64 P1] 72)) 72 #[.bool t, .slice A2 (nd N) k2, .int .i64 P2]
    rw [World.size_alloc] at this
    exact this.alloc _
  have b3 : Blk (((w.alloc (.cells #[.bool s, .slice A1 (nd M) k1, .int .i64 P1] 72)).alloc (.cells #[.bool t, .slice A2 (nd N) k2, .int .i64 P2] 72)).alloc (.cells #[.bool false, .slice none 0 0, .int .i64 0] 72)) (w.heap.size + 1 + 1) 72 #[.bool false, .slice none 0 0, .int .i64 0] := by
    have := Blk.new ((w.alloc (.cells #[.bool s, .slice A1 (nd M) k1, .int .i64 P1] 72)).alloc (.cells #[.bool t, .slice A2 (nd N) k2, .int .i64 P2] 72)) 72 #[.bool false, .slice none 0 0, .int .i64 0]
    rw [World.size_alloc, World.size_alloc] at this
    exact this
  have hW := three_alloc w (.cells #[.bool s, .slice A1 (nd M) k1, .int .i64 P1] 72) (.cells #[.bool t, .slice A2 (nd N) k2, .int .i64 P2] 72) (.cells #[.bool false, .slice none 0 0, .int .i64 0] 72)
  generalize ((w.alloc (.cells #[.bool s, .slice A1 (nd M) k1, .int .i64 P1] 72)).alloc (.cells #[.bool t, .slice A2 (nd N) k2, .int .i64 P2] 72)).alloc (.cells #[.bool false, .slice none 0 0, .int .i64 0] 72) = W at *
  obtain ⟨c0, c1, c2⟩ := box_cells b1
  obtain ⟨d0, d1, d2⟩ := box_cells b2
  have D1 := Lib.hid (show D W.drew _ M from HA.out.below hW.drew)
  have D2 := Lib.hid (show D W.drew _ N from HB.out.below hW.drew)
  have BX1 := Lib.hid b1
  have BX2 := Lib.hid b2
  have BX3 := Lib.hid b3
  have HW := Lib.hid hW
  have l1 := b1.lt
  have l2 := b2.lt
  have l3 := b3.lt
  have hsW := hW.size
  clear b1 b2 b3 hW
  go_region_held3 (fun w' => w'.cell? ⟨w.heap.size, 1, none⟩ = some (.slice A1 (nd M) k1) ∧ w'.cell? ⟨w.heap.size, 2, none⟩ = some (.int .i64 P1) ∧ w'.cell? ⟨w.heap.size + 1, 1, none⟩ = some (.slice A2 (nd N) k2) ∧ w'.cell? ⟨w.heap.size + 1, 2, none⟩ = some (.int .i64 P2)) (first | go_keep | exact K3.out)
    (first
      | (go_at_call 72; ((with_reducible refine (S1.out _ _ D1.out).mono ?_); rintro e w3 ⟨v3, rfl, hv3, hf3, hbel3⟩); have HV3 := Lib.hid hv3; have HF3 := Lib.hid hf3; have BX31 := Lib.hid (BX1.out.drew.below hbel3 l1); have BX32 := Lib.hid (BX2.out.drew.below hbel3 l2); have BX33 := Lib.hid (BX3.out.drew.below hbel3 l3); have K3 := Lib.hid (four_cells BX31.out BX32.out); have HB3 := Lib.hid hbel3; clear hv3 hbel3 hf3)
      | (go_at_call 72; ((with_reducible refine (S2.out _ _ (D.below D2.out HB3.out)).mono ?_); rintro e w4 ⟨v4, rfl, hv4, hf4, hbel4⟩); have HV4 := Lib.hid hv4; have HV34 := Lib.hid (HV3.out.below hbel4); have HF4 := Lib.hid hf4; have BX41 := Lib.hid (BX31.out.below hbel4 BX31.out.lt); have BX42 := Lib.hid (BX32.out.below hbel4 BX32.out.lt); have BX43 := Lib.hid (BX33.out.below hbel4 BX33.out.lt); have K3 := Lib.hid (four_cells BX41.out BX42.out); have HB4 := Lib.hid (HB3.out.trans (hbel4.mono HB3.out.size)); clear hv4 hbel4 hf4))
  clear c0 c1 c2 d0 d1 d2 hw1 hw2
  obtain ⟨c0, c1, c2⟩ := box_cells BX41.out
  obtain ⟨d0, d1, d2⟩ := box_cells BX42.out
  obtain ⟨r0, r1, r2⟩ := box_cells BX43.out
  obtain ⟨q0, q1, q2⟩ := box_free BX43.out
  have lw4 : w.heap.size + 1 + 1 < w4.heap.size := BX43.out.lt
  by_cases hst : s = t
  · subst hst
    have HSU := Lib.hid (show B = s ∧ R = a + b from by
      rw [HBB.out, HRR.out]; unfold addS addM; rw [if_pos rfl, if_pos rfl]; exact ⟨rfl, rfl⟩)
    go_wp2_with fail
    go_region_held3 (fun w' => w'.cell? ⟨w.heap.size, 0, none⟩ = some (.bool s)) (first | go_keep | exact c5 | exact keep_set3 c5 (by omega))
      (first
        | (go_at_call 99; refine (add_D v3 v4 a b w4.drew (by omega) (by omega) (show D w4.drew v3 a from HV34.out) (show D w4.drew v4 b from HV4.out)).mono ?_; rintro e w5 ⟨v5, rfl, hv5, hf5, hbel5⟩; obtain ⟨A5, k5, rfl⟩ := hv5.shape; have HV5 := Lib.hid hv5; have HF5 := Lib.hid hf5; have HB5 := Lib.hid hbel5; have BX51 := Lib.hid (BX41.out.drew.below hbel5 BX41.out.lt); have BX53 := Lib.hid (BX43.out.drew.below hbel5 lw4); have c5 := (box_cells BX51.out).1; obtain ⟨r50, r51, r52⟩ := box_cells BX53.out; obtain ⟨q50, q51, q52⟩ := box_free BX53.out; clear hv5 hf5 hbel5))
    go_wp2_with fail
    obtain ⟨z0, z1, z2⟩ := box_cells (box_set3 (x := .bool s) (y := .slice A5 (nd (a + b)) k5) (z := .int .i64 p) BX53.out)
    unfold set3 at z0 z1 z2
    refine bodyPost_ret (v := .agg #[.bool s, .slice A5 (nd (a + b)) k5, .int .i64 p]) (by simp [results, Tryz.results67, go_sem, z0, z1, z2]) rfl ⟨_, by rw [HSU.out.1], ?_, ?_⟩
    · rw [HSU.out.2]
      exact HV5.out.set3 (fun h => by have := HF5.out _ h; have h9 : w.heap.size + 1 + 1 < w4.heap.size := lw4; simp at this; omega)
    · exact below_set3 (HW.out.drew.trans ((HB4.out.drew.trans (HB5.out.mono HB4.out.size)).mono hsW)) (by omega)
  · have hsb : (s == t) = false := by rw [beq_eq_false_iff_ne]; exact hst
    go_wp2_with fail
    clear hsb
    refine (cmp_D v3 v4 a b _ (by omega) HV34.out HV4.out).mono ?_
    rintro e w5 ⟨rfl, n5, rfl⟩
    rcases Nat.lt_trichotomy a b with h | h | h
    · have HSU := Lib.hid (show B = t ∧ R = b - a from by
        rw [HBB.out, HRR.out]; unfold addS addM; rw [if_neg hst, if_neg hst, if_neg (by omega), if_neg (by omega), if_pos h]; exact ⟨rfl, rfl⟩)
      rw [cmpN_lt h]
      go_wp2_with fail
      go_region_held3 (fun w' => w'.cell? ⟨w.heap.size + 1, 0, none⟩ = some (.bool t)) (first | go_keep | exact c5 | exact keep_set3 c5 (by omega))
        (first
          | (go_at_call 106; refine (sub_D v4 v3 b a _ (by omega) (by omega) (show D (w4.drewN n5).drew v4 b from HV4.out) (show D (w4.drewN n5).drew v3 a from HV34.out)).mono ?_; rintro e w6 ⟨v5, rfl, hv5, hf5, hbel5⟩; obtain ⟨A5, k5, rfl⟩ := hv5.shape; have HV5 := Lib.hid hv5; have HF5 := Lib.hid hf5; have HB5 := Lib.hid hbel5; have BX51 := Lib.hid (((BX42.out.drewN n5).drew).below hbel5 BX42.out.lt); have BX53 := Lib.hid (((BX43.out.drewN n5).drew).below hbel5 lw4); have c5 := (box_cells BX51.out).1; obtain ⟨r50, r51, r52⟩ := box_cells BX53.out; obtain ⟨q50, q51, q52⟩ := box_free BX53.out; clear hv5 hf5 hbel5))
      go_wp2_with fail
      obtain ⟨z0, z1, z2⟩ := box_cells (box_set3 (x := .bool t) (y := .slice A5 (nd (b - a)) k5) (z := .int .i64 p) BX53.out)
      unfold set3 at z0 z1 z2
      refine bodyPost_ret (v := .agg #[.bool t, .slice A5 (nd (b - a)) k5, .int .i64 p]) (by simp [results, Tryz.results67, go_sem, z0, z1, z2]) rfl ⟨_, by rw [HSU.out.1], ?_, ?_⟩
      · rw [HSU.out.2]
        exact HV5.out.set3 (fun h => by have := HF5.out _ h; have h9 : w.heap.size + 1 + 1 < w4.heap.size := lw4; simp at this; omega)
      · exact below_set3 (HW.out.drew.trans ((((below_drewN HB4.out n5).drew).trans (HB5.out.mono HB4.out.size)).mono hsW)) (by omega)
    · have HSU := Lib.hid (show B = false ∧ R = 0 from by
        rw [HBB.out, HRR.out]; unfold addS addM; rw [if_neg hst, if_neg hst, if_pos h, if_neg (by omega)]; exact ⟨rfl, by omega⟩)
      rw [cmpN_eq h]
      go_wp2_with fail
      obtain ⟨z0, z1, z2⟩ := box_cells (box_set3 (x := .bool false) (y := .slice none 0 0) (z := .int .i64 p) (BX43.out.drewN n5))
      unfold set3 at z0 z1 z2
      refine bodyPost_ret (v := .agg #[.bool false, .slice none 0 0, .int .i64 p]) (by simp [results, Tryz.results67, go_sem, z0, z1, z2]) rfl ⟨_, by rw [HSU.out.1], ?_, ?_⟩
      · rw [HSU.out.2]; exact nil_D _
      · exact below_set3 (HW.out.drew.trans ((below_drewN HB4.out n5).mono hsW)) (by omega)
    · have HSU := Lib.hid (show B = s ∧ R = a - b from by
        rw [HBB.out, HRR.out]; unfold addS addM; rw [if_neg hst, if_neg hst, if_neg (by omega), if_pos h, if_neg (by omega)]; exact ⟨rfl, rfl⟩)
      rw [cmpN_gt h]
      go_wp2_with fail
      go_region_held3 (fun w' => w'.cell? ⟨w.heap.size, 0, none⟩ = some (.bool s)) (first | go_keep | exact c5 | exact keep_set3 c5 (by omega))
        (first
          | (go_at_call 106; refine (sub_D v3 v4 a b _ (by omega) (by omega) (show D (w4.drewN n5).drew v3 a from HV34.out) (show D (w4.drewN n5).drew v4 b from HV4.out)).mono ?_; rintro e w6 ⟨v5, rfl, hv5, hf5, hbel5⟩; obtain ⟨A5, k5, rfl⟩ := hv5.shape; have HV5 := Lib.hid hv5; have HF5 := Lib.hid hf5; have HB5 := Lib.hid hbel5; have BX51 := Lib.hid (((BX41.out.drewN n5).drew).below hbel5 BX41.out.lt); have BX53 := Lib.hid (((BX43.out.drewN n5).drew).below hbel5 lw4); have c5 := (box_cells BX51.out).1; obtain ⟨r50, r51, r52⟩ := box_cells BX53.out; obtain ⟨q50, q51, q52⟩ := box_free BX53.out; clear hv5 hf5 hbel5))
      go_wp2_with fail
      obtain ⟨z0, z1, z2⟩ := box_cells (box_set3 (x := .bool s) (y := .slice A5 (nd (a - b)) k5) (z := .int .i64 p) BX53.out)
      unfold set3 at z0 z1 z2
      refine bodyPost_ret (v := .agg #[.bool s, .slice A5 (nd (a - b)) k5, .int .i64 p]) (by simp [results, Tryz.results67, go_sem, z0, z1, z2]) rfl ⟨_, by rw [HSU.out.1], ?_, ?_⟩
      · rw [HSU.out.2]
        exact HV5.out.set3 (fun h => by have := HF5.out _ h; have h9 : w.heap.size + 1 + 1 < w4.heap.size := lw4; simp at this; omega)
      · exact below_set3 (HW.out.drew.trans ((((below_drewN HB4.out n5).drew).trans (HB5.out.mono HB4.out.size)).mono hsW)) (by omega)
end Go.Proofs.YtceoapkkmgllaaaGreatDoor
