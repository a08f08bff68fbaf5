/- nearer -/
import Derived.Test.YtijncfidjjfmiaaGreatDoorFloTxtC
import Derived.Test.YtijncfidjjfmiaaGreatDoorFloTxtD
import Derived.Deep.RegionHeld3
import Derived.Deep.DeepCutAuto
namespace Go.Proofs.YtijncfidjjfmiaaGreatDoor
open Go.RowKit FloM
theorem keep_set3' {w : World} {g g' i : Nat} {v x y z : Value} (h : w.cell? ⟨g, i, none⟩ = some v) (hne : g ≠ g') : (set3 w g' x y z).cell? ⟨g, i, none⟩ = some v := by
  unfold set3
  have e : ∀ j, (⟨g, i, none⟩ : Addr) ≠ ⟨g', j, none⟩ := fun j h => hne (congrArg Addr.block h)
  rw [World.cell?_setCell_other _ _ _ _ (e 2).symm, World.cell?_setCell_other _ _ _ _ (e 1).symm, World.cell?_setCell_other _ _ _ _ (e 0).symm]
  exact h
theorem b5_size {w4 w5 : World} (h : Below w4.drew.heap.size w4.drew w5) : w4.heap.size ≤ w5.heap.size := h.size
theorem b5_a {w4 w5 : World} (h : Below w4.drew.heap.size w4.drew w5) (o : Obj) : Below w4.heap.size w4 (w5.alloc o) := (((Below.refl w4.heap.size w4).drew).trans h).alloc (b5_size h) o
theorem b5_b {w4 w5 : World} {o : Obj} (h : Below (w4.alloc o).drew.heap.size (w4.alloc o).drew w5) : Below w4.heap.size w4 w5 := (((Below.refl w4.heap.size w4).alloc (Nat.le_refl _) o).drew).trans (h.mono (by show w4.heap.size ≤ (w4.alloc o).heap.size; simp))
/-- An amount, old or new. -/
def GivesN (w : World) (N : Nat) (e : Ending) (w' : World) : Prop := ∃ v, e = .returned v ∧ D w' v N ∧ Below w.heap.size w w'

set_option maxRecDepth 100000 in
set_option maxHeartbeats 2000000 in
theorem nearer_o (vk vm : Value) (b : Bool) (k M o : Nat) (s P : Int) (w : World) (ho : o = 1) (hk : k < 2 ^ 60) (hM : nd M ≤ 10) (hs1 : -2000 ≤ s) (hs2 : s ≤ 2000) (hP1 : -4000 ≤ P) (hP2 : P ≤ 4000) (hmk : D w vk k) (hm : D w vm M) :
    Calls Tryz.prog 55 #[vk, .int .i64 s, .agg #[.bool b, vm, .int .i64 P]] w (GivesN w (if (M * 2) * tB s * 2 ^ P.toNat < (k + (k + o)) * tA s * 2 ^ (-P).toNat ∨ ((k + (k + o)) * tA s * 2 ^ (-P).toNat = (M * 2) * tB s * 2 ^ P.toNat ∧ k % 2 = 0) then k else k + o)) := by
  obtain ⟨X, hX⟩ : ∃ X, X = (k + (k + o)) * tA s * 2 ^ (-P).toNat := ⟨_, rfl⟩
  obtain ⟨Y, hY⟩ : ∃ Y, Y = (M * 2) * tB s * 2 ^ P.toNat := ⟨_, rfl⟩
  rw [← hX, ← hY]
  obtain ⟨R, hR⟩ : ∃ R, R = (if Y < X ∨ (X = Y ∧ k % 2 = 0) then k else k + o) := ⟨_, rfl⟩
  rw [← hR]
  have HX := Lib.hid hX
  have HY := Lib.hid hY
  have HR := Lib.hid hR
  clear hX hY hR
  obtain ⟨B, c, rfl⟩ := hm.shape
  obtain ⟨B1, c1, rfl⟩ := hmk.shape
  have HM := Lib.hid hm
  have HK := Lib.hid hmk
  have hnk : nd k ≤ 4 := nd_64 (by omega)
  have HAO := Lib.hid (show nd (k + o) ≤ 4 from nd_64 (by omega))
  have HKO := Lib.hid (show nd (k + (k + o)) ≤ 4 from nd_64 (by omega))
  have HN1 := Lib.hid (show nd o ≤ 1 by rw [ho]; decide)
  generalize hlm : nd M = lm at *
  generalize hlk : nd k = lk at *
  have HLM := Lib.hid hlm
  have HLK := Lib.hid hlk
  have HHM := Lib.hid hM
  have HNK := Lib.hid hnk
  have HHK := Lib.hid hk
  clear hlm hm hM hmk hlk hk hnk
  go_enter Tryz.func55, Tryz.ntmps55
  have hbox := Blk.new w 76 #[.bool b, .slice B lm c, .int .i64 P]
  have hbox2 : Blk ((w.alloc (.cells #[.bool b, .slice B lm c, .int .i64 P] 76)).alloc (.cells #[.int .u16 1] 81)) w.heap.size 76 #[.bool b, .slice B lm c, .int .i64 P] := hbox.alloc (.cells #[.int .u16 1] 81)
  have hone : D ((w.alloc (.cells #[.bool b, .slice B lm c, .int .i64 P] 76)).alloc (.cells #[.int .u16 1] 81)) (.slice (some ⟨w.heap.size + 1, 0, none⟩) 1 1) o := by
    rw [ho]
    have := one_D (w.alloc (.cells #[.bool b, .slice B lm c, .int .i64 P] 76))
    simpa using this
  clear ho
  have hW := two_alloc w (.cells #[.bool b, .slice B lm c, .int .i64 P] 76) (.cells #[.int .u16 1] 81)
  go_wp2_with fail
  generalize hWW : (w.alloc (.cells #[.bool b, .slice B lm c, .int .i64 P] 76)).alloc (.cells #[.int .u16 1] 81) = W at *
  have HBX := Lib.hid hbox2
  have HMW := Lib.hid (HM.out.below hW)
  have HKW := Lib.hid (HK.out.below hW)
  have HONE := Lib.hid hone
  have HW := Lib.hid hW
  have hsW := hW.size
  have hlW := hbox2.lt
  clear hbox hbox2 hone hW hWW
  refine (add_D _ _ k o _ (by have := HLK.out; have := HNK.out; omega) (by have := HN1.out; omega) HKW.out HONE.out).mono ?_
  rintro e w3 ⟨v3, rfl, hv3, hf3, hbel3⟩
  have HV3 := Lib.hid hv3
  have HB3 := Lib.hid hbel3
  have hs3 := hbel3.size
  have HX3 := Lib.hid (HBX.out.below hbel3 hlW)
  clear hv3 hf3 hbel3
  go_wp2_with fail
  refine (add_D _ v3 k (k + o) _ (by have := HLK.out; have := HNK.out; omega) (by have := HAO.out; omega) (HKW.out.below HB3.out) HV3.out).mono ?_
  rintro e w4 ⟨v4, rfl, hv4, hf4, hbel4⟩
  have HV4 := Lib.hid hv4
  have HB4 := Lib.hid hbel4
  have hs4 := hbel4.size
  have hX4 := HX3.out.below hbel4 HX3.out.lt
  have HX4 := Lib.hid hX4
  have hb4 : Below w.heap.size w w4 := (HW.out.trans (HB3.out.mono hsW)).trans (hbel4.mono (by omega))
  have HBB4 := Lib.hid hb4
  have HM4 := Lib.hid (show D w4.drew _ M from HM.out.below hb4.drew)
  have HM4' := Lib.hid (show D (w4.alloc (.cells #[.bool false, .slice none 0 0, .int .i64 0] 76)).drew _ M from HM.out.below (hb4.alloc (by omega) _).drew)
  have HX4d := Lib.hid (show Blk w4.drew w.heap.size 76 _ from hX4.drew)
  have HX4a := Lib.hid (show Blk (w4.alloc (.cells #[.bool false, .slice none 0 0, .int .i64 0] 76)).drew w.heap.size 76 _ from (hX4.alloc _).drew)
  have HXa4 := Lib.hid (show Blk (w4.alloc (.cells #[.bool false, .slice none 0 0, .int .i64 0] 76)).drew w4.heap.size 76 _ from (Blk.new w4 _ _).drew)
  clear hv4 hf4 hbel4 hX4 hb4
  obtain ⟨c0, c1, c2⟩ := box_cells HX4.out
  have h4 : w.heap.size < w4.heap.size := HX4.out.lt
  go_wp2_with fail
  go_cut [9] (fun p wx => ∃ g v2, p = .pointer (some ⟨g, 0, none⟩) ∧ w4.heap.size ≤ g ∧ Blk wx g 76 #[.bool false, v2, .int .i64 P] ∧ D wx v2 (M * 2 ^ 1) ∧ Below w4.heap.size w4 wx)
  case first =>
    go_region_held3 (fun w' => w'.cell? ⟨w.heap.size, 1, none⟩ = some (.slice B lm c) ∧ w'.cell? ⟨w.heap.size, 2, none⟩ = some (.int .i64 P)) (first | go_keep | exact K5.out | exact (box_cells (HX5.out.alloc _)).2 | exact ⟨keep_set3' K5.out.1 (by omega), keep_set3' K5.out.2 (by omega)⟩)
      (first
        | (go_at_call 72; refine (shl_D _ M 1 1 _ (by have := HLM.out; have := HHM.out; omega) (by omega) rfl HM4.out).mono ?_; rintro e w5 ⟨v5, rfl, hv5, hf5, hbel5⟩; obtain ⟨A5, k5, rfl⟩ := hv5.shape; have HF5 := Lib.hid hf5; have HV5 := Lib.hid hv5; have HX5 := Lib.hid (HX4d.out.below hbel5 HX4d.out.lt); have K5 := Lib.hid (box_cells HX5.out).2; have HB5 := Lib.hid hbel5; clear hv5 hbel5 hf5)
        | (go_at_call 72; refine (shl_D _ M 1 1 _ (by have := HLM.out; have := HHM.out; omega) (by omega) rfl HM4'.out).mono ?_; rintro e w5 ⟨v5, rfl, hv5, hf5, hbel5⟩; obtain ⟨A5, k5, rfl⟩ := hv5.shape; have HF5 := Lib.hid hf5; have HV5 := Lib.hid hv5; have HX5 := Lib.hid (HX4a.out.below hbel5 HX4a.out.lt); have HXN := Lib.hid (HXa4.out.below hbel5 HXa4.out.lt); obtain ⟨r50, r51, r52⟩ := box_cells HXN.out; obtain ⟨q50, q51, q52⟩ := box_free HXN.out; have K5 := Lib.hid (box_cells HX5.out).2; have HB5 := Lib.hid hbel5; clear hv5 hbel5 hf5))
    all_goals (go_wp2_with fail; go_meet)
    all_goals
      first
        | exact ⟨w5.heap.size, _, rfl, b5_size HB5.out, Blk.new w5 _ _, HV5.out.below ((Below.refl _ _).alloc (Nat.le_refl _) _), b5_a HB5.out _⟩
        | exact ⟨w4.heap.size, _, rfl, Nat.le_refl _, box_set3 HXN.out, HV5.out.set3 (fun h => by have := HF5.out _ h; simp at this; omega), below_set3 (b5_b HB5.out) (Nat.le_refl _)⟩
  case rest =>
    obtain ⟨g, v2, rfl, hge, hblk, hv2, hbel⟩ := hcut
    obtain ⟨e0, e1, e2⟩ := box_cells hblk
    have HV2 := Lib.hid hv2
    have HB5 := Lib.hid hbel
    have HV4c := Lib.hid (HV4.out.below hbel)
    have hs5 := hbel.size
    clear hv2 hbel hblk c0 c1 c2 HM4 HM4' HX4d HX4a HXa4
    go_wp2_with fail
    refine (against_any v4 v2 false (k + (k + o)) (M * 2 ^ 1) s P _ (by have := HKO.out; omega) (by have := nd_shl M 1; have := HLM.out; have := HHM.out; omega) hs1 hs2 hP1 hP2 HV4c.out HV2.out).mono ?_
    rintro e w6 ⟨rfl, hbel6⟩
    rw [Nat.pow_one, ← HX.out, ← HY.out]
    have hs6 := hbel6.size
    have hb6 : Below w.heap.size w w6 := (HBB4.out.trans (HB5.out.mono (by omega))).trans (hbel6.mono (by omega))
    have HB6 := Lib.hid hb6
    have HK6 := Lib.hid (HK.out.below hb6)
    have HV36 := Lib.hid (((HV3.out.below HB4.out).below HB5.out).below hbel6)
    clear hbel6 hb6 e0 e1 e2
    rcases Nat.lt_trichotomy X Y with h | h | h
    · have HRR := Lib.hid (show R = k + o from by rw [HR.out, if_neg (by omega)])
      rw [cmpN_lt h]
      clear h
      go_wp2_with fail
      go_ret
      exact ⟨v3, rfl, by rw [HRR.out]; exact HV36.out, HB6.out⟩
    · by_cases h2 : k % 2 = 0
      · have HRR := Lib.hid (show R = k from by rw [HR.out, if_pos (.inr ⟨h, h2⟩)])
        have d2 : ((k : Int) % 2 == 0) = true := by rw [beq_iff_eq]; omega
        rw [cmpN_eq h]
        clear h h2
        go_wp2_with (go_at_call 57; refine (value_D _ k _ (by have := HHK.out; omega) HK6.out).mono ?_; rintro e w' ⟨rfl, rfl⟩)
        go_ret
        exact ⟨_, rfl, by rw [HRR.out]; exact HK6.out, HB6.out⟩
      · have HRR := Lib.hid (show R = k + o from by rw [HR.out, if_neg (by omega)])
        have d2 : ((k : Int) % 2 == 0) = false := by rw [beq_eq_false_iff_ne]; omega
        rw [cmpN_eq h]
        clear h h2
        go_wp2_with (go_at_call 57; refine (value_D _ k _ (by have := HHK.out; omega) HK6.out).mono ?_; rintro e w' ⟨rfl, rfl⟩)
        go_ret
        exact ⟨v3, rfl, by rw [HRR.out]; exact HV36.out, HB6.out⟩
    · have HRR := Lib.hid (show R = k from by rw [HR.out, if_pos (.inl h)])
      rw [cmpN_gt h]
      clear h
      go_wp2_with fail
      go_ret
      exact ⟨_, rfl, by rw [HRR.out]; exact HK6.out, HB6.out⟩
end Go.Proofs.YtijncfidjjfmiaaGreatDoor
