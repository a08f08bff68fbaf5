/- The reference's decimal: the nearest real of a decimal. nearer The reference's power: the least power of ten above an amount. -/
import Derived.Test.YtijncfidjjfmiaaGreatDoorFloTxtAB
import Derived.Test.YtijncfidjjfmiaaGreatDoorFloTxtP
import Derived.Test.YtijncfidjjfmiaaGreatDoorFloTxtC
import Derived.Deep.RegionHeld3
import Derived.Deep.DeepCutAuto
namespace Go.Proofs.YtijncfidjjfmiaaGreatDoor
open Go.RowKit FloM

theorem bl_tenB (n : Nat) : bl (10 ^ n) ≤ 4 * n + 1 := by
  rw [bl_le, Nat.pow_succ, Nat.pow_mul]
  have h1 : 10 ^ n ≤ (2 ^ 4) ^ n := Nat.pow_le_pow_left (by decide) n
  have h2 : 0 < 10 ^ n := Nat.pow_pos (by decide)
  omega
theorem wd_pos (u : Nat) : wd false u = u := rfl

set_option maxRecDepth 100000 in
set_option maxHeartbeats 2000000 in
theorem dec_p (vd : Value) (d n : Nat) (w : World) (hd : nd d ≤ 10000) (hn : n ≤ 6000) (ha : D w vd d) :
    Calls Tryz.prog 35 #[vd, .int .i64 (n : Int)] w (RetU w (rq (d * tA (n : Int) * KK) (tB (n : Int)))) := by
  obtain ⟨X, hX⟩ : ∃ X, rNear (d * 10 ^ n) 0 0 = X := ⟨_, rfl⟩
  rw [← dec_pos, hX]
  have HX := Lib.hid hX
  clear hX
  obtain ⟨A, c, rfl⟩ := ha.shape
  have HA := Lib.hid ha
  have HT := Lib.hid (nd_tenB n)
  have HDT := Lib.hid (nd_mulB d (10 ^ n))
  generalize hld : nd d = ld at *
  have HLD := Lib.hid hld
  have HHD := Lib.hid hd
  clear hld ha hd
  go_enter Tryz.func35, Tryz.ntmps35
  go_wp2_with fail
  refine (ten_D n _ (by omega)).mono ?_
  rintro e w1 ⟨v1, rfl, hv1, hf1, hbel1⟩
  have HV1 := Lib.hid hv1
  have HB1 := Lib.hid hbel1
  have hs1 := hbel1.size
  clear hv1 hf1 hbel1
  go_wp2_with fail
  refine (mul_D _ v1 d (10 ^ n) _ (by have := HLD.out; have := HHD.out; omega) (by have := HT.out; omega) (HA.out.below HB1.out) HV1.out).mono ?_
  rintro e w2 ⟨v2, rfl, hv2, hf2, hbel2⟩
  obtain ⟨A2, c2, rfl⟩ := hv2.shape
  have HV2 := Lib.hid hv2
  have HB2 := Lib.hid hbel2
  have hs2 := hbel2.size
  clear hv2 hf2 hbel2
  go_wp2_with fail
  refine (near_any false false _ (d * 10 ^ n) 0 _ (by have := HDT.out; have := HT.out; have := HLD.out; have := HHD.out; omega) (by omega) (by omega) HV2.out).mono ?_
  rintro e w3 ⟨rfl, hbel3⟩
  have HB3 := Lib.hid hbel3
  clear hbel3
  go_wp2_with fail
  go_ret
  have b1 := HB1.out.trans (HB2.out.mono hs1)
  exact ⟨by rw [HX.out]; rfl, b1.trans (HB3.out.mono (by omega))⟩

/-- What decimal reckons at a power below 0. -/
def DecF (d n L q r t X : Nat) : Prop := d * 2 ^ (L + 128) / 10 ^ n = q ∧ d * 2 ^ (L + 128) % 10 ^ n = r ∧ t = (decide (0 < nd r)).toNat ∧ rNear q (-((L : Int) + 128)) t = X

set_option maxRecDepth 100000 in
set_option maxHeartbeats 2000000 in
theorem dec_n (vd : Value) (d n : Nat) (w : World) (hd : nd d ≤ 10000) (hn0 : 0 < n) (hn : n ≤ 6000) (ha : D w vd d) :
    Calls Tryz.prog 35 #[vd, .int .i64 (-(n : Int))] w (RetU w (rq (d * tA (-(n : Int)) * KK) (tB (-(n : Int))))) := by
  obtain ⟨L, hL⟩ : ∃ L, bl (10 ^ n) = L := ⟨_, rfl⟩
  rw [← dec_neg d n L hL, show (-((L + 128 : Nat) : Int)) = -((L : Int) + 128) by omega]
  have hL2 : L ≤ 24001 := by have := bl_tenB n; omega
  obtain ⟨A, c, rfl⟩ := ha.shape
  have HA := Lib.hid ha
  have HT := Lib.hid (nd_tenB n)
  have HP := Lib.hid (show 0 < 10 ^ n from Nat.pow_pos (by decide))
  have hqn : nd (d * 2 ^ (L + 128) / 10 ^ n) ≤ 20000 := by
    have := nd_mono (Nat.div_le_self (d * 2 ^ (L + 128)) (10 ^ n))
    have := nd_shl d (L + 128)
    omega
  generalize hld : nd d = ld at *
  have HLD := Lib.hid hld
  have HHD := Lib.hid hd
  have HL := Lib.hid hL
  clear hld ha hd hL
  generalize hq : d * 2 ^ (L + 128) / 10 ^ n = q at *
  generalize hr : d * 2 ^ (L + 128) % 10 ^ n = r at *
  generalize ht : (if r = 0 then 0 else 1) = t at *
  have htt : t = (decide (0 < nd r)).toNat := by
    have := @nd_eq_zero r
    rw [← ht]
    by_cases h : r = 0
    · rw [if_pos h, decide_eq_false (by omega)]; rfl
    · rw [if_neg h, decide_eq_true (by omega)]; rfl
  have HQN := Lib.hid hqn
  obtain ⟨X, hX⟩ : ∃ X, rNear q (-((L : Int) + 128)) t = X := ⟨_, rfl⟩
  rw [hX]
  have HF : Hid (DecF d n L q r t X) := ⟨hq, hr, htt, hX⟩
  clear hq hr ht hqn hX htt
  go_enter Tryz.func35, Tryz.ntmps35
  go_wp2_with fail
  refine (ten_D n _ (by omega)).mono ?_
  rintro e w1 ⟨v1, rfl, hv1, hf1, hbel1⟩
  have HV1 := Lib.hid hv1
  have HB1 := Lib.hid hbel1
  have hs1 := hbel1.size
  clear hv1 hf1 hbel1
  go_wp2_with fail
  refine (lenB_D v1 (10 ^ n) _ (by have := HT.out; omega) HV1.out).mono ?_
  rintro e w1' ⟨rfl, rfl⟩
  rw [HL.out]
  go_wp2_with fail
  refine (shl_D _ d (L + 128) _ _ (by have := HLD.out; have := HHD.out; omega) (by omega) (by go_num) (HA.out.below HB1.out)).mono ?_
  rintro e w2 ⟨v2, rfl, hv2, hf2, hbel2⟩
  have HV2 := Lib.hid hv2
  have HB2 := Lib.hid hbel2
  have hs2 := hbel2.size
  clear hv2 hf2 hbel2
  go_wp2_with fail
  refine (div_D v2 v1 (d * 2 ^ (L + 128)) (10 ^ n) _ (by have := nd_shl d (L + 128); have := HLD.out; have := HHD.out; omega) (by have := HT.out; omega) HP.out HV2.out (HV1.out.below HB2.out)).mono ?_
  rintro e w3 ⟨v3, u3, rfl, hv3, hu3, _, _, hbel3⟩
  obtain ⟨hq, hr, htt, hX⟩ := HF.out
  rw [hq] at hv3
  rw [hr] at hu3
  have HX := Lib.hid (htt ▸ hX)
  clear hq hr htt hX
  obtain ⟨A3, c3, rfl⟩ := hv3.shape
  obtain ⟨A4, c4, rfl⟩ := hu3.shape
  have HV3 := Lib.hid hv3
  have HB3 := Lib.hid hbel3
  have hs3 := hbel3.size
  clear hv3 hu3 hbel3
  go_wp2_with fail
  refine (near_any false (decide (0 < nd r)) _ q (-((L : Int) + 128)) _ HQN.out (by omega) (by omega) HV3.out).mono ?_
  rintro e w4 ⟨rfl, hbel4⟩
  have HB4 := Lib.hid hbel4
  clear hbel4
  go_wp2_with fail
  go_ret
  have b1 := HB1.out.trans (HB2.out.mono hs1)
  have b2 := b1.trans (HB3.out.mono (by omega))
  exact ⟨by rw [HX.out]; rfl, b2.trans (HB4.out.mono (by omega))⟩

theorem dec_any (vd : Value) (d : Nat) (s : Int) (w : World) (hd : nd d ≤ 10000) (hs1 : -6000 ≤ s) (hs2 : s ≤ 6000) (ha : D w vd d) :
    Calls Tryz.prog 35 #[vd, .int .i64 s] w (RetU w (rq (d * tA s * KK) (tB s))) := by
  rcases Int.lt_or_le s 0 with h1 | h1
  · obtain ⟨n, rfl⟩ : ∃ n : Nat, s = -(n : Int) := ⟨(-s).toNat, by omega⟩
    exact dec_n vd d n w hd (by omega) (by omega) ha
  · obtain ⟨n, rfl⟩ : ∃ n : Nat, s = (n : Int) := ⟨s.toNat, by omega⟩
    exact dec_p vd d n w hd (by omega) ha
end Go.Proofs.YtijncfidjjfmiaaGreatDoor

namespace Go.Proofs.YtijncfidjjfmiaaGreatDoor
open Go.RowKit FloM
theorem keep_set3' {w : World} {g g' i : Nat} {v x y z : Value} (h : w.cell? ⟨g, i, none⟩ = some v) (hne : g ≠ g') : (set3 w g' x y z).cell? ⟨g, i, none⟩ = some v := by
  unfold set3
  have e : ∀ j, (⟨g, i, none⟩ : Addr) ≠ ⟨g', j, none⟩ := fun j h => hne (congrArg Addr.block h)
  rw [World.cell?_setCell_other _ _ _ _ (e 2).symm, World.cell?_setCell_other _ _ _ _ (e 1).symm, World.cell?_setCell_other _ _ _ _ (e 0).symm]
  exact h
theorem b5_size {w4 w5 : World} (h : Below w4.drew.heap.size w4.drew w5) : w4.heap.size ≤ w5.heap.size := h.size
theorem b5_a {w4 w5 : World} (h : Below w4.drew.heap.size w4.drew w5) (o : Obj) : Below w4.heap.size w4 (w5.alloc o) := (((Below.refl w4.heap.size w4).drew).trans h).alloc (b5_size h) o
theorem b5_b {w4 w5 : World} {o : Obj} (h : Below (w4.alloc o).drew.heap.size (w4.alloc o).drew w5) : Below w4.heap.size w4 w5 := (((Below.refl w4.heap.size w4).alloc (Nat.le_refl _) o).drew).trans (h.mono (by show w4.heap.size ≤ (w4.alloc o).heap.size; simp))
/-- An amount, old or new. -/
def GivesN (w : World) (N : Nat) (e : Ending) (w' : World) : Prop := ∃ v, e = .returned v ∧ D w' v N ∧ Below w.heap.size w w'

set_option maxRecDepth 100000 in
set_option maxHeartbeats 2000000 in
theorem nearer_o (vk vm : Value) (b : Bool) (k M o : Nat) (s P : Int) (w : World) (ho : o = 1) (hk : k < 2 ^ 60) (hM : nd M ≤ 10) (hs1 : -2000 ≤ s) (hs2 : s ≤ 2000) (hP1 : -4000 ≤ P) (hP2 : P ≤ 4000) (hmk : D w vk k) (hm : D w vm M) :
    Calls Tryz.prog 55 #[vk, .int .i64 s, .agg #[.bool b, vm, .int .i64 P]] w (GivesN w (if (M * 2) * tB s * 2 ^ P.toNat < (k + (k + o)) * tA s * 2 ^ (-P).toNat ∨ ((k + (k + o)) * tA s * 2 ^ (-P).toNat = (M * 2) * tB s * 2 ^ P.toNat ∧ k % 2 = 0) then k else k + o)) := by
  obtain ⟨X, hX⟩ : ∃ X, X = (k + (k + o)) * tA s * 2 ^ (-P).toNat := ⟨_, rfl⟩
  obtain ⟨Y, hY⟩ : ∃ Y, Y = (M * 2) * tB s * 2 ^ P.toNat := ⟨_, rfl⟩
  rw [← hX, ← hY]
  obtain ⟨R, hR⟩ : ∃ R, R = (if Y < X ∨ (X = Y ∧ k % 2 = 0) then k else k + o) := ⟨_, rfl⟩
  rw [← hR]
  have HX := Lib.hid hX
  have HY := Lib.hid hY
  have HR := Lib.hid hR
  clear hX hY hR
  obtain ⟨B, c, rfl⟩ := hm.shape
  obtain ⟨B1, c1, rfl⟩ := hmk.shape
  have HM := Lib.hid hm
  have HK := Lib.hid hmk
  have hnk : nd k ≤ 4 := nd_64 (by omega)
  have HAO := Lib.hid (show nd (k + o) ≤ 4 from nd_64 (by omega))
  have HKO := Lib.hid (show nd (k + (k + o)) ≤ 4 from nd_64 (by omega))
  have HN1 := Lib.hid (show nd o ≤ 1 by rw [ho]; decide)
  generalize hlm : nd M = lm at *
  generalize hlk : nd k = lk at *
  have HLM := Lib.hid hlm
  have HLK := Lib.hid hlk
  have HHM := Lib.hid hM
  have HNK := Lib.hid hnk
  have HHK := Lib.hid hk
  clear hlm hm hM hmk hlk hk hnk
  go_enter Tryz.func55, Tryz.ntmps55
  have hbox := Blk.new w 76 #[.bool b, .slice B lm c, .int .i64 P]
  have hbox2 : Blk ((w.alloc (.cells #[.bool b, .slice B lm c, .int .i64 P] 76)).alloc (.cells #[.int .u16 1] 81)) w.heap.size 76 #[.bool b, .slice B lm c, .int .i64 P] := hbox.alloc (.cells #[.int .u16 1] 81)
  have hone : D ((w.alloc (.cells #[.bool b, .slice B lm c, .int .i64 P] 76)).alloc (.cells #[.int .u16 1] 81)) (.slice (some ⟨w.heap.size + 1, 0, none⟩) 1 1) o := by
    rw [ho]
    have := one_D (w.alloc (.cells #[.bool b, .slice B lm c, .int .i64 P] 76))
    simpa using this
  clear ho
  have hW := two_alloc w (.cells #[.bool b, .slice B lm c, .int .i64 P] 76) (.cells #[.int .u16 1] 81)
  go_wp2_with fail
  generalize hWW : (w.alloc (.cells #[.bool b, .slice B lm c, .int .i64 P] 76)).alloc (.cells #[.int .u16 1] 81) = W at *
  have HBX := Lib.hid hbox2
  have HMW := Lib.hid (HM.out.below hW)
  have HKW := Lib.hid (HK.out.below hW)
  have HONE := Lib.hid hone
  have HW := Lib.hid hW
  have hsW := hW.size
  have hlW := hbox2.lt
  clear hbox hbox2 hone hW hWW
  refine (add_D _ _ k o _ (by have := HLK.out; have := HNK.out; omega) (by have := HN1.out; omega) HKW.out HONE.out).mono ?_
  rintro e w3 ⟨v3, rfl, hv3, hf3, hbel3⟩
  have HV3 := Lib.hid hv3
  have HB3 := Lib.hid hbel3
  have hs3 := hbel3.size
  have HX3 := Lib.hid (HBX.out.below hbel3 hlW)
  clear hv3 hf3 hbel3
  go_wp2_with fail
  refine (add_D _ v3 k (k + o) _ (by have := HLK.out; have := HNK.out; omega) (by have := HAO.out; omega) (HKW.out.below HB3.out) HV3.out).mono ?_
  rintro e w4 ⟨v4, rfl, hv4, hf4, hbel4⟩
  have HV4 := Lib.hid hv4
  have HB4 := Lib.hid hbel4
  have hs4 := hbel4.size
  have hX4 := HX3.out.below hbel4 HX3.out.lt
  have HX4 := Lib.hid hX4
  have hb4 : Below w.heap.size w w4 := (HW.out.trans (HB3.out.mono hsW)).trans (hbel4.mono (by omega))
  have HBB4 := Lib.hid hb4
  have HM4 := Lib.hid (show D w4.drew _ M from HM.out.below hb4.drew)
  have HM4' := Lib.hid (show D (w4.alloc (.cells #[.bool false, .slice none 0 0, .int .i64 0] 76)).drew _ M from HM.out.below (hb4.alloc (by omega) _).drew)
  have HX4d := Lib.hid (show Blk w4.drew w.heap.size 76 _ from hX4.drew)
  have HX4a := Lib.hid (show Blk (w4.alloc (.cells #[.bool false, .slice none 0 0, .int .i64 0] 76)).drew w.heap.size 76 _ from (hX4.alloc _).drew)
  have HXa4 := Lib.hid (show Blk (w4.alloc (.cells #[.bool false, .slice none 0 0, .int .i64 0] 76)).drew w4.heap.size 76 _ from (Blk.new w4 _ _).drew)
  clear hv4 hf4 hbel4 hX4 hb4
  obtain ⟨c0, c1, c2⟩ := box_cells HX4.out
  have h4 : w.heap.size < w4.heap.size := HX4.out.lt
  go_wp2_with fail
  go_cut [9] (fun p wx => ∃ g v2, p = .pointer (some ⟨g, 0, none⟩) ∧ w4.heap.size ≤ g ∧ Blk wx g 76 #[.bool false, v2, .int .i64 P] ∧ D wx v2 (M * 2 ^ 1) ∧ Below w4.heap.size w4 wx)
  case first =>
    go_region_held3 (fun w' => w'.cell? ⟨w.heap.size, 1, none⟩ = some (.slice B lm c) ∧ w'.cell? ⟨w.heap.size, 2, none⟩ = some (.int .i64 P)) (first | go_keep | exact K5.out | exact (box_cells (HX5.out.alloc _)).2 | exact ⟨keep_set3' K5.out.1 (by omega), keep_set3' K5.out.2 (by omega)⟩)
      (first
        | (go_at_call 72; refine (shl_D _ M 1 1 _ (by have := HLM.out; have := HHM.out; omega) (by omega) rfl HM4.out).mono ?_; rintro e w5 ⟨v5, rfl, hv5, hf5, hbel5⟩; obtain ⟨A5, k5, rfl⟩ := hv5.shape; have HF5 := Lib.hid hf5; have HV5 := Lib.hid hv5; have HX5 := Lib.hid (HX4d.out.below hbel5 HX4d.out.lt); have K5 := Lib.hid (box_cells HX5.out).2; have HB5 := Lib.hid hbel5; clear hv5 hbel5 hf5)
        | (go_at_call 72; refine (shl_D _ M 1 1 _ (by have := HLM.out; have := HHM.out; omega) (by omega) rfl HM4'.out).mono ?_; rintro e w5 ⟨v5, rfl, hv5, hf5, hbel5⟩; obtain ⟨A5, k5, rfl⟩ := hv5.shape; have HF5 := Lib.hid hf5; have HV5 := Lib.hid hv5; have HX5 := Lib.hid (HX4a.out.below hbel5 HX4a.out.lt); have HXN := Lib.hid (HXa4.out.below hbel5 HXa4.out.lt); obtain ⟨r50, r51, r52⟩ := box_cells HXN.out; obtain ⟨q50, q51, q52⟩ := box_free HXN.out; have K5 := Lib.hid (box_cells HX5.out).2; have HB5 := Lib.hid hbel5; clear hv5 hbel5 hf5))
    all_goals (go_wp2_with fail; go_meet)
    all_goals
      first
        | exact ⟨w5.heap.size, _, rfl, b5_size HB5.out, Blk.new w5 _ _, HV5.out.below ((Below.refl _ _).alloc (Nat.le_refl _) _), b5_a HB5.out _⟩
        | exact ⟨w4.heap.size, _, rfl, Nat.le_refl _, box_set3 HXN.out, HV5.out.set3 (fun h => by have := HF5.out _ h; simp at this; omega), below_set3 (b5_b HB5.out) (Nat.le_refl _)⟩
  case rest =>
    obtain ⟨g, v2, rfl, hge, hblk, hv2, hbel⟩ := hcut
    obtain ⟨e0, e1, e2⟩ := box_cells hblk
    have HV2 := Lib.hid hv2
    have HB5 := Lib.hid hbel
    have HV4c := Lib.hid (HV4.out.below hbel)
    have hs5 := hbel.size
    clear hv2 hbel hblk c0 c1 c2 HM4 HM4' HX4d HX4a HXa4
    go_wp2_with fail
    refine (against_any v4 v2 false (k + (k + o)) (M * 2 ^ 1) s P _ (by have := HKO.out; omega) (by have := nd_shl M 1; have := HLM.out; have := HHM.out; omega) hs1 hs2 hP1 hP2 HV4c.out HV2.out).mono ?_
    rintro e w6 ⟨rfl, hbel6⟩
    rw [Nat.pow_one, ← HX.out, ← HY.out]
    have hs6 := hbel6.size
    have hb6 : Below w.heap.size w w6 := (HBB4.out.trans (HB5.out.mono (by omega))).trans (hbel6.mono (by omega))
    have HB6 := Lib.hid hb6
    have HK6 := Lib.hid (HK.out.below hb6)
    have HV36 := Lib.hid (((HV3.out.below HB4.out).below HB5.out).below hbel6)
    clear hbel6 hb6 e0 e1 e2
    rcases Nat.lt_trichotomy X Y with h | h | h
    · have HRR := Lib.hid (show R = k + o from by rw [HR.out, if_neg (by omega)])
      rw [cmpN_lt h]
      clear h
      go_wp2_with fail
      go_ret
      exact ⟨v3, rfl, by rw [HRR.out]; exact HV36.out, HB6.out⟩
    · by_cases h2 : k % 2 = 0
      · have HRR := Lib.hid (show R = k from by rw [HR.out, if_pos (.inr ⟨h, h2⟩)])
        have d2 : ((k : Int) % 2 == 0) = true := by rw [beq_iff_eq]; omega
        rw [cmpN_eq h]
        clear h h2
        go_wp2_with (go_at_call 57; refine (value_D _ k _ (by have := HHK.out; omega) HK6.out).mono ?_; rintro e w' ⟨rfl, rfl⟩)
        go_ret
        exact ⟨_, rfl, by rw [HRR.out]; exact HK6.out, HB6.out⟩
      · have HRR := Lib.hid (show R = k + o from by rw [HR.out, if_neg (by omega)])
        have d2 : ((k : Int) % 2 == 0) = false := by rw [beq_eq_false_iff_ne]; omega
        rw [cmpN_eq h]
        clear h h2
        go_wp2_with (go_at_call 57; refine (value_D _ k _ (by have := HHK.out; omega) HK6.out).mono ?_; rintro e w' ⟨rfl, rfl⟩)
        go_ret
        exact ⟨v3, rfl, by rw [HRR.out]; exact HV36.out, HB6.out⟩
    · have HRR := Lib.hid (show R = k from by rw [HR.out, if_pos (.inl h)])
      rw [cmpN_gt h]
      clear h
      go_wp2_with fail
      go_ret
      exact ⟨_, rfl, by rw [HRR.out]; exact HK6.out, HB6.out⟩
end Go.Proofs.YtijncfidjjfmiaaGreatDoor

namespace Go.Proofs.YtijncfidjjfmiaaGreatDoor
open Go.RowKit FloM

/-- Is 10 to the e at most the amount M times 2 to the P? -/
def PLe (M : Nat) (P e : Int) : Prop := tA e * 2 ^ (-P).toNat ≤ M * tB e * 2 ^ P.toNat
theorem PLe_iff (M : Nat) (P e : Int) (o : Nat) (ho : o = 1) : cmpN (o * tA e * 2 ^ (-P).toNat) (M * tB e * 2 ^ P.toNat) ≤ 0 ↔ PLe M P e := by
  rw [cmpN_le, ho, Nat.one_mul]; rfl
def GivesP (w : World) (M : Nat) (P : Int) (e : Ending) (w' : World) : Prop := ∃ x : Int, e = .returned (.int .i64 x) ∧ ¬ PLe M P x ∧ PLe M P (x - 1) ∧ -400 ≤ x ∧ x ≤ 310 ∧ Below w.heap.size w w'

theorem drewN_one (w : World) : w.drew = w.drewN 1 := rfl

set_option maxRecDepth 100000 in
set_option maxHeartbeats 2000000 in
theorem power_o (vm : Value) (b : Bool) (M o L : Nat) (P g : Int) (w : World) (ho : o = 1) (hL : bl M = L) (hL2 : L ≤ 64) (hM : nd M ≤ 10) (hP1 : -1100 ≤ P) (hP2 : P ≤ 1100)
    (hg : g = guess ((L : Int) + P)) (hg1 : -400 ≤ g) (hg2 : g ≤ 310) (h0 : PLe M P (g - 1)) (h9 : ∀ e : Int, 310 ≤ e → ¬ PLe M P e) (hm : D w vm M) :
    Calls Tryz.prog 52 #[.agg #[.bool b, vm, .int .i64 P]] w (GivesP w M P) := by
  obtain ⟨B, c, rfl⟩ := hm.shape
  have HM := Lib.hid hm
  generalize hlm : nd M = lm at *
  have HLM := Lib.hid hlm
  have HHM := Lib.hid hM
  have HL := Lib.hid hL
  have HN1 := Lib.hid (show nd o ≤ 1 by rw [ho]; decide)
  have HO := Lib.hid ho
  have HPL := Lib.hid (fun e : Int => PLe_iff M P e o ho)
  have H0 := Lib.hid h0
  have H9 := Lib.hid h9
  have t1 : (((L : Int) + P) * 30103).tdiv 100000 = g + 2 := by rw [hg]; unfold guess; omega
  have hgg : IntKind.i64.wrap (IntKind.i64.wrap ((IntKind.i64.wrap (IntKind.i64.wrap ((L : Int) + P) * 30103)).tdiv 100000) - 2) = g := by
    rw [IntWalk.i64_in ((L : Int) + P) (by omega), IntWalk.i64_in (((L : Int) + P) * 30103) (by omega), t1, IntWalk.i64_in (g + 2) (by omega), IntWalk.i64_in (g + 2 - 2) (by omega)]
    omega
  clear hlm hm hM hL h0 h9 hg ho t1
  go_enter Tryz.func52, Tryz.ntmps52
  go_wp2_with fail
  have hbox := Blk.new w 76 #[.bool b, .slice B lm c, .int .i64 P]
  obtain ⟨c0, c1, c2⟩ := box_cells hbox
  have hW : Below w.heap.size w (w.alloc (.cells #[.bool b, .slice B lm c, .int .i64 P] 76)) := (Below.refl _ _).alloc (Nat.le_refl _) _
  generalize w.alloc (.cells #[.bool b, .slice B lm c, .int .i64 P] 76) = W at *
  have HW := Lib.hid hW
  have HBX := Lib.hid hbox
  have HMW := Lib.hid (show D W.drew _ M from HM.out.below hW.drew)
  have hsW := hW.size
  have hlW := hbox.lt
  clear hW hbox
  go_region_held3 (fun w' => w'.cell? ⟨w.heap.size, 1, none⟩ = some (.slice B lm c) ∧ w'.cell? ⟨w.heap.size, 2, none⟩ = some (.int .i64 P)) (first | go_keep | exact ⟨c1, c2⟩)
    (first
      | (go_at_call 71; refine (lenB_D _ M _ (by have := HLM.out; have := HHM.out; omega) HMW.out).mono ?_; rintro e w3 ⟨rfl, rfl⟩; rw [HL.out]))
  clear c0 c1 c2
  go_wp2_with fail
  go_loopw [3] (fun i wr => ∃ e : Int, i = .int .i64 e ∧ g ≤ e ∧ e ≤ 310 ∧ PLe M P (e - 1) ∧ Below W.heap.size W wr) (fun i _ => (400 - intOf i).toNat)
  case atStart => exact ⟨g, rfl, Int.le_refl _, hg2, H0.out, (Below.refl _ _).drew⟩
  case round =>
    obtain ⟨x, rfl, hx1, hx2, hx3, hbel⟩ := hrel
    have HX3 := Lib.hid hx3
    have hbx := HBX.out.below hbel hlW
    have hbw : Below w.heap.size w wr := HW.out.trans (hbel.mono hsW)
    have hs := hbel.size
    have hbx2 := hbx.alloc (.cells #[.int .u16 1] 81)
    have hone : D (wr.alloc (.cells #[.int .u16 1] 81)) (.slice (some ⟨wr.heap.size, 0, none⟩) 1 1) o := by rw [HO.out]; exact one_D wr
    obtain ⟨c0, c1, c2⟩ := box_cells hbx2
    have HONE := Lib.hid hone
    have HB := Lib.hid hbel
    have HMR := Lib.hid (show D (wr.alloc (.cells #[.int .u16 1] 81)) _ M from HM.out.below (hbw.alloc (by omega) _))
    clear hone hbel hbw hbx hbx2 hx3
    go_wp2_with fail
    refine (against_any _ _ b o M x P _ (by have := HN1.out; omega) (by have := HLM.out; have := HHM.out; omega) (by omega) (by omega) (by omega) (by omega) HONE.out HMR.out).mono ?_
    rintro e w2 ⟨rfl, hbel2⟩
    have hp := HPL.out x
    generalize cmpN (o * tA x * 2 ^ (-P).toNat) (M * tB x * 2 ^ P.toNat) = z at *
    have HB2 := Lib.hid ((HB.out.alloc hs _).trans (hbel2.mono (by simp; omega)))
    clear hbel2 c0 c1 c2
    by_cases hz : z ≤ 0
    · have hx4 := hp.1 hz
      have hx5 : x ≤ 309 := by
        rcases Int.lt_or_le x 310 with h | h
        · omega
        · exact absurd hx4 (H9.out x h)
      have HX4 := Lib.hid hx4
      clear hp hx4
      go_wp2_with fail
      go_roundw
      case rel => exact ⟨x + 1, by go_num, by omega, by omega, by rw [Int.add_sub_cancel]; exact HX4.out, HB2.out⟩
      case measure => simp [intOf]; omega
    · have hx4 : ¬ PLe M P x := fun h => hz (hp.2 h)
      have HX4 := Lib.hid hx4
      clear hp hx4
      go_wp2_with fail
      go_ret
      exact ⟨x, rfl, HX4.out, HX3.out, by omega, hx2, HW.out.trans (HB2.out.mono hsW)⟩

theorem power_any (vm : Value) (b : Bool) (M : Nat) (P : Int) (w : World) (h0 : M ≠ 0) (hL2 : bl M ≤ 64) (hP1 : -1074 ≤ P) (hP2 : (bl M : Int) + P ≤ 1024) (h9 : ∀ e : Int, 310 ≤ e → ¬ PLe M P e)
    (hmono : ∀ e : Int, PLe M P e → PLe M P (e - 1)) (hm : D w vm M) :
    Calls Tryz.prog 52 #[.agg #[.bool b, vm, .int .i64 P]] w (GivesP w M P) := by
  have hb := bl_low h0
  have hM : nd M ≤ 4 := nd_64 (Nat.lt_of_lt_of_le ((bl_le M (bl M)).1 (Nat.le_refl _)) (Nat.pow_le_pow_right (by decide) hL2))
  have hg := guess_le M P h0 (by omega) (by omega)
  have hg1 : -400 ≤ guess ((bl M : Int) + P) ∧ guess ((bl M : Int) + P) ≤ 310 := by
    unfold guess
    rcases Int.lt_or_le ((bl M : Int) + P) 0 with h | h
    · obtain ⟨y, hy⟩ : ∃ y : Int, (bl M : Int) + P = -y := ⟨-((bl M : Int) + P), by omega⟩
      rw [hy, Int.neg_mul, Int.neg_tdiv, Int.tdiv_eq_ediv_of_nonneg (by omega)]
      omega
    · rw [Int.tdiv_eq_ediv_of_nonneg (by omega)]
      omega
  exact power_o vm b M 1 (bl M) P _ w rfl rfl hL2 (by omega) (by omega) (by omega) rfl hg1.1 hg1.2 (hmono _ hg) h9 hm
end Go.Proofs.YtijncfidjjfmiaaGreatDoor
