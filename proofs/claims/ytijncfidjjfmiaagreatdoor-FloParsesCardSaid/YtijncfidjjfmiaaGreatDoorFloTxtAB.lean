/- The reference's against: a decimal against an exact amount. The reference's against, whole; power. -/
import Derived.Test.YtijncfidjjfmiaaGreatDoorFloSumC
import Derived.Test.YtijncfidjjfmiaaGreatDoorFloFind
namespace Go.Proofs.YtijncfidjjfmiaaGreatDoor
open Go.RowKit FloM

theorem nd_tenB (n : Nat) : nd (10 ^ n) ≤ n + 1 := by
  rw [nd_le]
  exact Nat.lt_of_le_of_lt (Nat.pow_le_pow_left (by decide : 10 ≤ 65536) n) (Nat.pow_lt_pow_right (by decide) (Nat.lt_succ_self n))
theorem nd_mulB (a b : Nat) : nd (a * b) ≤ nd a + nd b := by
  rw [nd_le, Nat.pow_add]
  exact Nat.mul_lt_mul'' (lt_nd a) (lt_nd b)

set_option maxRecDepth 100000 in
set_option maxHeartbeats 2000000 in
theorem against_pp (vd vm : Value) (b : Bool) (d M n q : Nat) (w : World) (hd : nd d ≤ 10000) (hM : nd M ≤ 10000) (hn : n ≤ 2000) (hq : q ≤ 4000) (ha : D w vd d) (hm : D w vm M) :
    Calls Tryz.prog 89 #[vd, .int .i64 (n : Int), .agg #[.bool b, vm, .int .i64 (q : Int)]] w fun e w' => e = .returned (.int .i64 (cmpN (d * 10 ^ n) ((M) * 2 ^ q))) ∧ Below w.heap.size w w' := by
  obtain ⟨A, c, rfl⟩ := ha.shape
  obtain ⟨B, k, rfl⟩ := hm.shape
  have HA := Lib.hid ha
  have HM := Lib.hid hm
  have ht := nd_tenB n
  have hdt := nd_mulB d (10 ^ n)
  have HT := Lib.hid ht
  have HDT := Lib.hid hdt
  clear ht hdt
  generalize hld : nd d = ld at *
  generalize hlm : nd M = lm at *
  have HLD := Lib.hid hld
  have HLM := Lib.hid hlm
  clear hld hlm
  have HHD := Lib.hid hd
  have HHM := Lib.hid hM
  clear ha hm hd hM
  go_enter Tryz.func89, Tryz.ntmps89
  go_wp2_with fail
  have hbox := Blk.new w 76 #[.bool b, .slice B lm k, .int .i64 (q : Int)]
  obtain ⟨c0, c1, c2⟩ := box_cells hbox
  have HBOX := Lib.hid hbox
  clear hbox
  go_quiet (fail)
  rename_i nq
  go_wp2_with fail
  refine (ten_D n _ (by omega)).mono ?_
  rintro e w1 ⟨v1, rfl, hv1, hf1, hbel1⟩
  have hbox0 : Blk ((w.alloc (.cells #[.bool b, .slice B lm k, .int .i64 (q : Int)] 76)).drewN nq) w.heap.size 76 #[.bool b, .slice B lm k, .int .i64 (q : Int)] := HBOX.out
  have hbox1 := hbox0.below hbel1 hbox0.lt
  have HV1 := Lib.hid hv1
  have HB0 := Lib.hid (below_drewN ((Below.refl w.heap.size w).alloc (Nat.le_refl _) (.cells #[.bool b, .slice B lm k, .int .i64 (q : Int)] 76)) nq)
  have HB1 := Lib.hid hbel1
  have hs1 := hbel1.size
  have HX1 := Lib.hid hbox1
  clear hv1 hf1 hbel1 hbox1 hbox0 c0 c1 c2
  go_wp2_with fail
  refine (mul_D _ v1 d (10 ^ n) _ (by have := HLD.out; have := HHD.out; omega) (by have := HT.out; omega) ((HA.out.below HB0.out).below HB1.out) HV1.out).mono ?_
  rintro e w2 ⟨v2, rfl, hv2, hf2, hbel2⟩
  have hbox2 := HX1.out.below hbel2 HX1.out.lt
  have HV2 := Lib.hid hv2
  have HB2 := Lib.hid hbel2
  have hs2 := hbel2.size
  have HX2 := Lib.hid hbox2
  obtain ⟨c0, c1, c2⟩ := box_cells hbox2
  clear hv2 hf2 hbel2 hbox2
  go_wp2_with fail
  refine (shl_D _ M q _ _ (by have := HDT.out; have := HT.out; have := HLD.out; have := HHD.out; have := HLM.out; have := HHM.out; omega) (by omega) (by go_num) (((HM.out.below HB0.out).below HB1.out).below HB2.out)).mono ?_
  rintro e w3 ⟨v3, rfl, hv3, hf3, hbel3⟩
  have HV3 := Lib.hid hv3
  have HB3 := Lib.hid hbel3
  have hs3 := hbel3.size
  clear hv3 hf3 hbel3 c0 c1 c2
  go_wp2_with fail
  have HQ2 := Lib.hid (nd_shl (d * 10 ^ n) q)
  refine (cmp_D v2 v3 (d * 10 ^ n) ((M) * 2 ^ q) _ (by have := HDT.out; have := HT.out; have := HLD.out; have := HHD.out; have := HLM.out; have := HHM.out; have := HQ2.out; omega) (HV2.out.below HB3.out) HV3.out).mono ?_
  rintro e w4 ⟨rfl, n4, rfl⟩
  go_wp2_with fail
  go_ret
  refine ⟨rfl, below_drewN ?_ _⟩
  have b1 : Below w.heap.size w w1 := HB0.out.trans (HB1.out.mono HB0.out.size)
  exact (b1.trans (HB2.out.mono (by have := b1.size; omega))).trans (HB3.out.mono (by have := b1.size; omega))
/- more -/
set_option maxRecDepth 100000 in
set_option maxHeartbeats 2000000 in
theorem against_pn (vd vm : Value) (b : Bool) (d M n q : Nat) (w : World) (hd : nd d ≤ 10000) (hM : nd M ≤ 10000) (hn : n ≤ 2000) (hq0 : 0 < q) (hq : q ≤ 4000) (ha : D w vd d) (hm : D w vm M) :
    Calls Tryz.prog 89 #[vd, .int .i64 (n : Int), .agg #[.bool b, vm, .int .i64 (-(q : Int))]] w fun e w' => e = .returned (.int .i64 (cmpN ((d * 10 ^ n) * 2 ^ q) (M))) ∧ Below w.heap.size w w' := by
  obtain ⟨A, c, rfl⟩ := ha.shape
  obtain ⟨B, k, rfl⟩ := hm.shape
  have HA := Lib.hid ha
  have HM := Lib.hid hm
  have ht := nd_tenB n
  have hdt := nd_mulB d (10 ^ n)
  have HT := Lib.hid ht
  have HDT := Lib.hid hdt
  clear ht hdt
  generalize hld : nd d = ld at *
  generalize hlm : nd M = lm at *
  have HLD := Lib.hid hld
  have HLM := Lib.hid hlm
  clear hld hlm
  have HHD := Lib.hid hd
  have HHM := Lib.hid hM
  clear ha hm hd hM
  go_enter Tryz.func89, Tryz.ntmps89
  go_wp2_with fail
  have hbox := Blk.new w 76 #[.bool b, .slice B lm k, .int .i64 (-(q : Int))]
  obtain ⟨c0, c1, c2⟩ := box_cells hbox
  have HBOX := Lib.hid hbox
  clear hbox
  go_quiet (fail)
  rename_i nq
  go_wp2_with fail
  refine (ten_D n _ (by omega)).mono ?_
  rintro e w1 ⟨v1, rfl, hv1, hf1, hbel1⟩
  have hbox0 : Blk ((w.alloc (.cells #[.bool b, .slice B lm k, .int .i64 (-(q : Int))] 76)).drewN nq) w.heap.size 76 #[.bool b, .slice B lm k, .int .i64 (-(q : Int))] := HBOX.out
  have hbox1 := hbox0.below hbel1 hbox0.lt
  have HV1 := Lib.hid hv1
  have HB0 := Lib.hid (below_drewN ((Below.refl w.heap.size w).alloc (Nat.le_refl _) (.cells #[.bool b, .slice B lm k, .int .i64 (-(q : Int))] 76)) nq)
  have HB1 := Lib.hid hbel1
  have hs1 := hbel1.size
  have HX1 := Lib.hid hbox1
  clear hv1 hf1 hbel1 hbox1 hbox0 c0 c1 c2
  go_wp2_with fail
  refine (mul_D _ v1 d (10 ^ n) _ (by have := HLD.out; have := HHD.out; omega) (by have := HT.out; omega) ((HA.out.below HB0.out).below HB1.out) HV1.out).mono ?_
  rintro e w2 ⟨v2, rfl, hv2, hf2, hbel2⟩
  have hbox2 := HX1.out.below hbel2 HX1.out.lt
  have HV2 := Lib.hid hv2
  have HB2 := Lib.hid hbel2
  have hs2 := hbel2.size
  have HX2 := Lib.hid hbox2
  obtain ⟨c0, c1, c2⟩ := box_cells hbox2
  clear hv2 hf2 hbel2 hbox2
  go_wp2_with fail
  refine (shl_D v2 (d * 10 ^ n) q _ _ (by have := HDT.out; have := HT.out; have := HLD.out; have := HHD.out; have := HLM.out; have := HHM.out; omega) (by omega) (by go_num) HV2.out).mono ?_
  rintro e w3 ⟨v3, rfl, hv3, hf3, hbel3⟩
  have HV3 := Lib.hid hv3
  have HB3 := Lib.hid hbel3
  have hs3 := hbel3.size
  clear hv3 hf3 hbel3 c0 c1 c2
  go_wp2_with fail
  have HQ2 := Lib.hid (nd_shl (d * 10 ^ n) q)
  refine (cmp_D v3 _ ((d * 10 ^ n) * 2 ^ q) (M) _ (by have := HDT.out; have := HT.out; have := HLD.out; have := HHD.out; have := HLM.out; have := HHM.out; have := HQ2.out; omega) HV3.out ((((HM.out.below HB0.out).below HB1.out).below HB2.out).below HB3.out)).mono ?_
  rintro e w4 ⟨rfl, n4, rfl⟩
  go_wp2_with fail
  go_ret
  refine ⟨rfl, below_drewN ?_ _⟩
  have b1 : Below w.heap.size w w1 := HB0.out.trans (HB1.out.mono HB0.out.size)
  exact (b1.trans (HB2.out.mono (by have := b1.size; omega))).trans (HB3.out.mono (by have := b1.size; omega))
set_option maxRecDepth 100000 in
set_option maxHeartbeats 2000000 in
theorem against_np (vd vm : Value) (b : Bool) (d M n q : Nat) (w : World) (hd : nd d ≤ 10000) (hM : nd M ≤ 10000) (hn0 : 0 < n) (hn : n ≤ 2000) (hq : q ≤ 4000) (ha : D w vd d) (hm : D w vm M) :
    Calls Tryz.prog 89 #[vd, .int .i64 (-(n : Int)), .agg #[.bool b, vm, .int .i64 (q : Int)]] w fun e w' => e = .returned (.int .i64 (cmpN (d) ((M * 10 ^ n) * 2 ^ q))) ∧ Below w.heap.size w w' := by
  obtain ⟨A, c, rfl⟩ := ha.shape
  obtain ⟨B, k, rfl⟩ := hm.shape
  have HA := Lib.hid ha
  have HM := Lib.hid hm
  have ht := nd_tenB n
  have hdt := nd_mulB M (10 ^ n)
  have HT := Lib.hid ht
  have HDT := Lib.hid hdt
  clear ht hdt
  generalize hld : nd d = ld at *
  generalize hlm : nd M = lm at *
  have HLD := Lib.hid hld
  have HLM := Lib.hid hlm
  clear hld hlm
  have HHD := Lib.hid hd
  have HHM := Lib.hid hM
  clear ha hm hd hM
  go_enter Tryz.func89, Tryz.ntmps89
  go_wp2_with fail
  have hbox := Blk.new w 76 #[.bool b, .slice B lm k, .int .i64 (q : Int)]
  obtain ⟨c0, c1, c2⟩ := box_cells hbox
  have HBOX := Lib.hid hbox
  clear hbox
  go_quiet (fail)
  rename_i nq
  go_wp2_with fail
  refine (ten_D n _ (by omega)).mono ?_
  rintro e w1 ⟨v1, rfl, hv1, hf1, hbel1⟩
  have hbox0 : Blk ((w.alloc (.cells #[.bool b, .slice B lm k, .int .i64 (q : Int)] 76)).drewN nq) w.heap.size 76 #[.bool b, .slice B lm k, .int .i64 (q : Int)] := HBOX.out
  have hbox1 := hbox0.below hbel1 hbox0.lt
  have HV1 := Lib.hid hv1
  have HB0 := Lib.hid (below_drewN ((Below.refl w.heap.size w).alloc (Nat.le_refl _) (.cells #[.bool b, .slice B lm k, .int .i64 (q : Int)] 76)) nq)
  have HB1 := Lib.hid hbel1
  have hs1 := hbel1.size
  have HX1 := Lib.hid hbox1
  clear hv1 hf1 hbel1 hbox1 hbox0 c0 c1 c2
  go_wp2_with fail
  refine (mul_D _ v1 M (10 ^ n) _ (by have := HLM.out; have := HHM.out; omega) (by have := HT.out; omega) ((HM.out.below HB0.out).below HB1.out) HV1.out).mono ?_
  rintro e w2 ⟨v2, rfl, hv2, hf2, hbel2⟩
  have hbox2 := HX1.out.below hbel2 HX1.out.lt
  have HV2 := Lib.hid hv2
  have HB2 := Lib.hid hbel2
  have hs2 := hbel2.size
  have HX2 := Lib.hid hbox2
  obtain ⟨c0, c1, c2⟩ := box_cells hbox2
  clear hv2 hf2 hbel2 hbox2
  go_wp2_with fail
  refine (shl_D v2 (M * 10 ^ n) q _ _ (by have := HDT.out; have := HT.out; have := HLD.out; have := HHD.out; have := HLM.out; have := HHM.out; omega) (by omega) (by go_num) HV2.out).mono ?_
  rintro e w3 ⟨v3, rfl, hv3, hf3, hbel3⟩
  have HV3 := Lib.hid hv3
  have HB3 := Lib.hid hbel3
  have hs3 := hbel3.size
  clear hv3 hf3 hbel3 c0 c1 c2
  go_wp2_with fail
  have HQ2 := Lib.hid (nd_shl (d) q)
  refine (cmp_D _ v3 (d) ((M * 10 ^ n) * 2 ^ q) _ (by have := HDT.out; have := HT.out; have := HLD.out; have := HHD.out; have := HLM.out; have := HHM.out; have := HQ2.out; omega) ((((HA.out.below HB0.out).below HB1.out).below HB2.out).below HB3.out) HV3.out).mono ?_
  rintro e w4 ⟨rfl, n4, rfl⟩
  go_wp2_with fail
  go_ret
  refine ⟨rfl, below_drewN ?_ _⟩
  have b1 : Below w.heap.size w w1 := HB0.out.trans (HB1.out.mono HB0.out.size)
  exact (b1.trans (HB2.out.mono (by have := b1.size; omega))).trans (HB3.out.mono (by have := b1.size; omega))
set_option maxRecDepth 100000 in
set_option maxHeartbeats 2000000 in
theorem against_nn (vd vm : Value) (b : Bool) (d M n q : Nat) (w : World) (hd : nd d ≤ 10000) (hM : nd M ≤ 10000) (hn0 : 0 < n) (hn : n ≤ 2000) (hq0 : 0 < q) (hq : q ≤ 4000) (ha : D w vd d) (hm : D w vm M) :
    Calls Tryz.prog 89 #[vd, .int .i64 (-(n : Int)), .agg #[.bool b, vm, .int .i64 (-(q : Int))]] w fun e w' => e = .returned (.int .i64 (cmpN ((d) * 2 ^ q) (M * 10 ^ n))) ∧ Below w.heap.size w w' := by
  obtain ⟨A, c, rfl⟩ := ha.shape
  obtain ⟨B, k, rfl⟩ := hm.shape
  have HA := Lib.hid ha
  have HM := Lib.hid hm
  have ht := nd_tenB n
  have hdt := nd_mulB M (10 ^ n)
  have HT := Lib.hid ht
  have HDT := Lib.hid hdt
  clear ht hdt
  generalize hld : nd d = ld at *
  generalize hlm : nd M = lm at *
  have HLD := Lib.hid hld
  have HLM := Lib.hid hlm
  clear hld hlm
  have HHD := Lib.hid hd
  have HHM := Lib.hid hM
  clear ha hm hd hM
  go_enter Tryz.func89, Tryz.ntmps89
  go_wp2_with fail
  have hbox := Blk.new w 76 #[.bool b, .slice B lm k, .int .i64 (-(q : Int))]
  obtain ⟨c0, c1, c2⟩ := box_cells hbox
  have HBOX := Lib.hid hbox
  clear hbox
  go_quiet (fail)
  rename_i nq
  go_wp2_with fail
  refine (ten_D n _ (by omega)).mono ?_
  rintro e w1 ⟨v1, rfl, hv1, hf1, hbel1⟩
  have hbox0 : Blk ((w.alloc (.cells #[.bool b, .slice B lm k, .int .i64 (-(q : Int))] 76)).drewN nq) w.heap.size 76 #[.bool b, .slice B lm k, .int .i64 (-(q : Int))] := HBOX.out
  have hbox1 := hbox0.below hbel1 hbox0.lt
  have HV1 := Lib.hid hv1
  have HB0 := Lib.hid (below_drewN ((Below.refl w.heap.size w).alloc (Nat.le_refl _) (.cells #[.bool b, .slice B lm k, .int .i64 (-(q : Int))] 76)) nq)
  have HB1 := Lib.hid hbel1
  have hs1 := hbel1.size
  have HX1 := Lib.hid hbox1
  clear hv1 hf1 hbel1 hbox1 hbox0 c0 c1 c2
  go_wp2_with fail
  refine (mul_D _ v1 M (10 ^ n) _ (by have := HLM.out; have := HHM.out; omega) (by have := HT.out; omega) ((HM.out.below HB0.out).below HB1.out) HV1.out).mono ?_
  rintro e w2 ⟨v2, rfl, hv2, hf2, hbel2⟩
  have hbox2 := HX1.out.below hbel2 HX1.out.lt
  have HV2 := Lib.hid hv2
  have HB2 := Lib.hid hbel2
  have hs2 := hbel2.size
  have HX2 := Lib.hid hbox2
  obtain ⟨c0, c1, c2⟩ := box_cells hbox2
  clear hv2 hf2 hbel2 hbox2
  go_wp2_with fail
  refine (shl_D _ d q _ _ (by have := HDT.out; have := HT.out; have := HLD.out; have := HHD.out; have := HLM.out; have := HHM.out; omega) (by omega) (by go_num) (((HA.out.below HB0.out).below HB1.out).below HB2.out)).mono ?_
  rintro e w3 ⟨v3, rfl, hv3, hf3, hbel3⟩
  have HV3 := Lib.hid hv3
  have HB3 := Lib.hid hbel3
  have hs3 := hbel3.size
  clear hv3 hf3 hbel3 c0 c1 c2
  go_wp2_with fail
  have HQ2 := Lib.hid (nd_shl (d) q)
  refine (cmp_D v3 v2 ((d) * 2 ^ q) (M * 10 ^ n) _ (by have := HDT.out; have := HT.out; have := HLD.out; have := HHD.out; have := HLM.out; have := HHM.out; have := HQ2.out; omega) HV3.out (HV2.out.below HB3.out)).mono ?_
  rintro e w4 ⟨rfl, n4, rfl⟩
  go_wp2_with fail
  go_ret
  refine ⟨rfl, below_drewN ?_ _⟩
  have b1 : Below w.heap.size w w1 := HB0.out.trans (HB1.out.mono HB0.out.size)
  exact (b1.trans (HB2.out.mono (by have := b1.size; omega))).trans (HB3.out.mono (by have := b1.size; omega))
end Go.Proofs.YtijncfidjjfmiaaGreatDoor

namespace FloM
theorem tA_nat (n : Nat) : tA (n : Int) = 10 ^ n ∧ tB (n : Int) = 1 := by
  unfold tA tB
  rw [Int.toNat_natCast, show (-(n : Int)).toNat = 0 by omega]; exact ⟨rfl, rfl⟩
theorem tA_neg (n : Nat) : tA (-(n : Int)) = 1 ∧ tB (-(n : Int)) = 10 ^ n := by
  unfold tA tB
  rw [Int.neg_neg, Int.toNat_natCast, show (-(n : Int)).toNat = 0 by omega]; exact ⟨rfl, rfl⟩
end FloM
namespace Go.Proofs.YtijncfidjjfmiaaGreatDoor
open Go.RowKit FloM

theorem against_any (vd vm : Value) (b : Bool) (d M : Nat) (s P : Int) (w : World) (hd : nd d ≤ 10000) (hM : nd M ≤ 10000) (hs1 : -2000 ≤ s) (hs2 : s ≤ 2000) (hP1 : -4000 ≤ P) (hP2 : P ≤ 4000) (ha : D w vd d) (hm : D w vm M) :
    Calls Tryz.prog 89 #[vd, .int .i64 s, .agg #[.bool b, vm, .int .i64 P]] w fun e w' => e = .returned (.int .i64 (cmpN (d * tA s * 2 ^ (-P).toNat) (M * tB s * 2 ^ P.toNat))) ∧ Below w.heap.size w w' := by
  rcases Int.lt_or_le s 0 with h1 | h1
  · obtain ⟨n, rfl⟩ : ∃ n : Nat, s = -(n : Int) := ⟨(-s).toNat, by omega⟩
    obtain ⟨t1, t2⟩ := tA_neg n
    rw [t1, t2]
    rcases Int.lt_or_le P 0 with h2 | h2
    · obtain ⟨q, rfl⟩ : ∃ q : Nat, P = -(q : Int) := ⟨(-P).toNat, by omega⟩
      rw [Int.neg_neg, Int.toNat_natCast, show (-(q : Int)).toNat = 0 by omega, Nat.pow_zero, Nat.mul_one, Nat.mul_one]
      exact against_nn vd vm b d M n q w hd hM (by omega) (by omega) (by omega) (by omega) ha hm
    · obtain ⟨q, rfl⟩ : ∃ q : Nat, P = (q : Int) := ⟨P.toNat, by omega⟩
      rw [Int.toNat_natCast, show (-(q : Int)).toNat = 0 by omega, Nat.pow_zero, Nat.mul_one, Nat.mul_one]
      exact against_np vd vm b d M n q w hd hM (by omega) (by omega) (by omega) ha hm
  · obtain ⟨n, rfl⟩ : ∃ n : Nat, s = (n : Int) := ⟨s.toNat, by omega⟩
    obtain ⟨t1, t2⟩ := tA_nat n
    rw [t1, t2]
    rcases Int.lt_or_le P 0 with h2 | h2
    · obtain ⟨q, rfl⟩ : ∃ q : Nat, P = -(q : Int) := ⟨(-P).toNat, by omega⟩
      rw [Int.neg_neg, Int.toNat_natCast, show (-(q : Int)).toNat = 0 by omega, Nat.pow_zero, Nat.mul_one, Nat.mul_one]
      exact against_pn vd vm b d M n q w hd hM (by omega) (by omega) (by omega) ha hm
    · obtain ⟨q, rfl⟩ : ∃ q : Nat, P = (q : Int) := ⟨P.toNat, by omega⟩
      rw [Int.toNat_natCast, show (-(q : Int)).toNat = 0 by omega, Nat.pow_zero, Nat.mul_one, Nat.mul_one]
      exact against_pp vd vm b d M n q w hd hM (by omega) (by omega) ha hm
end Go.Proofs.YtijncfidjjfmiaaGreatDoor
