/- The reference's cut: the greatest amount of tenths below. -/
import Derived.Test.YtijncfidjjfmiaaGreatDoorFloTxtAB
import Derived.Test.YtijncfidjjfmiaaGreatDoorFloSumC
namespace Go.Proofs.YtijncfidjjfmiaaGreatDoor
open Go.RowKit FloM

set_option maxRecDepth 100000 in
set_option maxHeartbeats 2000000 in
theorem cut_pp (vm : Value) (b : Bool) (M n q : Nat) (w : World) (hM : nd M ≤ 10000) (hn : n ≤ 2000) (hq : q ≤ 4000) (o : Nat) (ho : o = 1) (hm : D w vm M) :
    Calls Tryz.prog 53 #[.agg #[.bool b, vm, .int .i64 ((q : Int))], .int .i64 ((n : Int))] w (GivesD w (M * 2 ^ q / (o * 10 ^ n))) := by
  obtain ⟨B, k, rfl⟩ := hm.shape
  have HM := Lib.hid hm
  have HT := Lib.hid (nd_tenB n)
  have HSH := Lib.hid (nd_shl M q)
  have HN1 := Lib.hid (show nd o ≤ 1 by rw [ho]; decide)
  have HO := Lib.hid (show 0 < o by omega)
  generalize hlm : nd M = lm at *
  have HLM := Lib.hid hlm
  have HHM := Lib.hid hM
  clear hlm hm hM
  go_enter Tryz.func53, Tryz.ntmps53
  have hbox := Blk.new w 76 #[.bool b, .slice B lm k, .int .i64 ((q : Int))]
  obtain ⟨c0, c1, c2⟩ := box_cells hbox
  have hbox2 : Blk ((w.alloc (.cells #[.bool b, .slice B lm k, .int .i64 ((q : Int))] 76)).alloc (.cells #[.int .u16 1] 81)) w.heap.size 76 #[.bool b, .slice B lm k, .int .i64 ((q : Int))] := hbox.alloc (.cells #[.int .u16 1] 81)
  have hone : D ((w.alloc (.cells #[.bool b, .slice B lm k, .int .i64 ((q : Int))] 76)).alloc (.cells #[.int .u16 1] 81)) (.slice (some ⟨w.heap.size + 1, 0, none⟩) 1 1) o := by
    rw [ho]
    have := one_D (w.alloc (.cells #[.bool b, .slice B lm k, .int .i64 ((q : Int))] 76))
    simpa using this
  clear ho
  have hW := two_alloc w (.cells #[.bool b, .slice B lm k, .int .i64 ((q : Int))] 76) (.cells #[.int .u16 1] 81)
  go_wp2_with fail
  generalize hWW : (w.alloc (.cells #[.bool b, .slice B lm k, .int .i64 ((q : Int))] 76)).alloc (.cells #[.int .u16 1] 81) = W at *
  obtain ⟨c0', c1', c2'⟩ := box_cells hbox2
  have HBX := Lib.hid hbox2
  have HMW := Lib.hid (HM.out.below hW)
  have HONE := Lib.hid hone
  have HW := Lib.hid hW
  have hsW := hW.size
  have hlW := hbox2.lt
  clear hbox hbox2 hone hW hWW c0 c1 c2
  refine (shl_D _ M q _ _ (by have := HT.out; have := HLM.out; have := HHM.out; have := HSH.out; have := HN1.out; omega) (by omega) (by go_num) HMW.out).mono ?_
  rintro e w3 ⟨v3, rfl, hv3, hf3, hbel3⟩
  have HV3 := Lib.hid hv3
  have HB3 := Lib.hid hbel3
  have hs3 := hbel3.size
  have HX3 := Lib.hid (HBX.out.below hbel3 hlW)
  clear hv3 hf3 hbel3 c0' c1' c2'
  obtain ⟨c0, c1, c2⟩ := box_cells HX3.out
  go_wp2_with fail
  refine (ten_D n _ (by omega)).mono ?_
  rintro e w4 ⟨v4, rfl, hv4, hf4, hbel4⟩
  have HV4 := Lib.hid hv4
  have HB4 := Lib.hid hbel4
  have hs4 := hbel4.size
  clear hv4 hf4 hbel4 c0 c1 c2
  go_wp2_with fail
  refine (mul_D _ v4 (o) (10 ^ n) _ (by have := HT.out; have := HLM.out; have := HHM.out; have := HSH.out; have := HN1.out; omega) (by have := HT.out; have := HLM.out; have := HHM.out; have := HSH.out; have := HN1.out; omega) ((HONE.out.below HB3.out).below HB4.out) HV4.out).mono ?_
  rintro e w5 ⟨v5, rfl, hv5, hf5, hbel5⟩
  have HV5 := Lib.hid hv5
  have HB5 := Lib.hid hbel5
  have HMU := Lib.hid (nd_mulB (o) (10 ^ n))
  have hs5 := hbel5.size
  clear hv5 hf5 hbel5
  go_wp2_with fail
  refine (div_D _ _ (M * 2 ^ q) (o * 10 ^ n) _ (by have := HT.out; have := HLM.out; have := HHM.out; have := HSH.out; have := HMU.out; have := HN1.out; omega) (by have := HT.out; have := HLM.out; have := HHM.out; have := HSH.out; have := HMU.out; have := HN1.out; omega) (Nat.mul_pos HO.out (Nat.pow_pos (by decide))) ((HV3.out.below HB4.out).below HB5.out) HV5.out).mono ?_
  rintro e w6 ⟨v6, u6, rfl, hv6, hu6, hf6, hg6, hbel6⟩
  have HV6 := Lib.hid hv6
  have HB6 := Lib.hid hbel6
  have HF6 := Lib.hid hf6
  clear hv6 hu6 hf6 hg6 hbel6
  go_wp2_with fail
  go_ret
  have b1 := HW.out.trans (HB3.out.mono hsW)
  have b2 := b1.trans (HB4.out.mono (by omega))
  have b3 := b2.trans (HB5.out.mono (by omega))
  exact ⟨v6, rfl, HV6.out, fun g hg => Nat.le_trans (by omega) (HF6.out g hg), b3.trans (HB6.out.mono (by omega))⟩

set_option maxRecDepth 100000 in
set_option maxHeartbeats 2000000 in
theorem cut_pn (vm : Value) (b : Bool) (M n q : Nat) (w : World) (hM : nd M ≤ 10000) (hn : n ≤ 2000) (hq : q ≤ 4000) (o : Nat) (ho : o = 1) (hq0 : 0 < q) (hm : D w vm M) :
    Calls Tryz.prog 53 #[.agg #[.bool b, vm, .int .i64 (-(q : Int))], .int .i64 ((n : Int))] w (GivesD w (M / (o * 2 ^ q * 10 ^ n))) := by
  obtain ⟨B, k, rfl⟩ := hm.shape
  have HM := Lib.hid hm
  have HT := Lib.hid (nd_tenB n)
  have HSH := Lib.hid (nd_shl o q)
  have HN1 := Lib.hid (show nd o ≤ 1 by rw [ho]; decide)
  have HO := Lib.hid (show 0 < o by omega)
  generalize hlm : nd M = lm at *
  have HLM := Lib.hid hlm
  have HHM := Lib.hid hM
  clear hlm hm hM
  go_enter Tryz.func53, Tryz.ntmps53
  have hbox := Blk.new w 76 #[.bool b, .slice B lm k, .int .i64 (-(q : Int))]
  obtain ⟨c0, c1, c2⟩ := box_cells hbox
  have hbox2 : Blk ((w.alloc (.cells #[.bool b, .slice B lm k, .int .i64 (-(q : Int))] 76)).alloc (.cells #[.int .u16 1] 81)) w.heap.size 76 #[.bool b, .slice B lm k, .int .i64 (-(q : Int))] := hbox.alloc (.cells #[.int .u16 1] 81)
  have hone : D ((w.alloc (.cells #[.bool b, .slice B lm k, .int .i64 (-(q : Int))] 76)).alloc (.cells #[.int .u16 1] 81)) (.slice (some ⟨w.heap.size + 1, 0, none⟩) 1 1) o := by
    rw [ho]
    have := one_D (w.alloc (.cells #[.bool b, .slice B lm k, .int .i64 (-(q : Int))] 76))
    simpa using this
  clear ho
  have hW := two_alloc w (.cells #[.bool b, .slice B lm k, .int .i64 (-(q : Int))] 76) (.cells #[.int .u16 1] 81)
  go_wp2_with fail
  generalize hWW : (w.alloc (.cells #[.bool b, .slice B lm k, .int .i64 (-(q : Int))] 76)).alloc (.cells #[.int .u16 1] 81) = W at *
  obtain ⟨c0', c1', c2'⟩ := box_cells hbox2
  have HBX := Lib.hid hbox2
  have HMW := Lib.hid (HM.out.below hW)
  have HONE := Lib.hid hone
  have HW := Lib.hid hW
  have hsW := hW.size
  have hlW := hbox2.lt
  clear hbox hbox2 hone hW hWW c0 c1 c2
  refine (shl_D _ o q _ _ (by have := HT.out; have := HLM.out; have := HHM.out; have := HSH.out; have := HN1.out; omega) (by omega) (by go_num) HONE.out).mono ?_
  rintro e w3 ⟨v3, rfl, hv3, hf3, hbel3⟩
  have HV3 := Lib.hid hv3
  have HB3 := Lib.hid hbel3
  have hs3 := hbel3.size
  have HX3 := Lib.hid (HBX.out.below hbel3 hlW)
  clear hv3 hf3 hbel3 c0' c1' c2'
  obtain ⟨c0, c1, c2⟩ := box_cells HX3.out
  go_wp2_with fail
  refine (ten_D n _ (by omega)).mono ?_
  rintro e w4 ⟨v4, rfl, hv4, hf4, hbel4⟩
  have HV4 := Lib.hid hv4
  have HB4 := Lib.hid hbel4
  have hs4 := hbel4.size
  clear hv4 hf4 hbel4 c0 c1 c2
  go_wp2_with fail
  refine (mul_D _ v4 (o * 2 ^ q) (10 ^ n) _ (by have := HT.out; have := HLM.out; have := HHM.out; have := HSH.out; have := HN1.out; omega) (by have := HT.out; have := HLM.out; have := HHM.out; have := HSH.out; have := HN1.out; omega) (HV3.out.below HB4.out) HV4.out).mono ?_
  rintro e w5 ⟨v5, rfl, hv5, hf5, hbel5⟩
  have HV5 := Lib.hid hv5
  have HB5 := Lib.hid hbel5
  have HMU := Lib.hid (nd_mulB (o * 2 ^ q) (10 ^ n))
  have hs5 := hbel5.size
  clear hv5 hf5 hbel5
  go_wp2_with fail
  refine (div_D _ _ (M) (o * 2 ^ q * 10 ^ n) _ (by have := HT.out; have := HLM.out; have := HHM.out; have := HSH.out; have := HMU.out; have := HN1.out; omega) (by have := HT.out; have := HLM.out; have := HHM.out; have := HSH.out; have := HMU.out; have := HN1.out; omega) (Nat.mul_pos (Nat.mul_pos HO.out (Nat.two_pow_pos q)) (Nat.pow_pos (by decide))) (((HMW.out.below HB3.out).below HB4.out).below HB5.out) HV5.out).mono ?_
  rintro e w6 ⟨v6, u6, rfl, hv6, hu6, hf6, hg6, hbel6⟩
  have HV6 := Lib.hid hv6
  have HB6 := Lib.hid hbel6
  have HF6 := Lib.hid hf6
  clear hv6 hu6 hf6 hg6 hbel6
  go_wp2_with fail
  go_ret
  have b1 := HW.out.trans (HB3.out.mono hsW)
  have b2 := b1.trans (HB4.out.mono (by omega))
  have b3 := b2.trans (HB5.out.mono (by omega))
  exact ⟨v6, rfl, HV6.out, fun g hg => Nat.le_trans (by omega) (HF6.out g hg), b3.trans (HB6.out.mono (by omega))⟩

set_option maxRecDepth 100000 in
set_option maxHeartbeats 2000000 in
theorem cut_np (vm : Value) (b : Bool) (M n q : Nat) (w : World) (hM : nd M ≤ 10000) (hn : n ≤ 2000) (hq : q ≤ 4000) (o : Nat) (ho : o = 1) (hn0 : 0 < n) (hm : D w vm M) :
    Calls Tryz.prog 53 #[.agg #[.bool b, vm, .int .i64 ((q : Int))], .int .i64 (-(n : Int))] w (GivesD w (M * 2 ^ q * 10 ^ n / (o))) := by
  obtain ⟨B, k, rfl⟩ := hm.shape
  have HM := Lib.hid hm
  have HT := Lib.hid (nd_tenB n)
  have HSH := Lib.hid (nd_shl M q)
  have HN1 := Lib.hid (show nd o ≤ 1 by rw [ho]; decide)
  have HO := Lib.hid (show 0 < o by omega)
  generalize hlm : nd M = lm at *
  have HLM := Lib.hid hlm
  have HHM := Lib.hid hM
  clear hlm hm hM
  go_enter Tryz.func53, Tryz.ntmps53
  have hbox := Blk.new w 76 #[.bool b, .slice B lm k, .int .i64 ((q : Int))]
  obtain ⟨c0, c1, c2⟩ := box_cells hbox
  have hbox2 : Blk ((w.alloc (.cells #[.bool b, .slice B lm k, .int .i64 ((q : Int))] 76)).alloc (.cells #[.int .u16 1] 81)) w.heap.size 76 #[.bool b, .slice B lm k, .int .i64 ((q : Int))] := hbox.alloc (.cells #[.int .u16 1] 81)
  have hone : D ((w.alloc (.cells #[.bool b, .slice B lm k, .int .i64 ((q : Int))] 76)).alloc (.cells #[.int .u16 1] 81)) (.slice (some ⟨w.heap.size + 1, 0, none⟩) 1 1) o := by
    rw [ho]
    have := one_D (w.alloc (.cells #[.bool b, .slice B lm k, .int .i64 ((q : Int))] 76))
    simpa using this
  clear ho
  have hW := two_alloc w (.cells #[.bool b, .slice B lm k, .int .i64 ((q : Int))] 76) (.cells #[.int .u16 1] 81)
  go_wp2_with fail
  generalize hWW : (w.alloc (.cells #[.bool b, .slice B lm k, .int .i64 ((q : Int))] 76)).alloc (.cells #[.int .u16 1] 81) = W at *
  obtain ⟨c0', c1', c2'⟩ := box_cells hbox2
  have HBX := Lib.hid hbox2
  have HMW := Lib.hid (HM.out.below hW)
  have HONE := Lib.hid hone
  have HW := Lib.hid hW
  have hsW := hW.size
  have hlW := hbox2.lt
  clear hbox hbox2 hone hW hWW c0 c1 c2
  refine (shl_D _ M q _ _ (by have := HT.out; have := HLM.out; have := HHM.out; have := HSH.out; have := HN1.out; omega) (by omega) (by go_num) HMW.out).mono ?_
  rintro e w3 ⟨v3, rfl, hv3, hf3, hbel3⟩
  have HV3 := Lib.hid hv3
  have HB3 := Lib.hid hbel3
  have hs3 := hbel3.size
  have HX3 := Lib.hid (HBX.out.below hbel3 hlW)
  clear hv3 hf3 hbel3 c0' c1' c2'
  obtain ⟨c0, c1, c2⟩ := box_cells HX3.out
  go_wp2_with fail
  refine (ten_D n _ (by omega)).mono ?_
  rintro e w4 ⟨v4, rfl, hv4, hf4, hbel4⟩
  have HV4 := Lib.hid hv4
  have HB4 := Lib.hid hbel4
  have hs4 := hbel4.size
  clear hv4 hf4 hbel4 c0 c1 c2
  go_wp2_with fail
  refine (mul_D _ v4 (M * 2 ^ q) (10 ^ n) _ (by have := HT.out; have := HLM.out; have := HHM.out; have := HSH.out; have := HN1.out; omega) (by have := HT.out; have := HLM.out; have := HHM.out; have := HSH.out; have := HN1.out; omega) (HV3.out.below HB4.out) HV4.out).mono ?_
  rintro e w5 ⟨v5, rfl, hv5, hf5, hbel5⟩
  have HV5 := Lib.hid hv5
  have HB5 := Lib.hid hbel5
  have HMU := Lib.hid (nd_mulB (M * 2 ^ q) (10 ^ n))
  have hs5 := hbel5.size
  clear hv5 hf5 hbel5
  go_wp2_with fail
  refine (div_D _ _ (M * 2 ^ q * 10 ^ n) (o) _ (by have := HT.out; have := HLM.out; have := HHM.out; have := HSH.out; have := HMU.out; have := HN1.out; omega) (by have := HT.out; have := HLM.out; have := HHM.out; have := HSH.out; have := HMU.out; have := HN1.out; omega) HO.out HV5.out (((HONE.out.below HB3.out).below HB4.out).below HB5.out)).mono ?_
  rintro e w6 ⟨v6, u6, rfl, hv6, hu6, hf6, hg6, hbel6⟩
  have HV6 := Lib.hid hv6
  have HB6 := Lib.hid hbel6
  have HF6 := Lib.hid hf6
  clear hv6 hu6 hf6 hg6 hbel6
  go_wp2_with fail
  go_ret
  have b1 := HW.out.trans (HB3.out.mono hsW)
  have b2 := b1.trans (HB4.out.mono (by omega))
  have b3 := b2.trans (HB5.out.mono (by omega))
  exact ⟨v6, rfl, HV6.out, fun g hg => Nat.le_trans (by omega) (HF6.out g hg), b3.trans (HB6.out.mono (by omega))⟩

set_option maxRecDepth 100000 in
set_option maxHeartbeats 2000000 in
theorem cut_nn (vm : Value) (b : Bool) (M n q : Nat) (w : World) (hM : nd M ≤ 10000) (hn : n ≤ 2000) (hq : q ≤ 4000) (o : Nat) (ho : o = 1) (hn0 : 0 < n) (hq0 : 0 < q) (hm : D w vm M) :
    Calls Tryz.prog 53 #[.agg #[.bool b, vm, .int .i64 (-(q : Int))], .int .i64 (-(n : Int))] w (GivesD w (M * 10 ^ n / (o * 2 ^ q))) := by
  obtain ⟨B, k, rfl⟩ := hm.shape
  have HM := Lib.hid hm
  have HT := Lib.hid (nd_tenB n)
  have HSH := Lib.hid (nd_shl o q)
  have HN1 := Lib.hid (show nd o ≤ 1 by rw [ho]; decide)
  have HO := Lib.hid (show 0 < o by omega)
  generalize hlm : nd M = lm at *
  have HLM := Lib.hid hlm
  have HHM := Lib.hid hM
  clear hlm hm hM
  go_enter Tryz.func53, Tryz.ntmps53
  have hbox := Blk.new w 76 #[.bool b, .slice B lm k, .int .i64 (-(q : Int))]
  obtain ⟨c0, c1, c2⟩ := box_cells hbox
  have hbox2 : Blk ((w.alloc (.cells #[.bool b, .slice B lm k, .int .i64 (-(q : Int))] 76)).alloc (.cells #[.int .u16 1] 81)) w.heap.size 76 #[.bool b, .slice B lm k, .int .i64 (-(q : Int))] := hbox.alloc (.cells #[.int .u16 1] 81)
  have hone : D ((w.alloc (.cells #[.bool b, .slice B lm k, .int .i64 (-(q : Int))] 76)).alloc (.cells #[.int .u16 1] 81)) (.slice (some ⟨w.heap.size + 1, 0, none⟩) 1 1) o := by
    rw [ho]
    have := one_D (w.alloc (.cells #[.bool b, .slice B lm k, .int .i64 (-(q : Int))] 76))
    simpa using this
  clear ho
  have hW := two_alloc w (.cells #[.bool b, .slice B lm k, .int .i64 (-(q : Int))] 76) (.cells #[.int .u16 1] 81)
  go_wp2_with fail
  generalize hWW : (w.alloc (.cells #[.bool b, .slice B lm k, .int .i64 (-(q : Int))] 76)).alloc (.cells #[.int .u16 1] 81) = W at *
  obtain ⟨c0', c1', c2'⟩ := box_cells hbox2
  have HBX := Lib.hid hbox2
  have HMW := Lib.hid (HM.out.below hW)
  have HONE := Lib.hid hone
  have HW := Lib.hid hW
  have hsW := hW.size
  have hlW := hbox2.lt
  clear hbox hbox2 hone hW hWW c0 c1 c2
  refine (shl_D _ o q _ _ (by have := HT.out; have := HLM.out; have := HHM.out; have := HSH.out; have := HN1.out; omega) (by omega) (by go_num) HONE.out).mono ?_
  rintro e w3 ⟨v3, rfl, hv3, hf3, hbel3⟩
  have HV3 := Lib.hid hv3
  have HB3 := Lib.hid hbel3
  have hs3 := hbel3.size
  have HX3 := Lib.hid (HBX.out.below hbel3 hlW)
  clear hv3 hf3 hbel3 c0' c1' c2'
  obtain ⟨c0, c1, c2⟩ := box_cells HX3.out
  go_wp2_with fail
  refine (ten_D n _ (by omega)).mono ?_
  rintro e w4 ⟨v4, rfl, hv4, hf4, hbel4⟩
  have HV4 := Lib.hid hv4
  have HB4 := Lib.hid hbel4
  have hs4 := hbel4.size
  clear hv4 hf4 hbel4 c0 c1 c2
  go_wp2_with fail
  refine (mul_D _ v4 (M) (10 ^ n) _ (by have := HT.out; have := HLM.out; have := HHM.out; have := HSH.out; have := HN1.out; omega) (by have := HT.out; have := HLM.out; have := HHM.out; have := HSH.out; have := HN1.out; omega) ((HMW.out.below HB3.out).below HB4.out) HV4.out).mono ?_
  rintro e w5 ⟨v5, rfl, hv5, hf5, hbel5⟩
  have HV5 := Lib.hid hv5
  have HB5 := Lib.hid hbel5
  have HMU := Lib.hid (nd_mulB (M) (10 ^ n))
  have hs5 := hbel5.size
  clear hv5 hf5 hbel5
  go_wp2_with fail
  refine (div_D _ _ (M * 10 ^ n) (o * 2 ^ q) _ (by have := HT.out; have := HLM.out; have := HHM.out; have := HSH.out; have := HMU.out; have := HN1.out; omega) (by have := HT.out; have := HLM.out; have := HHM.out; have := HSH.out; have := HMU.out; have := HN1.out; omega) (Nat.mul_pos HO.out (Nat.two_pow_pos q)) HV5.out ((HV3.out.below HB4.out).below HB5.out)).mono ?_
  rintro e w6 ⟨v6, u6, rfl, hv6, hu6, hf6, hg6, hbel6⟩
  have HV6 := Lib.hid hv6
  have HB6 := Lib.hid hbel6
  have HF6 := Lib.hid hf6
  clear hv6 hu6 hf6 hg6 hbel6
  go_wp2_with fail
  go_ret
  have b1 := HW.out.trans (HB3.out.mono hsW)
  have b2 := b1.trans (HB4.out.mono (by omega))
  have b3 := b2.trans (HB5.out.mono (by omega))
  exact ⟨v6, rfl, HV6.out, fun g hg => Nat.le_trans (by omega) (HF6.out g hg), b3.trans (HB6.out.mono (by omega))⟩

theorem cut_any (vm : Value) (b : Bool) (M : Nat) (s P : Int) (w : World) (hM : nd M ≤ 10000) (hs1 : -2000 ≤ s) (hs2 : s ≤ 2000) (hP1 : -4000 ≤ P) (hP2 : P ≤ 4000) (hm : D w vm M) :
    Calls Tryz.prog 53 #[.agg #[.bool b, vm, .int .i64 P], .int .i64 s] w (GivesD w (M * 2 ^ P.toNat * tB s / (2 ^ (-P).toNat * tA s))) := by
  rcases Int.lt_or_le s 0 with h1 | h1
  · obtain ⟨n, rfl⟩ : ∃ n : Nat, s = -(n : Int) := ⟨(-s).toNat, by omega⟩
    obtain ⟨t1, t2⟩ := tA_neg n
    rw [t1, t2]
    rcases Int.lt_or_le P 0 with h2 | h2
    · obtain ⟨q, rfl⟩ : ∃ q : Nat, P = -(q : Int) := ⟨(-P).toNat, by omega⟩
      have h := cut_nn vm b M n q w hM (by omega) (by omega) 1 rfl (by omega) (by omega) hm
      rw [Int.neg_neg, Int.toNat_natCast, show (-(q : Int)).toNat = 0 by omega, Nat.pow_zero, Nat.mul_one, Nat.mul_one]
      rwa [Nat.one_mul] at h
    · obtain ⟨q, rfl⟩ : ∃ q : Nat, P = (q : Int) := ⟨P.toNat, by omega⟩
      have h := cut_np vm b M n q w hM (by omega) (by omega) 1 rfl (by omega) hm
      rw [Int.toNat_natCast, show (-(q : Int)).toNat = 0 by omega, Nat.pow_zero, Nat.mul_one]
      exact h
  · obtain ⟨n, rfl⟩ : ∃ n : Nat, s = (n : Int) := ⟨s.toNat, by omega⟩
    obtain ⟨t1, t2⟩ := tA_nat n
    rw [t1, t2]
    rcases Int.lt_or_le P 0 with h2 | h2
    · obtain ⟨q, rfl⟩ : ∃ q : Nat, P = -(q : Int) := ⟨(-P).toNat, by omega⟩
      have h := cut_pn vm b M n q w hM (by omega) (by omega) 1 rfl (by omega) hm
      rw [Int.neg_neg, Int.toNat_natCast, show (-(q : Int)).toNat = 0 by omega, Nat.pow_zero, Nat.mul_one, Nat.mul_one]
      rwa [Nat.one_mul] at h
    · obtain ⟨q, rfl⟩ : ∃ q : Nat, P = (q : Int) := ⟨P.toNat, by omega⟩
      have h := cut_pp vm b M n q w hM (by omega) (by omega) 1 rfl  hm
      rw [Int.toNat_natCast, show (-(q : Int)).toNat = 0 by omega, Nat.pow_zero, Nat.mul_one]
      exact h
end Go.Proofs.YtijncfidjjfmiaaGreatDoor
