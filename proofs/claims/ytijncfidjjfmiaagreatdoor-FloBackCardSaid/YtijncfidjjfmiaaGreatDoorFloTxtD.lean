/- The reference's decimal: the nearest real of a decimal. -/
import Derived.Test.YtijncfidjjfmiaaGreatDoorFloTxtAB
import Derived.Test.YtijncfidjjfmiaaGreatDoorFloTxtP
namespace Go.Proofs.YtijncfidjjfmiaaGreatDoor
open Go.RowKit FloM

theorem bl_tenB (n : Nat) : bl (10 ^ n) ≤ 4 * n + 1 := by
  rw [bl_le, Nat.pow_succ, Nat.pow_mul]
  have h1 : 10 ^ n ≤ (2 ^ 4) ^ n := Nat.pow_le_pow_left (by decide) n
  have h2 : 0 < 10 ^ n := Nat.pow_pos (by decide)
  omega
theorem wd_pos (u : Nat) : wd false u = u := rfl

set_option maxRecDepth 100000 in
set_option maxHeartbeats 2000000 in
theorem dec_p (vd : Value) (d n : Nat) (w : World) (hd : nd d ≤ 10000) (hn : n ≤ 2000) (ha : D w vd d) :
    Calls Tryz.prog 35 #[vd, .int .i64 (n : Int)] w (RetU w (rq (d * tA (n : Int) * KK) (tB (n : Int)))) := by
  obtain ⟨X, hX⟩ : ∃ X, rNear (d * 10 ^ n) 0 0 = X := ⟨_, rfl⟩
  rw [← dec_pos, hX]
  have HX := Lib.hid hX
  clear hX
  obtain ⟨A, c, rfl⟩ := ha.shape
  have HA := Lib.hid ha
  have HT := Lib.hid (nd_tenB n)
  have HDT := Lib.hid (nd_mulB d (10 ^ n))
  generalize hld : nd d = ld at *
  have HLD := Lib.hid hld
  have HHD := Lib.hid hd
  clear hld ha hd
  go_enter Tryz.func35, Tryz.ntmps35
  go_wp2_with fail
  refine (ten_D n _ (by omega)).mono ?_
  rintro e w1 ⟨v1, rfl, hv1, hf1, hbel1⟩
  have HV1 := Lib.hid hv1
  have HB1 := Lib.hid hbel1
  have hs1 := hbel1.size
  clear hv1 hf1 hbel1
  go_wp2_with fail
  refine (mul_D _ v1 d (10 ^ n) _ (by have := HLD.out; have := HHD.out; omega) (by have := HT.out; omega) (HA.out.below HB1.out) HV1.out).mono ?_
  rintro e w2 ⟨v2, rfl, hv2, hf2, hbel2⟩
  obtain ⟨A2, c2, rfl⟩ := hv2.shape
  have HV2 := Lib.hid hv2
  have HB2 := Lib.hid hbel2
  have hs2 := hbel2.size
  clear hv2 hf2 hbel2
  go_wp2_with fail
  refine (near_any false false _ (d * 10 ^ n) 0 _ (by have := HDT.out; have := HT.out; have := HLD.out; have := HHD.out; omega) (by omega) (by omega) HV2.out).mono ?_
  rintro e w3 ⟨rfl, hbel3⟩
  have HB3 := Lib.hid hbel3
  clear hbel3
  go_wp2_with fail
  go_ret
  have b1 := HB1.out.trans (HB2.out.mono hs1)
  exact ⟨by rw [HX.out]; rfl, b1.trans (HB3.out.mono (by omega))⟩

/-- What decimal reckons at a power below 0. -/
def DecF (d n L q r t X : Nat) : Prop := d * 2 ^ (L + 128) / 10 ^ n = q ∧ d * 2 ^ (L + 128) % 10 ^ n = r ∧ t = (decide (0 < nd r)).toNat ∧ rNear q (-((L : Int) + 128)) t = X

set_option maxRecDepth 100000 in
set_option maxHeartbeats 2000000 in
theorem dec_n (vd : Value) (d n : Nat) (w : World) (hd : nd d ≤ 10000) (hn0 : 0 < n) (hn : n ≤ 2000) (ha : D w vd d) :
    Calls Tryz.prog 35 #[vd, .int .i64 (-(n : Int))] w (RetU w (rq (d * tA (-(n : Int)) * KK) (tB (-(n : Int))))) := by
  obtain ⟨L, hL⟩ : ∃ L, bl (10 ^ n) = L := ⟨_, rfl⟩
  rw [← dec_neg d n L hL, show (-((L + 128 : Nat) : Int)) = -((L : Int) + 128) by omega]
  have hL2 : L ≤ 8001 := by have := bl_tenB n; omega
  obtain ⟨A, c, rfl⟩ := ha.shape
  have HA := Lib.hid ha
  have HT := Lib.hid (nd_tenB n)
  have HP := Lib.hid (show 0 < 10 ^ n from Nat.pow_pos (by decide))
  have hqn : nd (d * 2 ^ (L + 128) / 10 ^ n) ≤ 20000 := by
    have := nd_mono (Nat.div_le_self (d * 2 ^ (L + 128)) (10 ^ n))
    have := nd_shl d (L + 128)
    omega
  generalize hld : nd d = ld at *
  have HLD := Lib.hid hld
  have HHD := Lib.hid hd
  have HL := Lib.hid hL
  clear hld ha hd hL
  generalize hq : d * 2 ^ (L + 128) / 10 ^ n = q at *
  generalize hr : d * 2 ^ (L + 128) % 10 ^ n = r at *
  generalize ht : (if r = 0 then 0 else 1) = t at *
  have htt : t = (decide (0 < nd r)).toNat := by
    have := @nd_eq_zero r
    rw [← ht]
    by_cases h : r = 0
    · rw [if_pos h, decide_eq_false (by omega)]; rfl
    · rw [if_neg h, decide_eq_true (by omega)]; rfl
  have HQN := Lib.hid hqn
  obtain ⟨X, hX⟩ : ∃ X, rNear q (-((L : Int) + 128)) t = X := ⟨_, rfl⟩
  rw [hX]
  have HF : Hid (DecF d n L q r t X) := ⟨hq, hr, htt, hX⟩
  clear hq hr ht hqn hX htt
  go_enter Tryz.func35, Tryz.ntmps35
  go_wp2_with fail
  refine (ten_D n _ (by omega)).mono ?_
  rintro e w1 ⟨v1, rfl, hv1, hf1, hbel1⟩
  have HV1 := Lib.hid hv1
  have HB1 := Lib.hid hbel1
  have hs1 := hbel1.size
  clear hv1 hf1 hbel1
  go_wp2_with fail
  refine (lenB_D v1 (10 ^ n) _ (by have := HT.out; omega) HV1.out).mono ?_
  rintro e w1' ⟨rfl, rfl⟩
  rw [HL.out]
  go_wp2_with fail
  refine (shl_D _ d (L + 128) _ _ (by have := HLD.out; have := HHD.out; omega) (by omega) (by go_num) (HA.out.below HB1.out)).mono ?_
  rintro e w2 ⟨v2, rfl, hv2, hf2, hbel2⟩
  have HV2 := Lib.hid hv2
  have HB2 := Lib.hid hbel2
  have hs2 := hbel2.size
  clear hv2 hf2 hbel2
  go_wp2_with fail
  refine (div_D v2 v1 (d * 2 ^ (L + 128)) (10 ^ n) _ (by have := nd_shl d (L + 128); have := HLD.out; have := HHD.out; omega) (by have := HT.out; omega) HP.out HV2.out (HV1.out.below HB2.out)).mono ?_
  rintro e w3 ⟨v3, u3, rfl, hv3, hu3, _, _, hbel3⟩
  obtain ⟨hq, hr, htt, hX⟩ := HF.out
  rw [hq] at hv3
  rw [hr] at hu3
  have HX := Lib.hid (htt ▸ hX)
  clear hq hr htt hX
  obtain ⟨A3, c3, rfl⟩ := hv3.shape
  obtain ⟨A4, c4, rfl⟩ := hu3.shape
  have HV3 := Lib.hid hv3
  have HB3 := Lib.hid hbel3
  have hs3 := hbel3.size
  clear hv3 hu3 hbel3
  go_wp2_with fail
  refine (near_any false (decide (0 < nd r)) _ q (-((L : Int) + 128)) _ HQN.out (by omega) (by omega) HV3.out).mono ?_
  rintro e w4 ⟨rfl, hbel4⟩
  have HB4 := Lib.hid hbel4
  clear hbel4
  go_wp2_with fail
  go_ret
  have b1 := HB1.out.trans (HB2.out.mono hs1)
  have b2 := b1.trans (HB3.out.mono (by omega))
  exact ⟨by rw [HX.out]; rfl, b2.trans (HB4.out.mono (by omega))⟩

theorem dec_any (vd : Value) (d : Nat) (s : Int) (w : World) (hd : nd d ≤ 10000) (hs1 : -2000 ≤ s) (hs2 : s ≤ 2000) (ha : D w vd d) :
    Calls Tryz.prog 35 #[vd, .int .i64 s] w (RetU w (rq (d * tA s * KK) (tB s))) := by
  rcases Int.lt_or_le s 0 with h1 | h1
  · obtain ⟨n, rfl⟩ : ∃ n : Nat, s = -(n : Int) := ⟨(-s).toNat, by omega⟩
    exact dec_n vd d n w hd (by omega) (by omega) ha
  · obtain ⟨n, rfl⟩ : ∃ n : Nat, s = (n : Int) := ⟨s.toNat, by omega⟩
    exact dec_p vd d n w hd (by omega) ha
end Go.Proofs.YtijncfidjjfmiaaGreatDoor
