/- The reference's shortest: its loop ends with the library's digits. -/
import Derived.Test.YtijncfidjjfmiaaGreatDoorFloTxtH
namespace Go.Proofs.YtijncfidjjfmiaaGreatDoor
open Go.RowKit FloM

def GivesS (w : World) (u : Nat) (e : Ending) (w' : World) : Prop := e = .returned (.tuple #[.string ⟨(shT u).toArray⟩, .int .i64 (shE u)]) ∧ Below w.heap.size w w'

set_option maxRecDepth 100000 in
set_option maxHeartbeats 4000000 in
theorem shortest_any (u : Nat) (h0 : 0 < u) (hu : u < cap) (w : World) :
    Calls Tryz.prog 24 #[.int .u64 (u : Int)] w (GivesS w u) := by
  have hrg : rg u = u := by unfold rg; have : cap = 2047 * 2 ^ 52 := rfl; omega
  have HOF := Lib.hid (fun w => rof_any u (by have : cap = 2047 * 2 ^ 52 := rfl; omega) w)
  have hP : pp u = (up u : Int) - 1074 := by unfold pp; rw [hrg]
  have hup : up u ≤ 2045 := by unfold up; have : cap = 2047 * 2 ^ 52 := rfl; omega
  rw [hrg] at HOF
  generalize pp u = P at *
  have HPW := Lib.hid (fun vm w hm => power_val u h0 hu (sgn u) vm P w hP hm)
  have HCU := Lib.hid (fun vm s w h1 h2 hm => cut_val u (sgn u) vm P s w hP hu h1 h2 hm)
  have HNE := Lib.hid (fun vk vm k s w h1 h2 h3 hk hm => near_val u (sgn u) vk vm k P s w hP hu h1 h2 h3 hk hm)
  have HEN := Lib.hid (fun e h1 h2 => ends_all u h0 hu e h1 h2)
  have hu2 : u < 2 ^ 63 := Nat.lt_trans hu cap_lt
  have HU := Lib.hid hu
  clear h0 hu hrg hP
  generalize sgn u = b at *
  generalize mg u = M at *
  go_enter Tryz.func24, Tryz.ntmps24
  go_wp2_with fail
  refine (HOF.out _).mono ?_
  rintro e w1 ⟨v1, rfl, hv1, hbel1⟩
  obtain ⟨A1, k1, rfl⟩ := hv1.shape
  generalize nd M = lm at *
  have hbox := Blk.new w1 76 #[.bool b, .slice A1 lm k1, .int .i64 P]
  have hW := hbel1.alloc hbel1.size (.cells #[.bool b, .slice A1 lm k1, .int .i64 P] 76)
  have hmW := hv1.below ((Below.refl w1.heap.size w1).alloc (Nat.le_refl _) (.cells #[.bool b, .slice A1 lm k1, .int .i64 P] 76))
  obtain ⟨c0, c1, c2⟩ := box_cells hbox
  have hs1 := hbel1.size
  have hl1 := hbox.lt
  have HV1 := Lib.hid hv1
  have HB1 := Lib.hid hbel1
  have HBX := Lib.hid hbox
  have HMW := Lib.hid hmW
  have HW := Lib.hid hW
  clear hv1 hbel1 hbox hW hmW
  go_wp2_with fail
  generalize w1.alloc (.cells #[.bool b, .slice A1 lm k1, .int .i64 P] 76) = W at *
  refine (HPW.out _ _ HMW.out).mono ?_
  rintro e w2 ⟨x, rfl, h1, h2, hx1, hx2, hbel2⟩
  have HEN2 := Lib.hid (HEN.out x h1 h2)
  have H1 := Lib.hid h1
  have H2 := Lib.hid h2
  have HB2 := Lib.hid hbel2
  have hsW := HW.out.size
  clear h1 h2 hbel2 c0 c1 c2
  go_wp2_with fail
  go_loopw [6, 7, 8, 9, 10, 11] (fun i k up a b s wr => ∃ n : Nat, i = .int .i64 n ∧ 1 ≤ n ∧ n ≤ 17 ∧ (∀ m : Nat, 1 ≤ m → m < n → ¬ hitR u (x - m)) ∧ Below W.heap.size W wr) (fun i _ _ _ _ _ _ => 18 - (intOf i).toNat)
  case atStart => exact ⟨1, rfl, by omega, by omega, fun m h1 h2 => by omega, HB2.out⟩
  case round =>
    obtain ⟨n, rfl, hn1, hn2, hf, hbel⟩ := hrel
    obtain ⟨o, ho⟩ : ∃ o : Nat, o = 1 := ⟨1, rfl⟩
    have HF := Lib.hid hf
    have HB := Lib.hid hbel
    have hs := hbel.size
    have HBR := Lib.hid (HBX.out.below hbel hl1)
    have HMR := Lib.hid (HMW.out.below hbel)
    have hkb : rFl u (x - n) < 2 ^ 59 := Nat.lt_of_lt_of_le (fl_below (n := n) H1.out) (Nat.le_trans (Nat.pow_le_pow_right (by decide) hn2) (by decide))
    obtain ⟨K, hK⟩ : ∃ K, K = rFl u (x - n) := ⟨_, rfl⟩
    obtain ⟨R1, hR1⟩ : ∃ R, R = rq (K * tA (x - n) * KK) (tB (x - n)) := ⟨_, rfl⟩
    obtain ⟨R2, hR2⟩ : ∃ R, R = rq ((K + o) * tA (x - n) * KK) (tB (x - n)) := ⟨_, rfl⟩
    have HC := Lib.hid (fun vm w hm => hK ▸ HCU.out vm (x - n) w (by omega) (by omega) hm)
    rw [← hK] at hkb
    have hnk : nd K ≤ 4 := nd_64 (by omega)
    have hnk1 : nd (K + o) ≤ 4 := nd_64 (by omega)
    have HNK := Lib.hid hnk
    have HNK1 := Lib.hid hnk1
    have HNO := Lib.hid (show nd o ≤ 1 by rw [ho]; decide)
    have HD1 := Lib.hid (fun v w hd => hR1 ▸ dec_any v K (x - n) w (by omega) (by omega) (by omega) hd)
    have HD2 := Lib.hid (fun v w hd => hR2 ▸ dec_any v (K + o) (x - n) w (by omega) (by omega) (by omega) hd)
    have HR1 := Lib.hid hR1
    have HR2 := Lib.hid hR2
    have HK := Lib.hid hK
    have HO := Lib.hid ho
    have HKB := Lib.hid hkb
    clear hf hbel hR1 hR2 hK hnk hnk1 ho hkb
    obtain ⟨c0, c1, c2⟩ := box_cells HBR.out
    go_wp2_with fail
    refine (HC.out _ _ HMR.out).mono ?_
    rintro e w3 ⟨v3, rfl, hv3, _, hbel3⟩
    have HV3 := Lib.hid hv3
    have HB3 := Lib.hid (HB.out.trans (hbel3.mono hs))
    have hs3 := HB3.out.size
    clear hv3 hbel3 c0 c1 c2
    go_wp2_with fail
    have HONE : Hid (D (w3.alloc (.cells #[.int .u16 1] 81)) (.slice (some ⟨w3.heap.size, 0, none⟩) 1 1) o) := by show D _ _ _; rw [HO.out]; exact one_D w3
    refine (add_D v3 _ K o _ (by have := HNK.out; omega) (by have := HNO.out; omega) (HV3.out.below ((Below.refl w3.heap.size w3).alloc (Nat.le_refl _) _)) HONE.out).mono ?_
    rintro e w4 ⟨v4, rfl, hv4, _, hbel4⟩
    have HV4 := Lib.hid hv4
    have HB34 := Lib.hid (((Below.refl w3.heap.size w3).alloc (Nat.le_refl _) (.cells #[.int .u16 1] 81)).trans (hbel4.mono (by simp)))
    have HB4 := Lib.hid (HB3.out.trans (HB34.out.mono hs3))
    have hs4 := HB4.out.size
    clear hv4 hbel4 HONE
    go_wp2_with fail
    refine (HD1.out v3 w4 (HV3.out.below HB34.out)).mono ?_
    rintro e w5 ⟨rfl, hbel5⟩
    have HV35 := Lib.hid ((HV3.out.below HB34.out).below hbel5)
    have HV45 := Lib.hid (HV4.out.below hbel5)
    have HB5 := Lib.hid (HB4.out.trans (hbel5.mono hs4))
    have hs5 := HB5.out.size
    clear hbel5
    go_wp2_with fail
    refine (HD2.out v4 w5 HV45.out).mono ?_
    rintro e w6 ⟨rfl, hbel6⟩
    have HV36 := Lib.hid (HV35.out.below hbel6)
    have HV46 := Lib.hid (HV45.out.below hbel6)
    have HB6 := Lib.hid (HB5.out.trans (hbel6.mono hs5))
    have hs6 := HB6.out.size
    clear hbel6
    by_cases hA : R1 = u
    · have a1 : ((R1 : Int) == (u : Int)) = true := by rw [beq_iff_eq]; omega
      have HA : Hid (Hit u (rFl u (x - n)) (x - n)) := by show Hit _ _ _; unfold Hit; rw [← HK.out, ← HR1.out]; exact hA
      clear hA
      by_cases hB : R2 = u
      · have b1 : ((R2 : Int) == (u : Int)) = true := by rw [beq_iff_eq]; omega
        have HB' : Hid (Hit u (rFl u (x - n) + 1) (x - n)) := by show Hit _ _ _; unfold Hit; rw [← HK.out, ← HO.out, ← HR2.out]; exact hB
        clear hB
        obtain ⟨c0, c1, c2⟩ := box_cells (HBX.out.below HB6.out hl1)
        go_wp2_with fail
        refine (HNE.out v3 _ K (x - n) w6 (by omega) (by omega) (by have := HKB.out; omega) HV36.out (HMW.out.below HB6.out)).mono ?_
        rintro e w9 ⟨v9, rfl, hv9, hbel9⟩
        obtain ⟨k, hk⟩ : ∃ k, k = (if 2 * (val u * tB (x - n)) < (2 * K + 1) * (tA (x - n) * KK) ∨ (2 * (val u * tB (x - n)) = (2 * K + 1) * (tA (x - n) * KK) ∧ K % 2 = 0) then K else K + 1) := ⟨_, rfl⟩
        rw [← hk] at hv9
        have HTK : Hid (takes u (x - n) k) := .inl ⟨HA, HB', by rw [hk, HK.out]⟩
        have HK9 := Lib.hid hv9
        have HB9 := Lib.hid (HB6.out.trans (hbel9.mono hs6))
        clear hv9 hbel9 hk c0 c1 c2
        obtain ⟨hk0, hk1, hcase⟩ := search_ret HEN2.out hn1 HF.out HTK.out H1.out H2.out
        have hdl : (decZ (k)).length ≤ 1000 := by
          rcases hcase with ⟨_, h, _, _⟩ | ⟨_, _, h, _, _⟩
          · rw [h]; omega
          · rw [h]; decide
        have hnk : nd (k) ≤ 1000 := Nat.le_trans (nd_64 (Nat.lt_of_le_of_lt hk1 (Nat.lt_of_le_of_lt (Nat.pow_le_pow_right (by decide) hn2) (by decide)))) (by decide)
        have HDG := Lib.hid (digits_any v9 (k) w9 hnk hdl HK9.out)
        have hs9 := HB9.out.size
        clear hk0 hk1 hdl hnk
        rcases hcase with ⟨_, hl, ht, he⟩ | ⟨hn, hkk, hz, ht, he⟩
        · rw [ht] at HDG hl
          have HEE := Lib.hid he
          clear ht he
          generalize hT : shT u = T at *
          have HTT := Lib.hid hT
          clear hT
          go_wp2_with fail
          refine HDG.out.mono ?_
          rintro e w10 ⟨rfl, hbel10⟩
          have HB10 := Lib.hid (HB9.out.trans (hbel10.mono hs9))
          clear hbel10
          go_wp2_with fail
          go_ret2
          refine ⟨?_, HW.out.trans (HB10.out.mono hsW)⟩
          rw [HTT.out, ← HEE.out]
          rfl
        · rw [hz] at HDG
          have HEE := Lib.hid he
          have HTT := Lib.hid ht
          clear hkk hz ht he
          subst hn
          go_wp2_with fail
          refine HDG.out.mono ?_
          rintro e w10 ⟨rfl, hbel10⟩
          have HB10 := Lib.hid (HB9.out.trans (hbel10.mono hs9))
          clear hbel10
          go_wp2_with fail
          go_ret2
          refine ⟨?_, HW.out.trans (HB10.out.mono hsW)⟩
          rw [← HTT.out, ← HEE.out]
          rfl
      · have b1 : ((R2 : Int) == (u : Int)) = false := by rw [beq_eq_false_iff_ne]; omega
        have hB' : ¬ Hit u (rFl u (x - n) + 1) (x - n) := by unfold Hit; rw [← HK.out, ← HO.out, ← HR2.out]; exact hB
        have HTK : Hid (takes u (x - n) K) := .inr (.inl ⟨HA, hB', HK.out⟩)
        have HK9 := HV36
        have HB9 := HB6
        clear hB hB'
        obtain ⟨hk0, hk1, hcase⟩ := search_ret HEN2.out hn1 HF.out HTK.out H1.out H2.out
        have hdl : (decZ (K)).length ≤ 1000 := by
          rcases hcase with ⟨_, h, _, _⟩ | ⟨_, _, h, _, _⟩
          · rw [h]; omega
          · rw [h]; decide
        have hnk : nd (K) ≤ 1000 := Nat.le_trans (nd_64 (Nat.lt_of_le_of_lt hk1 (Nat.lt_of_le_of_lt (Nat.pow_le_pow_right (by decide) hn2) (by decide)))) (by decide)
        have HDG := Lib.hid (digits_any v3 (K) w6 hnk hdl HK9.out)
        have hs9 := HB9.out.size
        clear hk0 hk1 hdl hnk
        rcases hcase with ⟨_, hl, ht, he⟩ | ⟨hn, hkk, hz, ht, he⟩
        · rw [ht] at HDG hl
          have HEE := Lib.hid he
          clear ht he
          generalize hT : shT u = T at *
          have HTT := Lib.hid hT
          clear hT
          go_wp2_with fail
          refine HDG.out.mono ?_
          rintro e w10 ⟨rfl, hbel10⟩
          have HB10 := Lib.hid (HB9.out.trans (hbel10.mono hs9))
          clear hbel10
          go_wp2_with fail
          go_ret2
          refine ⟨?_, HW.out.trans (HB10.out.mono hsW)⟩
          rw [HTT.out, ← HEE.out]
          rfl
        · rw [hz] at HDG
          have HEE := Lib.hid he
          have HTT := Lib.hid ht
          clear hkk hz ht he
          subst hn
          go_wp2_with fail
          refine HDG.out.mono ?_
          rintro e w10 ⟨rfl, hbel10⟩
          have HB10 := Lib.hid (HB9.out.trans (hbel10.mono hs9))
          clear hbel10
          go_wp2_with fail
          go_ret2
          refine ⟨?_, HW.out.trans (HB10.out.mono hsW)⟩
          rw [← HTT.out, ← HEE.out]
          rfl
    · have a1 : ((R1 : Int) == (u : Int)) = false := by rw [beq_eq_false_iff_ne]; omega
      have hA' : ¬ Hit u (rFl u (x - n)) (x - n) := by unfold Hit; rw [← HK.out, ← HR1.out]; exact hA
      by_cases hB : R2 = u
      · have b1 : ((R2 : Int) == (u : Int)) = true := by rw [beq_iff_eq]; omega
        have HB' : Hid (Hit u (rFl u (x - n) + 1) (x - n)) := by show Hit _ _ _; unfold Hit; rw [← HK.out, ← HO.out, ← HR2.out]; exact hB
        have HTK : Hid (takes u (x - n) (K + o)) := .inr (.inr ⟨hA', HB', by rw [HK.out, HO.out]⟩)
        have HK9 := HV46
        have HB9 := HB6
        clear hB hA hA'
        obtain ⟨hk0, hk1, hcase⟩ := search_ret HEN2.out hn1 HF.out HTK.out H1.out H2.out
        have hdl : (decZ (K + o)).length ≤ 1000 := by
          rcases hcase with ⟨_, h, _, _⟩ | ⟨_, _, h, _, _⟩
          · rw [h]; omega
          · rw [h]; decide
        have hnk : nd (K + o) ≤ 1000 := Nat.le_trans (nd_64 (Nat.lt_of_le_of_lt hk1 (Nat.lt_of_le_of_lt (Nat.pow_le_pow_right (by decide) hn2) (by decide)))) (by decide)
        have HDG := Lib.hid (digits_any v4 (K + o) w6 hnk hdl HK9.out)
        have hs9 := HB9.out.size
        clear hk0 hk1 hdl hnk
        rcases hcase with ⟨_, hl, ht, he⟩ | ⟨hn, hkk, hz, ht, he⟩
        · rw [ht] at HDG hl
          have HEE := Lib.hid he
          clear ht he
          generalize hT : shT u = T at *
          have HTT := Lib.hid hT
          clear hT
          go_wp2_with fail
          refine HDG.out.mono ?_
          rintro e w10 ⟨rfl, hbel10⟩
          have HB10 := Lib.hid (HB9.out.trans (hbel10.mono hs9))
          clear hbel10
          go_wp2_with fail
          go_ret2
          refine ⟨?_, HW.out.trans (HB10.out.mono hsW)⟩
          rw [HTT.out, ← HEE.out]
          rfl
        · rw [hz] at HDG
          have HEE := Lib.hid he
          have HTT := Lib.hid ht
          clear hkk hz ht he
          subst hn
          go_wp2_with fail
          refine HDG.out.mono ?_
          rintro e w10 ⟨rfl, hbel10⟩
          have HB10 := Lib.hid (HB9.out.trans (hbel10.mono hs9))
          clear hbel10
          go_wp2_with fail
          go_ret2
          refine ⟨?_, HW.out.trans (HB10.out.mono hsW)⟩
          rw [← HTT.out, ← HEE.out]
          rfl
      · have b1 : ((R2 : Int) == (u : Int)) = false := by rw [beq_eq_false_iff_ne]; omega
        have hB' : ¬ Hit u (rFl u (x - n) + 1) (x - n) := by unfold Hit; rw [← HK.out, ← HO.out, ← HR2.out]; exact hB
        have hno : ¬ hitR u (x - n) := fun h => h.elim hA' hB'
        have hfn : ∀ m : Nat, 1 ≤ m → m < n + 1 → ¬ hitR u (x - m) := fun m h1 h2 => by
          rcases Nat.lt_or_ge m n with h | h
          · exact HF.out m h1 h
          · obtain rfl : m = n := by omega
            exact hno
        have hn3 : n ≤ 16 := by
          obtain ⟨n0, h1, h2, h3⟩ := HEN2.out.1
          rcases Nat.lt_or_ge n 17 with h | h
          · omega
          · exact absurd h3 (hfn n0 h1 (by omega))
        have HFN := Lib.hid hfn
        clear hB hA hA' hB' hno hfn
        go_wp2_with fail
        go_roundw
        case rel => exact ⟨n + 1, by go_num, by omega, by omega, HFN.out, HB6.out⟩
        case measure => simp [intOf]; omega
end Go.Proofs.YtijncfidjjfmiaaGreatDoor
