/- Cps: Check, the program's way. -/
import Derived.Test.YtjhdlnllhjffkaaGreatDoorCpsFo
import Derived.Test.YtjhdlnllhjffkaaGreatDoorCloMk
import Derived.BigQuiet
namespace Go.Proofs.YtjhdlnllhjffkaaGreatDoor
open Go.RowKit LamM CpsM

set_option maxRecDepth 100000 in
set_option maxHeartbeats 8000000 in
theorem ccheck_in (L : List Fl) (A : Option Addr) (c n root : Nat) (w : World) (hr : root < L.length) (hn : n = root + 1) (hN : NF w w.heap.size (.slice A L.length c) L) :
    Calls Tryz.prog 48 #[.agg #[.slice A L.length c, .int .i64 (root : Int)]] w (CkPost (checkC prims L (root : Int)) w) := by
  obtain ⟨A', c', e, hc1, hc2⟩ := hN.len
  injection e with e1 e2 e3
  subst e1 e3
  obtain ⟨tr, htr⟩ : ∃ tr, L[root]? = some tr := ⟨_, List.getElem?_eq_getElem hr⟩
  obtain ⟨W0, hW0⟩ : ∃ W0, w.alloc (.cells #[.slice A L.length c, .int .i64 (root : Int)] 65) = W0 := ⟨_, rfl⟩
  have hbw : Below w.heap.size w W0 := by rw [← hW0]; exact (Below.refl _ _).alloc (Nat.le_refl _) _
  have HB0 := Lib.hid hbw
  have HX0 := Lib.hid (show Blk W0 w.heap.size 65 #[.slice A L.length c, .int .i64 (root : Int)] by rw [← hW0]; exact Blk.new _ _ _)
  have b0 : W0.cell? ⟨w.heap.size, 0, none⟩ = some (.slice A L.length c) := HX0.out.cell 0
  have b1 : W0.cell? ⟨w.heap.size, 1, none⟩ = some (.int .i64 (root : Int)) := HX0.out.cell 1
  have HN := Lib.hid hN
  have hnr : n ≤ L.length := by omega
  have hn1 : n ≤ root + 1 := by omega
  have hn2 : root + 1 ≤ n := by omega
  have hrl : (root : Int) < (L.length : Int) := by omega
  have hLn : L.length ≤ 1300000000000 := by omega
  have HRR := Lib.hid (ckC_in htr)
  have HRG := Lib.hid (fun ho => below_ok (tms L) root ho)
  have HFB := Lib.hid (fun k => allC_beyond (formedP prims L) (below (tms L) root).1 L (root + 1) (fun j hj => by have := below_le (tms L) root j hj; omega) k)
  have HPB := Lib.hid (fun k => allC_beyond (fitsC prims) (below (tms L) root).1 L (root + 1) (fun j hj => by have := below_le (tms L) root j hj; omega) k)
  have HBL := Lib.hid (cbelow_any L A c n root W0 hr hn (NF.below hN hbw))
  have HN0 := Lib.hid (NF.below hN hbw)
  obtain ⟨RC, hRC⟩ : ∃ RC, checkC prims L (root : Int) = RC := ⟨_, rfl⟩
  rw [hRC] at HRR ⊢
  unfold BelowPost at HBL
  unfold CkPost
  obtain ⟨inb, hinb⟩ : ∃ b, (below (tms L) root).1 = b := ⟨_, rfl⟩
  rw [hinb] at HBL HRR HRG HFB HPB
  have HFR := Lib.hid (fun w' v (h : NF w' w'.heap.size v L) => cfree_any L v (root : Int) w' h)
  rw [freeResC_in hr] at HFR
  generalize (below (tms L) root).2 = ok at HBL HRR HRG
  generalize freeOfC L root = fr at HRR HFR
  clear hN hn hRC hinb hbw hr
  obtain ⟨ad0, _, _, _, rfl, _, _, cr0, _⟩ := HN0.out.at_ htr
  have HMV := Lib.hid (fun w' => cmove_any tr.k w')
  clear htr
  cases hmv : moveB tr.k
  · rw [hmv] at HMV HRR
    have HR1 := Lib.hid (show RC = 130 by have := HRR.out; rw [if_pos rfl] at this; exact this)
    clear hmv
    go_enter Tryz.func48, Tryz.ntmps48
    go_wp2_with (go_at_call 73; ((with_reducible refine (HMV.out _).mono ?_); rintro e w' ⟨rfl, rfl⟩))
    go_ret
    exact ⟨by rw [HR1.out]; rfl, HB0.out⟩
  rw [hmv] at HMV HRR
  clear hmv
  go_enter Tryz.func48, Tryz.ntmps48
  go_wp2_with (go_at_call 73; ((with_reducible refine (HMV.out _).mono ?_); rintro e w' ⟨rfl, rfl⟩))
  go_at_call 74
  (with_reducible refine (HBL.out).mono ?_)
  rintro e w1 ⟨gb, rfl, hgb, hob, hb1⟩
  have HOB := Lib.hid hob
  have HB1 := Lib.hid (HB0.out.trans (hb1.mono HB0.out.size))
  have HX1 := Lib.hid (HX0.out.below hb1 HX0.out.lt)
  clear hob hb1 HBL b0 b1 HB0 HX0 hgb
  have b0 : w1.cell? ⟨w.heap.size, 0, none⟩ = some (.slice (some ad0) L.length c) := HX1.out.cell 0
  have b1 : w1.cell? ⟨w.heap.size, 1, none⟩ = some (.int .i64 (root : Int)) := HX1.out.cell 1
  cases ok
  · have HR2 := Lib.hid (show RC = 130 by have := HRR.out; rw [if_neg (by decide), if_pos rfl] at this; exact this)
    go_wp2_with fail
    go_ret
    exact ⟨by rw [HR2.out]; rfl, HB1.out⟩
  · have HRG2 := Lib.hid (HRG.out rfl)
    have HRR2 := HRR.out
    rw [if_neg (by decide), if_neg (by decide)] at HRR2
    have HRR3 := Lib.hid HRR2
    clear HRR2 HRR HRG
    go_wp2_with fail
    go_at_call 9
    (with_reducible refine (prims_any _).mono ?_)
    rintro e w2 ⟨pv, rfl, hpv, hb2⟩
    obtain ⟨PA, pc, hpe, hpc1, hpc2⟩ := hpv.len
    rw [primTab_len] at hpe
    subst hpe
    have HS0 := Lib.hid (show CkC w n gb (.slice (some PA) 61 pc) inb #[.slice (some ad0) L.length c, .int .i64 (root : Int)] w2 from ⟨ownsRow_below HOB.out hb2, hpv, HB1.out.trans (hb2.mono HB1.out.size), HX1.out.below hb2 HX1.out.lt⟩)
    clear hpv hb2 HOB HB1 HX1 b0 b1
    have b0 : w2.cell? ⟨w.heap.size, 0, none⟩ = some (.slice (some ad0) L.length c) := HS0.out.box.cell 0
    have b1 : w2.cell? ⟨w.heap.size, 1, none⟩ = some (.int .i64 (root : Int)) := HS0.out.box.cell 1
    go_wp2_with fail
    go_loopw [6, 49] (fun bd ix wr => ∃ (k : Nat) (pk : Bool), k ≤ n ∧ ix = .int .i64 (k : Int) ∧ bd = .int .i64 (if pk then 0 else 112) ∧ Hid (allC (formedP prims L) inb L k = true) ∧ Hid (allC (fitsC prims) inb L k = pk) ∧ Hid (CkC w n gb (.slice (some PA) 61 pc) inb #[.slice (some ad0) L.length c, .int .i64 (root : Int)] wr)) (fun _ ix _ => n - (intOf ix).toNat)
    case atStart => exact ⟨0, true, Nat.zero_le _, rfl, rfl, rfl, rfl, HS0⟩
    case round =>
      obtain ⟨k, pk, hk, rfl, rfl, HF, HP, HS⟩ := hrel
      obtain ⟨wo, rfl⟩ : ∃ wo : World, wo = wr := ⟨_, rfl⟩
      generalize hbad : (if pk = true then (0 : Int) else 112) = bad
      have HBAD := Lib.hid hbad
      clear hbad b0 b1
      rcases Nat.lt_or_ge k n with hlt | hge
      · obtain ⟨t, ht⟩ : ∃ t, L[k]? = some t := ⟨_, List.getElem?_eq_getElem (by omega)⟩
        have HNr := NF.below HN.out HS.out.bel
        obtain ⟨adx, vv, kv, av, hadE, had, htv, a0, a1, a2, a3, a4, a5, a6, a7, a8⟩ := HNr.at9 ht
        obtain rfl := Option.some.inj hadE
        obtain ⟨VA, vc, rfl, _, _⟩ := htv.v.len
        obtain ⟨KA, kc, rfl, _, _⟩ := htv.k.len
        obtain ⟨AA, ac, rfl, ha1, ha2⟩ := htv.a.len
        have lv := htv.lv
        have lk := htv.lk
        have la := htv.la
        obtain ⟨W1, hW⟩ : ∃ W1, wo.alloc (BoxF t (.slice VA t.vars.length vc) (.slice KA t.keys.length kc) (.slice AA t.args.length ac)) = W1 := ⟨_, rfl⟩
        have hbw : Below wo.heap.size wo W1 := by rw [← hW]; exact (Below.refl _ _).alloc (Nat.le_refl _) _
        have HBX := Lib.hid (show Blk W1 wo.heap.size 43 #[.int .i64 t.k, .int .i64 t.n, .int .i64 t.m, .int .i64 t.i, .int .u64 t.b, .string ⟨t.t.toArray⟩, .slice VA t.vars.length vc, .slice KA t.keys.length kc, .slice AA t.args.length ac] by rw [← hW]; exact Blk.new _ _ _)
        have HS1 := Lib.hid (HS.out.below hbw)
        have cin := HS1.out.made hlt
        have HNW := Lib.hid (NF.below HNr hbw)
        have HTW := Lib.hid (htv.keep (fun p hp => hbw.cell hp))
        unfold BoxF at hW
        have hkL : (k : Int) < (L.length : Int) := by omega
        have hkn : (k : Int) < (n : Int) := by omega
        have hkr : (k : Int) < (root : Int) + 1 := by omega
        clear HNr
        cases hin : inb k
        · rw [hin] at cin
          have HF2 := Lib.hid (show allC (formedP prims L) inb L (k + 1) = true by rw [all_skip hin]; exact HF.out)
          have HP2 := Lib.hid (show allC (fitsC prims) inb L (k + 1) = pk by rw [all_skip hin]; exact HP.out)
          clear ht hin htv hbw
          go_wp2_with fail
          go_roundw
          case rel => exact ⟨k + 1, pk, by omega, by go_num, by rw [HBAD.out], HF2, HP2, HS1⟩
          case measure => simp [intOf]; omega
        · rw [hin] at cin
          have b0 : W1.cell? ⟨w.heap.size, 0, none⟩ = some (.slice (some ad0) L.length c) := HS1.out.box.cell 0
          have hfn := all_made (P := formedP prims L) (L := L) hin ht
          rw [HF.out, Bool.true_and] at hfn
          have hpn := all_made (P := fitsC prims) (L := L) hin ht
          rw [HP.out] at hpn
          have HPN := Lib.hid hpn
          have harg : ∀ a ∈ t.args, 0 ≤ a ∧ a < (L.length : Int) := fun a ha => by
            have := HRG2.out k hin a (by rw [argsC_at ht]; exact ha)
            omega
          have hc1 : W1.cell? ⟨wo.heap.size, 0, none⟩ = some (.int .i64 t.k) := HBX.out.cell 0
          have hc2 : W1.cell? ⟨wo.heap.size, 1, none⟩ = some (.int .i64 t.n) := HBX.out.cell 1
          have hc3 : W1.cell? ⟨wo.heap.size, 2, none⟩ = some (.int .i64 t.m) := HBX.out.cell 2
          have hc4 : W1.cell? ⟨wo.heap.size, 3, none⟩ = some (.int .i64 t.i) := HBX.out.cell 3
          have hc5 : W1.cell? ⟨wo.heap.size, 4, none⟩ = some (.int .u64 t.b) := HBX.out.cell 4
          have hc6 : W1.cell? ⟨wo.heap.size, 5, none⟩ = some (.string ⟨t.t.toArray⟩) := HBX.out.cell 5
          have hc7 : W1.cell? ⟨wo.heap.size, 6, none⟩ = some (.slice VA t.vars.length vc) := HBX.out.cell 6
          have hc8 : W1.cell? ⟨wo.heap.size, 7, none⟩ = some (.slice KA t.keys.length kc) := HBX.out.cell 7
          have hc9 : W1.cell? ⟨wo.heap.size, 8, none⟩ = some (.slice AA t.args.length ac) := HBX.out.cell 8
          have HFM := Lib.hid (cFormed_any L t _ _ _ _ _ W1 HNW.out (FV.more HTW.out hbw.size) harg HS1.out.prv)
          have HTW2 := Lib.hid (FV.more HTW.out hbw.size)
          unfold flVals at HFM
          clear ht hin htv hbw harg hpn
          cases hfo : formedP prims L t
          · rw [hfo] at hfn HFM
            have HR2 := Lib.hid (show RC = 130 by have := HRR3.out; rw [if_pos (allC_false (i := k + 1) (by omega) hfn)] at this; exact this)
            clear hfo hfn
            go_wp2_with (go_at_call 56; ((with_reducible refine (HFM.out).mono ?_); rintro e w4 ⟨rfl, hb4⟩; have HS4 := Lib.hid (HS1.out.below hb4); clear hb4))
            go_ret
            exact ⟨by rw [HR2.out]; rfl, HS4.out.bel⟩
          · rw [hfo] at hfn HFM
            have HF2 := Lib.hid hfn
            clear hfo hfn
            go_upto_region 14 with (go_at_call 56; ((with_reducible refine (HFM.out).mono ?_); rintro e w4 ⟨rfl, hb4⟩; have HS4 := Lib.hid (HS1.out.below hb4); have HX4 := Lib.hid (HBX.out.below hb4 HBX.out.lt); have HT4 := Lib.hid (HTW2.out.below hb4); clear hb4))
            clear b0 hc1 hc2 hc3 hc4 hc5 hc6 hc7 hc8 hc9 a0 a1 a2 a3 a4 a5 a6 a7 a8 cin
            have c0 : w4.cell? ⟨wo.heap.size, 0, none⟩ = some (.int .i64 t.k) := HX4.out.cell 0
            have c1 : w4.cell? ⟨wo.heap.size, 1, none⟩ = some (.int .i64 t.n) := HX4.out.cell 1
            have c2 : w4.cell? ⟨wo.heap.size, 2, none⟩ = some (.int .i64 t.m) := HX4.out.cell 2
            have c3 : w4.cell? ⟨wo.heap.size, 3, none⟩ = some (.int .i64 t.i) := HX4.out.cell 3
            have c4 : w4.cell? ⟨wo.heap.size, 4, none⟩ = some (.int .u64 t.b) := HX4.out.cell 4
            have c5 : w4.cell? ⟨wo.heap.size, 5, none⟩ = some (.string ⟨t.t.toArray⟩) := HX4.out.cell 5
            have c6 : w4.cell? ⟨wo.heap.size, 6, none⟩ = some (.slice VA t.vars.length vc) := HX4.out.cell 6
            have c7 : w4.cell? ⟨wo.heap.size, 7, none⟩ = some (.slice KA t.keys.length kc) := HX4.out.cell 7
            have c8 : w4.cell? ⟨wo.heap.size, 8, none⟩ = some (.slice AA t.args.length ac) := HX4.out.cell 8
            by_cases k8 : t.k = 8
            · have q8 := b_true k8
              have HPM := Lib.hid (cprim_any t _ _ _ _ w4 HS4.out.prv HT4.out)
              unfold flVals at HPM
              have HP3 := Lib.hid (show allC (fitsC prims) inb L (k + 1) = (pk && primOkC prims t) by rw [HPN.out]; unfold fitsC; rw [decide_eq_false (by omega), Bool.false_or])
              generalize primOkC prims t = po at HPM HP3
              clear k8
              cases po
              · have HP2 := Lib.hid (show allC (fitsC prims) inb L (k + 1) = false by rw [HP3.out, Bool.and_false])
                go_wp2_with (go_at_call 11; ((with_reducible refine (HPM.out).mono ?_); rintro e w5 ⟨rfl, hb5⟩; have HS5 := Lib.hid (HS4.out.below hb5); clear hb5))
                go_roundw
                case rel => exact ⟨k + 1, false, by omega, by go_num, rfl, HF2, HP2, HS5⟩
                case measure => simp [intOf]; omega
              · have HP2 := Lib.hid (show allC (fitsC prims) inb L (k + 1) = pk by rw [HP3.out, Bool.and_true])
                go_wp2_with (go_at_call 11; ((with_reducible refine (HPM.out).mono ?_); rintro e w5 ⟨rfl, hb5⟩; have HS5 := Lib.hid (HS4.out.below hb5); clear hb5))
                go_roundw
                case rel => exact ⟨k + 1, pk, by omega, by go_num, by rw [HBAD.out], HF2, HP2, HS5⟩
                case measure => simp [intOf]; omega
            · have q8 := b_false k8
              have HP2 := Lib.hid (show allC (fitsC prims) inb L (k + 1) = pk by rw [HPN.out]; unfold fitsC; rw [decide_eq_true k8]; simp)
              clear k8
              go_wp2_with fail
              go_roundw
              case rel => exact ⟨k + 1, pk, by omega, by go_num, by rw [HBAD.out], HF2, HP2, HS4⟩
              case measure => simp [intOf]; omega
      · obtain rfl : k = root + 1 := by omega
        have b0 : wo.cell? ⟨w.heap.size, 0, none⟩ = some (.slice (some ad0) L.length c) := HS.out.box.cell 0
        have b1 : wo.cell? ⟨w.heap.size, 1, none⟩ = some (.int .i64 (root : Int)) := HS.out.box.cell 1
        have q0 : (root : Int) + 1 ≤ ((root + 1 : Nat) : Int) := by omega
        have HR4 := HRR3.out
        rw [HF.out, if_neg (by decide), HP.out] at HR4
        clear hge hk
        cases pk
        · have HR5 := Lib.hid (show RC = 112 by rw [if_pos rfl] at HR4; exact HR4)
          obtain rfl : bad = 112 := HBAD.out.symm
          clear HR4
          go_wp2_with fail
          go_ret
          exact ⟨by rw [HR5.out]; rfl, HS.out.bel⟩
        · obtain rfl : bad = 0 := HBAD.out.symm
          rw [if_neg (by decide)] at HR4
          by_cases hm : 262144 < L.length
          · rw [if_pos hm] at HR4
            have HR5 := Lib.hid HR4
            have q1 := decide_eq_true (show (262144 : Int) < (L.length : Int) by omega)
            clear HR4 hm
            go_wp2_with fail
            go_ret
            exact ⟨by rw [HR5.out]; rfl, HS.out.bel⟩
          · rw [if_neg hm] at HR4
            have q1 := decide_eq_false (show ¬ (262144 : Int) < (L.length : Int) by omega)
            have HFW := Lib.hid (HFR.out wo _ (NF.below HN.out HS.out.bel))
            by_cases hfr : fr = []
            · rw [if_pos hfr] at HR4
              have HR5 := Lib.hid HR4
              have HL0 := Lib.hid (show fr.length = 0 by rw [hfr]; rfl)
              clear HR4 hm hfr
              go_wp2_with (go_at_call 75; ((with_reducible refine (HFW.out).mono ?_); rintro e w9 ⟨v9, rfl, hv9, hb9⟩; obtain ⟨A9, c9, rfl, h91, h92⟩ := hv9.len; rw [HL0.out]; have HB9 := Lib.hid (HS.out.bel.trans (hb9.mono HS.out.bel.size)); clear hv9 hb9))
              go_ret
              exact ⟨by rw [HR5.out]; rfl, HB9.out⟩
            · rw [if_neg hfr] at HR4
              have HR5 := Lib.hid HR4
              have hl0 : 0 < fr.length := List.length_pos_iff.2 hfr
              have q2 := decide_eq_true (show (0 : Int) < (fr.length : Int) by omega)
              clear HR4 hm hfr
              go_wp2_with (go_at_call 75; ((with_reducible refine (HFW.out).mono ?_); rintro e w9 ⟨v9, rfl, hv9, hb9⟩; obtain ⟨A9, c9, rfl, h91, h92⟩ := hv9.len; have HB9 := Lib.hid (HS.out.bel.trans (hb9.mono HS.out.bel.size)); clear hv9 hb9))
              go_ret
              exact ⟨by rw [HR5.out]; rfl, HB9.out⟩

set_option maxRecDepth 100000 in
set_option maxHeartbeats 1000000 in
theorem ccheck_any (L : List Fl) (v : Value) (root : Int) (w : World) (hN : NF w w.heap.size v L) : Calls Tryz.prog 48 #[.agg #[v, .int .i64 root]] w (CkPost (checkC prims L root) w) := by
  obtain ⟨A, c, rfl, hc1, hc2⟩ := hN.len
  have HB := Lib.hid ((Below.refl w.heap.size w).alloc (Nat.le_refl _) (.cells #[.slice A L.length c, .int .i64 root] 65))
  by_cases h0 : root < 0
  · rw [ckC_out (.inl h0)]
    have q0 := decide_eq_true h0
    clear hN
    go_enter Tryz.func48, Tryz.ntmps48
    go_wp2_with fail
    go_ret
    exact ⟨rfl, HB.out⟩
  · by_cases h1 : (L.length : Int) ≤ root
    · rw [ckC_out (.inr h1)]
      have q0 := decide_eq_false h0
      have q1 := decide_eq_true h1
      clear hN
      go_enter Tryz.func48, Tryz.ntmps48
      go_wp2_with fail
      go_ret
      exact ⟨rfl, HB.out⟩
    · obtain ⟨r, rfl⟩ : ∃ r : Nat, root = (r : Int) := ⟨root.toNat, by omega⟩
      exact ccheck_in L A c (r + 1) r w (by omega) rfl hN

end Go.Proofs.YtjhdlnllhjffkaaGreatDoor
