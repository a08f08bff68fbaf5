/- Lambda: Check, the program's way. -/
import Derived.Test.YtikkmalhdidhaaaGreatDoorLamV
import Derived.BigQuiet
namespace Go.Proofs.YtikkmalhdidhaaaGreatDoor
open Go.RowKit LamM

set_option maxRecDepth 100000 in
set_option maxHeartbeats 8000000 in
theorem lcheck_in (L : List Tm) (A : Option Addr) (c n root : Nat) (w : World) (hr : root < L.length) (hn : n = root + 1) (hN : NV w w.heap.size (.slice A L.length c) L) :
    Calls Tryz.prog 49 #[.agg #[.slice A L.length c, .int .i64 (root : Int)]] w (CkPost (checkOf prims L (root : Int)) w) := by
  obtain ⟨A', c', e, hc1, hc2⟩ := hN.len
  injection e with e1 e2 e3
  subst e1 e3
  obtain ⟨W0, hW0⟩ : ∃ W0, w.alloc (.cells #[.slice A L.length c, .int .i64 (root : Int)] 72) = W0 := ⟨_, rfl⟩
  have hbw : Below w.heap.size w W0 := by rw [← hW0]; exact (Below.refl _ _).alloc (Nat.le_refl _) _
  have HB0 := Lib.hid hbw
  have HX0 := Lib.hid (show Blk W0 w.heap.size 72 #[.slice A L.length c, .int .i64 (root : Int)] by rw [← hW0]; exact Blk.new _ _ _)
  have b0 : W0.cell? ⟨w.heap.size, 0, none⟩ = some (.slice A L.length c) := HX0.out.cell 0
  have b1 : W0.cell? ⟨w.heap.size, 1, none⟩ = some (.int .i64 (root : Int)) := HX0.out.cell 1
  have HN := Lib.hid hN
  have hnr : n ≤ L.length := by omega
  have hn1 : n ≤ root + 1 := by omega
  have hn2 : root + 1 ≤ n := by omega
  have hrl : (root : Int) < (L.length : Int) := by omega
  have hLn : L.length ≤ 1300000000000 := by omega
  have HRR := Lib.hid (ck_in hr)
  have HRG := Lib.hid (fun ho => below_ok L root ho)
  have HFB := Lib.hid (fun k => formAll_beyond (below L root).1 L (root + 1) (fun j hj => by have := below_le L root j hj; omega) k)
  have HPB := Lib.hid (fun k => primAll_beyond prims (below L root).1 L (root + 1) (fun j hj => by have := below_le L root j hj; omega) k)
  have HBL := Lib.hid (lbelow_any L A c n root W0 hr hn (NV.below hN hbw))
  obtain ⟨RC, hRC⟩ : ∃ RC, checkOf prims L (root : Int) = RC := ⟨_, rfl⟩
  rw [hRC] at HRR ⊢
  unfold BelowPost at HBL
  unfold CkPost
  obtain ⟨inb, hinb⟩ : ∃ b, (below L root).1 = b := ⟨_, rfl⟩
  rw [hinb] at HBL HRR HRG HFB HPB
  have HFR := Lib.hid (fun w' v (h : NV w' w'.heap.size v L) => lfree_any L v (root : Int) w' h)
  rw [freeRes_in hr] at HFR
  generalize (below L root).2 = ok at HBL HRR HRG
  generalize freeOf prims L root = fr at HRR HFR
  clear hN hn hRC hinb hbw hr
  go_enter Tryz.func49, Tryz.ntmps49
  go_wp2_with fail
  go_at_call 82
  (with_reducible refine (HBL.out).mono ?_)
  rintro e w1 ⟨gb, rfl, hgb, hob, hb1⟩
  have HOB := Lib.hid hob
  have HB1 := Lib.hid (HB0.out.trans (hb1.mono HB0.out.size))
  have HX1 := Lib.hid (HX0.out.below hb1 HX0.out.lt)
  clear hob hb1 HBL b0 b1 HB0 HX0 hgb
  have b0 : w1.cell? ⟨w.heap.size, 0, none⟩ = some (.slice A L.length c) := HX1.out.cell 0
  have b1 : w1.cell? ⟨w.heap.size, 1, none⟩ = some (.int .i64 (root : Int)) := HX1.out.cell 1
  cases ok
  · have HR2 := Lib.hid (show RC = 110 by have := HRR.out; rw [if_pos rfl] at this; exact this)
    go_wp2_with fail
    go_ret
    exact ⟨by rw [HR2.out]; rfl, HB1.out⟩
  · have HRG2 := Lib.hid (HRG.out rfl)
    have HRR2 := HRR.out
    rw [if_neg (by decide)] at HRR2
    have HRR3 := Lib.hid HRR2
    clear HRR2 HRR HRG
    go_wp2_with fail
    go_at_call 21
    (with_reducible refine (prims_any _).mono ?_)
    rintro e w2 ⟨pv, rfl, hpv, hb2⟩
    obtain ⟨PA, pc, hpe, hpc1, hpc2⟩ := hpv.len
    rw [primTab_len] at hpe
    subst hpe
    have HS0 := Lib.hid (show CkS w n gb (.slice (some PA) 61 pc) inb #[.slice A L.length c, .int .i64 (root : Int)] w2 from ⟨ownsRow_below HOB.out hb2, hpv, HB1.out.trans (hb2.mono HB1.out.size), HX1.out.below hb2 HX1.out.lt⟩)
    clear hpv hb2 HOB HB1 HX1 b0 b1
    have b0 : w2.cell? ⟨w.heap.size, 0, none⟩ = some (.slice A L.length c) := HS0.out.box.cell 0
    have b1 : w2.cell? ⟨w.heap.size, 1, none⟩ = some (.int .i64 (root : Int)) := HS0.out.box.cell 1
    go_wp2_with fail
    go_loopw [6, 38] (fun bd ix wr => ∃ (k : Nat) (pk : Bool), k ≤ n ∧ ix = .int .i64 (k : Int) ∧ bd = .int .i64 (if pk then 0 else 112) ∧ Hid (formAll inb L k = true) ∧ Hid (primAll prims inb L k = pk) ∧ Hid (CkS w n gb (.slice (some PA) 61 pc) inb #[.slice A L.length c, .int .i64 (root : Int)] wr)) (fun _ ix _ => n - (intOf ix).toNat)
    case atStart => exact ⟨0, true, Nat.zero_le _, rfl, rfl, rfl, rfl, HS0⟩
    case round =>
      obtain ⟨k, pk, hk, rfl, rfl, HF, HP, HS⟩ := hrel
      obtain ⟨wo, rfl⟩ : ∃ wo : World, wo = wr := ⟨_, rfl⟩
      generalize hbad : (if pk = true then (0 : Int) else 112) = bad
      have HBAD := Lib.hid hbad
      clear hbad b0 b1
      rcases Nat.lt_or_ge k n with hlt | hge
      · obtain ⟨t, ht⟩ : ∃ t, L[k]? = some t := ⟨_, List.getElem?_eq_getElem (by omega)⟩
        have HNr := NV.below HN.out HS.out.bel
        obtain ⟨ad, vv, kv, av, rfl, had, htv, a0, a1, a2, a3, a4, a5, a6, a7⟩ := HNr.at8 ht
        obtain ⟨VA, vc, rfl, _, _⟩ := htv.v.len
        obtain ⟨KA, kc, rfl, _, _⟩ := htv.k.len
        obtain ⟨AA, ac, rfl, ha1, ha2⟩ := htv.a.len
        have lv := htv.lv
        have lk := htv.lk
        have la := htv.la
        obtain ⟨W1, hW⟩ : ∃ W1, wo.alloc (BoxT t (.slice VA t.vars.length vc) (.slice KA t.keys.length kc) (.slice AA t.args.length ac)) = W1 := ⟨_, rfl⟩
        have hbw : Below wo.heap.size wo W1 := by rw [← hW]; exact (Below.refl _ _).alloc (Nat.le_refl _) _
        have HBX := Lib.hid (show Blk W1 wo.heap.size 69 #[.int .i64 t.k, .int .i64 t.n, .int .i64 t.i, .int .u64 t.b, .string ⟨t.t.toArray⟩, .slice VA t.vars.length vc, .slice KA t.keys.length kc, .slice AA t.args.length ac] by rw [← hW]; exact Blk.new _ _ _)
        have HS1 := Lib.hid (HS.out.below hbw)
        have cin := HS1.out.made hlt
        have HNW := Lib.hid (NV.below HNr hbw)
        have HTW := Lib.hid (htv.keep (fun p hp => hbw.cell hp))
        unfold BoxT at hW
        have hkL : (k : Int) < (L.length : Int) := by omega
        have hkn : (k : Int) < (n : Int) := by omega
        have hkr : (k : Int) < (root : Int) + 1 := by omega
        clear HNr
        cases hin : inb k
        · rw [hin] at cin
          have HF2 := Lib.hid (show formAll inb L (k + 1) = true by rw [form_skip hin]; exact HF.out)
          have HP2 := Lib.hid (show primAll prims inb L (k + 1) = pk by rw [prim_skip hin]; exact HP.out)
          clear ht hin htv hbw
          go_wp2_with fail
          go_roundw
          case rel => exact ⟨k + 1, pk, by omega, by go_num, by rw [HBAD.out], HF2, HP2, HS1⟩
          case measure => simp [intOf]; omega
        · rw [hin] at cin
          have b0 : W1.cell? ⟨w.heap.size, 0, none⟩ = some (.slice (some ad) L.length c) := HS1.out.box.cell 0
          have hfn := form_node (L := L) hin ht
          rw [HF.out, Bool.true_and] at hfn
          have hpn := prim_node (L := L) hin ht
          rw [HP.out] at hpn
          have HPN := Lib.hid hpn
          have harg : ∀ a ∈ t.args, 0 ≤ a ∧ a < (L.length : Int) := fun a ha => by
            have := HRG2.out k hin a (by unfold argsAt; rw [ht]; exact ha)
            omega
          have hc1 : W1.cell? ⟨wo.heap.size, 0, none⟩ = some (.int .i64 t.k) := HBX.out.cell 0
          have hc2 : W1.cell? ⟨wo.heap.size, 1, none⟩ = some (.int .i64 t.n) := HBX.out.cell 1
          have hc3 : W1.cell? ⟨wo.heap.size, 2, none⟩ = some (.int .i64 t.i) := HBX.out.cell 2
          have hc4 : W1.cell? ⟨wo.heap.size, 3, none⟩ = some (.int .u64 t.b) := HBX.out.cell 3
          have hc5 : W1.cell? ⟨wo.heap.size, 4, none⟩ = some (.string ⟨t.t.toArray⟩) := HBX.out.cell 4
          have hc6 : W1.cell? ⟨wo.heap.size, 5, none⟩ = some (.slice VA t.vars.length vc) := HBX.out.cell 5
          have hc7 : W1.cell? ⟨wo.heap.size, 6, none⟩ = some (.slice KA t.keys.length kc) := HBX.out.cell 6
          have hc8 : W1.cell? ⟨wo.heap.size, 7, none⟩ = some (.slice AA t.args.length ac) := HBX.out.cell 7
          have HFM := Lib.hid (lformed_any L t _ _ _ _ W1 HNW.out (TV.more HTW.out hbw.size) harg)
          unfold tmVals at HFM
          clear ht hin htv hbw harg hpn
          cases hfo : formed L t
          · rw [hfo] at hfn HFM
            have HR2 := Lib.hid (show RC = 110 by have := HRR3.out; rw [if_pos (formAll_false (i := k + 1) (by omega) hfn)] at this; exact this)
            clear hfo hfn
            go_wp2_with (go_at_call 83; ((with_reducible refine (HFM.out).mono ?_); rintro e w4 ⟨rfl, hb4⟩; have HS4 := Lib.hid (HS1.out.below hb4); clear hb4))
            go_ret
            exact ⟨by rw [HR2.out]; rfl, HS4.out.bel⟩
          · rw [hfo] at hfn HFM
            have HF2 := Lib.hid hfn
            clear hfo hfn
            go_upto_region 14 with (go_at_call 83; ((with_reducible refine (HFM.out).mono ?_); rintro e w4 ⟨rfl, hb4⟩; have HS4 := Lib.hid (HS1.out.below hb4); have HX4 := Lib.hid (HBX.out.below hb4 HBX.out.lt); clear hb4))
            clear b0 hc1 hc2 hc3 hc4 hc5 hc6 hc7 hc8 a0 a1 a2 a3 a4 a5 a6 a7 cin
            have c0 : w4.cell? ⟨wo.heap.size, 0, none⟩ = some (.int .i64 t.k) := HX4.out.cell 0
            have c1 : w4.cell? ⟨wo.heap.size, 1, none⟩ = some (.int .i64 t.n) := HX4.out.cell 1
            have c7 : w4.cell? ⟨wo.heap.size, 7, none⟩ = some (.slice AA t.args.length ac) := HX4.out.cell 7
            by_cases k15 : t.k = 15
            · have q15 := b_true k15
              by_cases n0 : t.n < 0
              · have r0 := decide_eq_true n0
                have HP2 := Lib.hid (show primAll prims inb L (k + 1) = false by rw [HPN.out, prim_low n0, decide_eq_false (by omega)]; simp)
                clear k15 n0
                go_quiet (fail)
                go_wp2_with fail
                go_roundw
                case rel => exact ⟨k + 1, false, by omega, by go_num, rfl, HF2, HP2, HS4.out.drewN _⟩
                case measure => simp [intOf]; omega
              · have r0 := decide_eq_false n0
                by_cases n61 : 61 ≤ t.n
                · have r1 := decide_eq_true n61
                  have HP2 := Lib.hid (show primAll prims inb L (k + 1) = false by rw [HPN.out, prim_high n61, decide_eq_false (by omega)]; simp)
                  clear k15 n0 n61
                  go_quiet (fail)
                  go_wp2_with fail
                  go_roundw
                  case rel => exact ⟨k + 1, false, by omega, by go_num, rfl, HF2, HP2, HS4.out.drewN _⟩
                  case measure => simp [intOf]; omega
                · have r1 := decide_eq_false n61
                  obtain ⟨y, hy⟩ : ∃ y : Nat, t.n = (y : Int) := ⟨t.n.toNat, by omega⟩
                  obtain ⟨p, hpt⟩ : ∃ p, primTab[y]? = some p := ⟨_, List.getElem?_eq_getElem (by rw [primTab_len]; omega)⟩
                  obtain ⟨ty, rv, _, _, _, _, cr, _⟩ := HS4.out.prv.at_ hpt
                  replace cr := spell8 (j := 1) cr
                  have hpo := prim_at hy hpt
                  have hy0 : (y : Int) < 61 := by omega
                  have hy1 : (0 : Int) ≤ (y : Int) := by omega
                  rw [hy] at c1 r0 r1
                  by_cases he : p.args = (t.args.length : Int)
                  · have q := n_false he.symm
                    have HP2 := Lib.hid (show primAll prims inb L (k + 1) = pk by rw [HPN.out, hpo, b_true he]; simp)
                    clear k15 n0 n61 hy hpt hpo he
                    go_quiet (fail)
                    go_wp2_with fail
                    go_roundw
                    case rel => exact ⟨k + 1, pk, by omega, by go_num, by rw [HBAD.out], HF2, HP2, HS4.out.drewN _⟩
                    case measure => simp [intOf]; omega
                  · have q := n_true (fun h => he h.symm)
                    have HP2 := Lib.hid (show primAll prims inb L (k + 1) = false by rw [HPN.out, hpo, b_false he, decide_eq_false (by omega)]; simp)
                    clear k15 n0 n61 hy hpt hpo he
                    go_quiet (fail)
                    go_wp2_with fail
                    go_roundw
                    case rel => exact ⟨k + 1, false, by omega, by go_num, rfl, HF2, HP2, HS4.out.drewN _⟩
                    case measure => simp [intOf]; omega
            · have q15 := b_false k15
              have HP2 := Lib.hid (show primAll prims inb L (k + 1) = pk by rw [HPN.out, decide_eq_true k15]; simp)
              clear k15
              go_quiet (fail)
              go_wp2_with fail
              go_roundw
              case rel => exact ⟨k + 1, pk, by omega, by go_num, by rw [HBAD.out], HF2, HP2, HS4.out.drewN _⟩
              case measure => simp [intOf]; omega
      · obtain rfl : k = root + 1 := by omega
        have b0 : wo.cell? ⟨w.heap.size, 0, none⟩ = some (.slice A L.length c) := HS.out.box.cell 0
        have b1 : wo.cell? ⟨w.heap.size, 1, none⟩ = some (.int .i64 (root : Int)) := HS.out.box.cell 1
        have q0 : (root : Int) + 1 ≤ ((root + 1 : Nat) : Int) := by omega
        have HR4 := HRR3.out
        rw [HF.out, if_neg (by decide), HP.out] at HR4
        clear hge hk
        cases pk
        · have HR5 := Lib.hid (show RC = 112 by rw [if_pos rfl] at HR4; exact HR4)
          obtain rfl : bad = 112 := HBAD.out.symm
          clear HR4
          go_wp2_with fail
          go_ret
          exact ⟨by rw [HR5.out]; rfl, HS.out.bel⟩
        · obtain rfl : bad = 0 := HBAD.out.symm
          rw [if_neg (by decide)] at HR4
          by_cases hm : 262144 < L.length
          · rw [if_pos hm] at HR4
            have HR5 := Lib.hid HR4
            have q1 := decide_eq_true (show (262144 : Int) < (L.length : Int) by omega)
            clear HR4 hm
            go_wp2_with fail
            go_ret
            exact ⟨by rw [HR5.out]; rfl, HS.out.bel⟩
          · rw [if_neg hm] at HR4
            have q1 := decide_eq_false (show ¬ (262144 : Int) < (L.length : Int) by omega)
            have HFW := Lib.hid (HFR.out wo _ (NV.below HN.out HS.out.bel))
            by_cases hfr : fr = []
            · rw [if_pos hfr] at HR4
              have HR5 := Lib.hid HR4
              have HL0 := Lib.hid (show fr.length = 0 by rw [hfr]; rfl)
              clear HR4 hm hfr
              go_wp2_with (go_at_call 84; ((with_reducible refine (HFW.out).mono ?_); rintro e w9 ⟨v9, rfl, hv9, hb9⟩; obtain ⟨A9, c9, rfl, h91, h92⟩ := hv9.len; rw [HL0.out]; have HB9 := Lib.hid (HS.out.bel.trans (hb9.mono HS.out.bel.size)); clear hv9 hb9))
              go_ret
              exact ⟨by rw [HR5.out]; rfl, HB9.out⟩
            · rw [if_neg hfr] at HR4
              have HR5 := Lib.hid HR4
              have hl0 : 0 < fr.length := List.length_pos_iff.2 hfr
              have q2 := decide_eq_true (show (0 : Int) < (fr.length : Int) by omega)
              clear HR4 hm hfr
              go_wp2_with (go_at_call 84; ((with_reducible refine (HFW.out).mono ?_); rintro e w9 ⟨v9, rfl, hv9, hb9⟩; obtain ⟨A9, c9, rfl, h91, h92⟩ := hv9.len; have HB9 := Lib.hid (HS.out.bel.trans (hb9.mono HS.out.bel.size)); clear hv9 hb9))
              go_ret
              exact ⟨by rw [HR5.out]; rfl, HB9.out⟩

set_option maxRecDepth 100000 in
set_option maxHeartbeats 1000000 in
theorem lcheck_any (L : List Tm) (v : Value) (root : Int) (w : World) (hN : NV w w.heap.size v L) : Calls Tryz.prog 49 #[.agg #[v, .int .i64 root]] w (CkPost (checkOf prims L root) w) := by
  obtain ⟨A, c, rfl, hc1, hc2⟩ := hN.len
  have HB := Lib.hid ((Below.refl w.heap.size w).alloc (Nat.le_refl _) (.cells #[.slice A L.length c, .int .i64 root] 72))
  by_cases h0 : root < 0
  · rw [ck_out (.inl h0)]
    have q0 := decide_eq_true h0
    clear hN
    go_enter Tryz.func49, Tryz.ntmps49
    go_wp2_with fail
    go_ret
    exact ⟨rfl, HB.out⟩
  · by_cases h1 : (L.length : Int) ≤ root
    · rw [ck_out (.inr h1)]
      have q0 := decide_eq_false h0
      have q1 := decide_eq_true h1
      clear hN
      go_enter Tryz.func49, Tryz.ntmps49
      go_wp2_with fail
      go_ret
      exact ⟨rfl, HB.out⟩
    · obtain ⟨r, rfl⟩ : ∃ r : Nat, root = (r : Int) := ⟨root.toNat, by omega⟩
      exact lcheck_in L A c (r + 1) r w (by omega) rfl hN

end Go.Proofs.YtikkmalhdidhaaaGreatDoor
