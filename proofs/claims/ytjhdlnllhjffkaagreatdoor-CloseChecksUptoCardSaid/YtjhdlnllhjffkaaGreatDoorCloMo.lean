/- Cps: Free, the reference's way. Close: the reference's Free at every root. -/
import Derived.Test.YtjhdlnllhjffkaaGreatDoorCpsT
import Derived.Test.YtjhdlnllhjffkaaGreatDoorCloMn
namespace Go.Proofs.YtjhdlnllhjffkaaGreatDoor
open Go.RowKit LamM CpsM CloM

theorem ins_nilC (v : Int) : ins v [] = [v] := rfl
theorem infoIs : (Tryz.prog.info? 31).map (fun i => (i.zero, i.size, i.bytes)) = some (some (.slice none 0 0), 1, 24) := by kernel_rfl
theorem undIs : Tryz.prog.underlying 80 = some (.slice 31) := by kernel_rfl
set_option maxRecDepth 100000 in
set_option maxHeartbeats 8000000 in
theorem sfree_in (L : List Fl) (A : Option Addr) (c n root : Nat) (w : World) (hr : root < L.length) (hn : n = root + 1) (hN : NF w w.heap.size (.slice A L.length c) L) :
    Calls Tryz.prog 19 #[.slice A L.length c, .int .i64 (root : Int)] w (GivesI w (freeOfG L root)) := by
  obtain ⟨i0, hi0, hz0, hz1, hz2⟩ := info_parts infoIs
  obtain ⟨A', c', e, hc1, hc2⟩ := hN.len
  injection e with e1 e2 e3
  subst e1 e3
  have HBL := Lib.hid (sbelow_any L A c root w hr hN)
  have HN := Lib.hid hN
  have HALL := Lib.hid (fun i j => all_inG (belowC L root).1 L i j)
  have hnr : n ≤ L.length := by omega
  have hn1 : n ≤ root + 1 := by omega
  have hn2 : root + 1 ≤ n := by omega
  have hrl : (root : Int) < (L.length : Int) := by omega
  have hLn : L.length ≤ 1300000000000 := by omega
  have HLT := Lib.hid (tms_len L)
  have HFO := Lib.hid (show freeAllG (belowC L root).1 L (root + 1) root = freeOfG L root from rfl)
  obtain ⟨R0, hR0⟩ : ∃ R0, freeOfG L root = R0 := ⟨_, rfl⟩
  rw [hR0] at HFO ⊢
  unfold BelowPost at HBL
  unfold belowC at HFO HALL
  obtain ⟨inb, hinb⟩ : ∃ b, (below (tms L) root).1 = b := ⟨_, rfl⟩
  rw [hinb] at HBL HFO HALL
  generalize (below (tms L) root).2 = ok at HBL
  have HAN := Lib.hid (fun i t (h : L[i]? = some t) (hb : inb i = true) => all_nodeG h hb)
  have HAS := Lib.hid (fun i t (h : L[i]? = some t) (hb : inb i = false) => all_skipG h hb)
  have HA0 := Lib.hid (show freeAllG inb L 0 = fun _ => [] from rfl)
  have HAB := Lib.hid (fun i => all_beyondG (inb := inb) (L := L) (Nat.le_refl i))
  obtain ⟨FF, hFF⟩ : ∃ F, freeAllG inb L = F := ⟨_, rfl⟩
  rw [hFF] at HFO HALL HAN HAS HA0 HAB
  clear hN hn hR0 hinb hFF
  go_enter Tryz.func19, Tryz.ntmps19
  go_wp2_with fail
  go_at_call 36
  (with_reducible refine (HBL.out).mono ?_)
  rintro e w1 ⟨gb, rfl, hgb, hob, hb1⟩
  have HOB := Lib.hid hob
  have HB1 := Lib.hid hb1
  clear hob hb1 HBL
  go_wp2_with (refine wpList_make_full _ rfl _ _ _ rfl w1.heap.size 31 i0 (.slice none 0 0) 1 undIs hi0 hz0 hz1 _ _ _ _ n rfl rfl (by omega) (by omega) (by rw [hz2]; omega) (by unfold maxLen; omega) (Nat.le_refl _) ?_)
  intro w3 hown3 hgrow3
  rw [toList_madeCells_one] at hown3
  have HS0 := Lib.hid (FrC.start HOB.out HB1.out hgb hown3 hgrow3)
  obtain ⟨g, hg⟩ : ∃ g, w1.heap.size = g := ⟨_, rfl⟩
  rw [hg] at HS0 ⊢
  clear hown3 hgrow3 HOB HB1 hg hgb
  generalize List.replicate n (Value.slice none 0 0) = vs0 at HS0
  go_wp2_with fail
  go_loopw [8] (fun ix wr => ∃ (k : Nat) (vs : List Value), k ≤ n ∧ ix = .int .i64 (k : Int) ∧ Hid (FrC 31 w n L.length g gb inb (FF k) vs wr)) (fun ix _ => n - (intOf ix).toNat)
  case atStart => exact ⟨0, vs0, Nat.zero_le _, rfl, by rw [HA0.out]; exact HS0⟩
  case round =>
    obtain ⟨k, vs, hk, rfl, HS⟩ := hrel
    obtain ⟨wo, rfl⟩ : ∃ wo : World, wo = wr := ⟨_, rfl⟩
    rcases Nat.lt_or_ge k n with hlt | hge
    · obtain ⟨t, ht⟩ : ∃ t, L[k]? = some t := ⟨_, List.getElem?_eq_getElem (by omega)⟩
      have HNr := HN.out.keep (fun p hp => HS.out.bel.cell hp)
      obtain ⟨ad, vv, kv, av, rfl, had, htv, a0, a1, a2, a3, a4, a5, a6, a7, a8⟩ := HNr.at9 ht
      obtain ⟨VA, vc, rfl, _, _⟩ := htv.v.len
      obtain ⟨KA, kc, rfl, _, _⟩ := htv.k.len
      obtain ⟨AA, ac, rfl, ha1, ha2⟩ := htv.a.len
      have lv := htv.lv
      have lk := htv.lk
      have la := htv.la
      have HTV := Lib.hid htv
      obtain ⟨W1, hW⟩ : ∃ W1, wo.alloc (BoxF t (.slice VA t.vars.length vc) (.slice KA t.keys.length kc) (.slice AA t.args.length ac)) = W1 := ⟨_, rfl⟩
      have hbw : Below wo.heap.size wo W1 := by rw [← hW]; exact (Below.refl _ _).alloc (Nat.le_refl _) _
      have HBX := Lib.hid (show Blk W1 wo.heap.size 43 #[.int .i64 t.k, .int .i64 t.n, .int .i64 t.m, .int .i64 t.i, .int .u64 t.b, .string ⟨t.t.toArray⟩, .slice VA t.vars.length vc, .slice KA t.keys.length kc, .slice AA t.args.length ac] by rw [← hW]; exact Blk.new _ _ _)
      have HS1 := Lib.hid (HS.out.below hbw)
      have cin := HS1.out.made (i := k) (by omega)
      unfold BoxF at hW
      have hkL : (k : Int) < (L.length : Int) := by omega
      have hkn : (k : Int) < (n : Int) := by omega
      have hkr : (k : Int) ≤ (root : Int) := by omega
      clear htv HNr hbw
      cases hin : inb k
      · rw [hin] at cin
        have HE := Lib.hid (HAS.out k t ht hin)
        clear ht hin
        go_wp2_with fail
        go_roundw
        case rel => exact ⟨k + 1, vs, by omega, by go_num, by rw [HE.out]; exact HS1⟩
        case measure => simp [intOf]; omega
      · rw [hin] at cin
        have HE := Lib.hid (HAN.out k t ht hin)
        obtain ⟨RR, hRR⟩ : ∃ RR, freeArgsG L (FF k) t k t.args (freeHeadC t) = RR := ⟨_, rfl⟩
        rw [hRR] at HE
        have HMT := Lib.hid (List.mem_of_getElem? ht)
        have HHI := Lib.hid (head_inC HMT.out)
        have HQ := Lib.hid (show freeArgsG L (FF k) t k (t.args.drop 0) (freeHeadC t) = RR from hRR)
        have HZ := Lib.hid (HAB.out k)
        have hgS : g < wo.heap.size := HS.out.lt
        have c0 : W1.cell? ⟨wo.heap.size, 0, none⟩ = some (.int .i64 t.k) := HBX.out.cell 0
        have c1 : W1.cell? ⟨wo.heap.size, 1, none⟩ = some (.int .i64 t.n) := HBX.out.cell 1
        clear ht hin hRR
        go_upto_if 47 with fail
        go_cut [8] from 31 to 120 (fun ix wx => ix = .int .i64 (k : Int) ∧ ∃ vs1 : List Value, Hid (FrC 31 w n L.length g gb inb (updS (FF k) k (freeHeadC t)) vs1 wx) ∧ Hid (Blk wx wo.heap.size 43 #[.int .i64 t.k, .int .i64 t.n, .int .i64 t.m, .int .i64 t.i, .int .u64 t.b, .string ⟨t.t.toArray⟩, .slice VA t.vars.length vc, .slice KA t.keys.length kc, .slice AA t.args.length ac]))
        case first =>
          by_cases k1 : t.k = 1
          · have q1 := b_true k1
            obtain ⟨vi, ki, ci, fi, hvi⟩ := HS1.out.at_ (i := k) hlt
            rw [HZ.out] at hvi
            obtain ⟨IA, un, uc, rfl⟩ := hvi.shape
            have HPU := Lib.hid (rput_any [] _ t.n W1.drew (by simp [SS]) (by simp) hvi.drew)
            rw [ins_nilC] at HPU
            have HS1D := Lib.hid HS1.out.drew
            have HXD := Lib.hid HBX.out.drew
            have HK1 := Lib.hid (show freeHeadC t = [t.n] from if_pos k1)
            clear k1 hvi ki
            go_wp2_with fail
            go_region_with
              (first
                | (go_at_call 40; ((with_reducible refine (HPU.out).mono ?_); rintro e w5 ⟨uv, rfl, huv, hb5⟩; obtain ⟨UA, un5, uc5, rfl⟩ := huv.shape; have HS5 := Lib.hid (HS1D.out.below hb5); have HX5 := Lib.hid (HXD.out.below hb5 HXD.out.lt); obtain ⟨v5, _, c5, f5, _⟩ := HS5.out.at_ (i := k) hlt; have HS6 := Lib.hid (HS5.out.store hlt huv); have HX6 := Lib.hid (HX5.out.far (p := ⟨g, k, none⟩) (by show wo.heap.size ≠ g; omega) (.slice UA un5 uc5)); clear huv hb5)))
            all_goals
              go_wp2_with fail
              go_meet
              case rel => exact ⟨rfl, _, by rw [HK1.out]; exact HS6, HX6⟩
          · have q1 := b_false k1
            have HK1 := Lib.hid (show freeHeadC t = [] from if_neg k1)
            clear k1
            go_wp2_with fail
            go_meet
            case rel => exact ⟨rfl, vs, by rw [HK1.out]; exact HS1.out.cast (updS_id HZ.out).symm, HBX⟩
        case rest =>
          obtain ⟨rfl, vs1, HS4, HX4⟩ := hcut
          clear cin c0 c1
          have b0 : wc.cell? ⟨wo.heap.size, 0, none⟩ = some (.int .i64 t.k) := HX4.out.cell 0
          have b1 : wc.cell? ⟨wo.heap.size, 1, none⟩ = some (.int .i64 t.n) := HX4.out.cell 1
          have b2 : wc.cell? ⟨wo.heap.size, 2, none⟩ = some (.int .i64 t.m) := HX4.out.cell 2
          have b3 : wc.cell? ⟨wo.heap.size, 3, none⟩ = some (.int .i64 t.i) := HX4.out.cell 3
          have b4 : wc.cell? ⟨wo.heap.size, 4, none⟩ = some (.int .u64 t.b) := HX4.out.cell 4
          have b5 : wc.cell? ⟨wo.heap.size, 5, none⟩ = some (.string ⟨t.t.toArray⟩) := HX4.out.cell 5
          have b6 : wc.cell? ⟨wo.heap.size, 6, none⟩ = some (.slice VA t.vars.length vc) := HX4.out.cell 6
          have b7 : wc.cell? ⟨wo.heap.size, 7, none⟩ = some (.slice KA t.keys.length kc) := HX4.out.cell 7
          have b8 : wc.cell? ⟨wo.heap.size, 8, none⟩ = some (.slice AA t.args.length ac) := HX4.out.cell 8
          have HTW := Lib.hid (show FV wc wc.heap.size t (.slice VA t.vars.length vc) (.slice KA t.keys.length kc) (.slice AA t.args.length ac) from (HTV.out.keep (w' := wc) (fun p hp => (HS4.out.bel.cell hp).trans (HS.out.bel.cell hp).symm)).more (by have := HS4.out.bel.size; omega))
          have HBD := Lib.hid (sbinds_any t _ _ _ wc HTW.out)
          unfold flVals at HBD
          have HBI := Lib.hid (show ∀ acc l a, freeArgsG L (FF k) t k (a :: l) acc = freeArgsG L (FF k) t k l (if a < 0 ∨ (k : Int) ≤ a then acc else mrg acc (sel (atomB (kindC L a)) (bindsG t) (FF k a.toNat))) from fun _ _ _ => args_stepG)
          obtain ⟨bl, hbl⟩ : ∃ b, bindsG t = b := ⟨_, rfl⟩
          rw [hbl] at HBD HBI
          clear hbl
          go_wp2_with (go_at_call 41; ((with_reducible refine (HBD.out).mono ?_); rintro e w3 ⟨bv, rfl, hbv, hb3⟩; have HBV := Lib.hid hbv; have HS5 := Lib.hid (HS4.out.below hb3); have HX5 := Lib.hid (HX4.out.below hb3 HX4.out.lt); clear hbv hb3; clear b0 b1 b2 b3 b4 b5 b6 b7 b8))
          go_loopw [11] (fun jx wr => ∃ (m : Nat) (vs2 : List Value) (acc : List Int), m ≤ t.args.length ∧ jx = .int .i64 (m : Int) ∧ Hid (In (tms L) acc) ∧ Hid (freeArgsG L (FF k) t k (t.args.drop m) acc = RR) ∧ Hid (FrC 31 w n L.length g gb inb (updS (FF k) k acc) vs2 wr) ∧ Hid (Blk wr wo.heap.size 43 #[.int .i64 t.k, .int .i64 t.n, .int .i64 t.m, .int .i64 t.i, .int .u64 t.b, .string ⟨t.t.toArray⟩, .slice VA t.vars.length vc, .slice KA t.keys.length kc, .slice AA t.args.length ac]) ∧ Hid (IV wr wr.heap.size bv bl)) (fun jx _ => t.args.length - (intOf jx).toNat)
          case atStart => exact ⟨0, _, (freeHeadC t), Nat.zero_le _, rfl, HHI, HQ, HS5, HX5, HBV⟩
          case round =>
            obtain ⟨m, vs2, acc, hm, rfl, HI2, HQ2, HS2, HX2, HBV2⟩ := hrel
            obtain ⟨wp, rfl⟩ : ∃ wp : World, wp = wr := ⟨_, rfl⟩
            have b8 : wp.cell? ⟨wo.heap.size, 8, none⟩ = some (.slice AA t.args.length ac) := HX2.out.cell 8
            rcases Nat.lt_or_ge m t.args.length with hmlt | hmge
            · obtain ⟨a, ha⟩ : ∃ a, t.args[m]? = some a := ⟨_, List.getElem?_eq_getElem hmlt⟩
              have htv2 := HTV.out.keep (w' := wp) (fun p hp => (HS2.out.bel.cell hp).trans (HS.out.bel.cell hp).symm)
              obtain ⟨aa, rfl, haa, ca2⟩ := htv2.a.at_ ha
              have hra := HTV.out.ra a (List.mem_of_getElem? ha)
              have hq2 := HQ2.out
              rw [drop_at ha, HBI.out] at hq2
              have hm1 : (m : Int) < (t.args.length : Int) := by omega
              clear ha
              by_cases h1 : a < 0
              · rw [if_pos (.inl h1)] at hq2
                have HQ3 := Lib.hid hq2
                have q1 : decide (a < 0) = true := decide_eq_true h1
                clear hq2 h1 htv2
                go_wp2_with fail
                go_roundw
                case rel => exact ⟨m + 1, vs2, acc, by omega, by go_num, HI2, HQ3, HS2, HX2, HBV2⟩
                case measure => simp [intOf]; omega
              · by_cases h2 : (k : Int) ≤ a
                · rw [if_pos (.inr h2)] at hq2
                  have HQ3 := Lib.hid hq2
                  have q1 : decide (a < 0) = false := decide_eq_false h1
                  have q2 : decide ((k : Int) ≤ a) = true := decide_eq_true h2
                  clear hq2 h1 h2 htv2
                  go_wp2_with fail
                  go_roundw
                  case rel => exact ⟨m + 1, vs2, acc, by omega, by go_num, HI2, HQ3, HS2, HX2, HBV2⟩
                  case measure => simp [intOf]; omega
                · rw [if_neg (by rintro (h | h) <;> omega)] at hq2
                  obtain ⟨x, rfl⟩ : ∃ x : Nat, a = (x : Int) := ⟨a.toNat, by omega⟩
                  rw [Int.toNat_natCast] at hq2
                  obtain ⟨tx, htx⟩ : ∃ tx, L[x]? = some tx := ⟨_, List.getElem?_eq_getElem (by omega)⟩
                  rw [kindC_at (by rw [Int.toNat_natCast]; exact htx)] at hq2
                  have HTX := Lib.hid htx
                  have HAT := Lib.hid (fun w' => satom_any tx.k w')
                  obtain ⟨at_, hat⟩ : ∃ b, atomB tx.k = b := ⟨_, rfl⟩
                  rw [hat] at hq2 HAT
                  have q1 : decide ((x : Int) < 0) = false := decide_eq_false (by omega)
                  have q2 : decide ((k : Int) ≤ (x : Int)) = false := decide_eq_false (by omega)
                  have q3 : decide (k ≤ x) = false := decide_eq_false (by omega)
                  have hxk : x < k := by omega
                  have hxn0 : x < n := by omega
                  have hxn : (x : Int) < (n : Int) := by omega
                  have hxL : (x : Int) < (L.length : Int) := by omega
                  have HIX := Lib.hid (HALL.out k x)
                  have hla := HI2.out.len
                  have hlx := HIX.out.len
                  rw [HLT.out] at hla hlx
                  have HQ3 := Lib.hid hq2
                  obtain ⟨M, hM⟩ : ∃ M, mrg acc (sel at_ bl (FF k x)) = M := ⟨_, rfl⟩
                  have HIM := Lib.hid (HI2.out.mrg (sel_in (b := bl) at_ HIX.out).sub)
                  rw [hM] at HQ3 HIM
                  have HM := Lib.hid (show mrg acc (sel at_ bl ((FF k x).drop 0)) = M from hM)
                  obtain ⟨Fx, hFx⟩ : ∃ l, FF k x = l := ⟨_, rfl⟩
                  have HFX := Lib.hid hFx
                  rw [hFx] at HM HIX hlx
                  clear hq2 h1 h2 htv2 hM hFx htx hat
                  go_wp2_with fail
                  go_loopw [13] (fun jx wr => ∃ (j : Nat) (vs3 : List Value) (acc3 : List Int), j ≤ Fx.length ∧ jx = .int .i64 (j : Int) ∧ Hid (In (tms L) acc3) ∧ Hid (mrg acc3 (sel at_ bl (Fx.drop j)) = M) ∧ Hid (FrC 31 w n L.length g gb inb (updS (FF k) k acc3) vs3 wr) ∧ Hid (Blk wr wo.heap.size 43 #[.int .i64 t.k, .int .i64 t.n, .int .i64 t.m, .int .i64 t.i, .int .u64 t.b, .string ⟨t.t.toArray⟩, .slice VA t.vars.length vc, .slice KA t.keys.length kc, .slice (some aa) t.args.length ac]) ∧ Hid (IV wr wr.heap.size bv bl)) (fun jx _ => Fx.length - (intOf jx).toNat)
                  case atStart => exact ⟨0, vs2, acc, Nat.zero_le _, rfl, HI2, HM, HS2, HX2, HBV2⟩
                  case round =>
                    obtain ⟨j, vs3, acc3, hj, rfl, HI4, HM4, HS4, HX4, HB4⟩ := hrel
                    obtain ⟨vx, _, cx, _, hvx⟩ := HS4.out.at_ (i := x) hxn0
                    rw [updS_ne (by omega), HFX.out] at hvx
                    obtain ⟨XA, xc, rfl, hx1, hx2⟩ := hvx.len
                    have hlb : Fx.length ≤ 9223372036854775807 := by omega
                    obtain ⟨adx, _, _, _, hax, _, _, cxk, _⟩ := (HN.out.keep (w' := wr) (fun p hp => HS4.out.bel.cell hp)).at_ HTX.out
                    obtain rfl := Option.some.inj hax
                    rcases Nat.lt_or_ge j Fx.length with hjl | hjg
                    · obtain ⟨v, hv⟩ : ∃ v, Fx[j]? = some v := ⟨_, List.getElem?_eq_getElem hjl⟩
                      obtain ⟨xa, rfl, _, cv⟩ := hvx.at_ hv
                      have hj1 : (j : Int) < (Fx.length : Int) := by omega
                      have hm4 := HM4.out
                      rw [drop_at hv, sel_step] at hm4
                      have HIN := Lib.hid (rin_any bl bv v wr.heap.size wr HB4.out)
                      have HVP := Lib.hid (HIX.out.sub v (List.mem_of_getElem? hv))
                      obtain ⟨vi, _, ci, fi, hvi⟩ := HS4.out.at_ (i := k) hlt
                      rw [updS_at] at hvi
                      obtain ⟨IA, un, uc, rfl⟩ := hvi.shape
                      have HI5 := Lib.hid (HI4.out.ins HVP.out)
                      have HPU := Lib.hid (rput_any acc3 _ v wr.drew HI4.out.ss (by have := HI4.out.len; rw [HLT.out] at this; omega) hvi.drew)
                      have HS4D := Lib.hid HS4.out.drew
                      have HX4D := Lib.hid HX4.out.drew
                      have HB4D := Lib.hid HB4.out.drew
                      clear hvx hvi hx1 hx2 hax
                      cases at_
                      · cases hc : bl.contains v
                        · rw [hc] at HIN hm4
                          have HM5 := Lib.hid (show mrg (ins v acc3) (sel false bl (Fx.drop (j + 1))) = M from hm4)
                          clear hm4 hc hv
                          go_wp2_with (first | (go_at_call 42; ((with_reducible refine (HAT.out _).mono ?_); rintro e w' ⟨rfl, rfl⟩)) | (go_at_call 20; ((with_reducible refine (HIN.out).mono ?_); rintro e w' ⟨rfl, rfl⟩)))
                          go_region_with
                            (first
                              | (go_at_call 40; ((with_reducible refine (HPU.out).mono ?_); rintro e w7 ⟨uv, rfl, huv, hb7⟩; obtain ⟨UA, un7, uc7, rfl⟩ := huv.shape; have HS7 := Lib.hid (HS4D.out.below hb7); have HX7 := Lib.hid (HX4D.out.below hb7 HX4D.out.lt); have HB7 := Lib.hid (HB4D.out.below hb7); obtain ⟨v7, _, c7, f7, h7⟩ := HS7.out.at_ (i := k) hlt; obtain ⟨A7, n7, cc7, rfl⟩ := h7.shape; have HB8 := Lib.hid (HB7.out.store c7 (.slice UA un7 uc7)); have HS8 := Lib.hid ((HS7.out.store hlt huv).cast updS_two); have HX8 := Lib.hid (HX7.out.far (p := ⟨g, k, none⟩) (by show wo.heap.size ≠ g; omega) (.slice UA un7 uc7)); clear huv hb7 h7)))
                          all_goals
                            go_wp2_with fail
                            go_roundw
                            case rel => exact ⟨j + 1, _, _, by omega, by go_num, HI5, HM5, HS8, HX8, by simpa using HB8⟩
                            case measure => simp [intOf]; omega
                        · rw [hc] at HIN hm4
                          have HM5 := Lib.hid (show mrg acc3 (sel false bl (Fx.drop (j + 1))) = M from hm4)
                          clear hm4 hc hv
                          go_wp2_with (first | (go_at_call 42; ((with_reducible refine (HAT.out _).mono ?_); rintro e w' ⟨rfl, rfl⟩)) | (go_at_call 20; ((with_reducible refine (HIN.out).mono ?_); rintro e w' ⟨rfl, rfl⟩)))
                          go_roundw
                          case rel => exact ⟨j + 1, vs3, acc3, by omega, by go_num, HI4, HM5, HS4, HX4, HB4⟩
                          case measure => simp [intOf]; omega
                      · rw [Bool.true_or, if_pos rfl] at hm4
                        have HM5 := Lib.hid hm4
                        clear hm4 hv
                        go_wp2_with (go_at_call 42; ((with_reducible refine (HAT.out _).mono ?_); rintro e w' ⟨rfl, rfl⟩))
                        go_region_with
                          (first
                            | (go_at_call 40; ((with_reducible refine (HPU.out).mono ?_); rintro e w7 ⟨uv, rfl, huv, hb7⟩; obtain ⟨UA, un7, uc7, rfl⟩ := huv.shape; have HS7 := Lib.hid (HS4D.out.below hb7); have HX7 := Lib.hid (HX4D.out.below hb7 HX4D.out.lt); have HB7 := Lib.hid (HB4D.out.below hb7); obtain ⟨v7, _, c7, f7, h7⟩ := HS7.out.at_ (i := k) hlt; obtain ⟨A7, n7, cc7, rfl⟩ := h7.shape; have HB8 := Lib.hid (HB7.out.store c7 (.slice UA un7 uc7)); have HS8 := Lib.hid ((HS7.out.store hlt huv).cast updS_two); have HX8 := Lib.hid (HX7.out.far (p := ⟨g, k, none⟩) (by show wo.heap.size ≠ g; omega) (.slice UA un7 uc7)); clear huv hb7 h7)))
                        all_goals
                          go_wp2_with fail
                          go_roundw
                          case rel => exact ⟨j + 1, _, _, by omega, by go_num, HI5, HM5, HS8, HX8, by simpa using HB8⟩
                          case measure => simp [intOf]; omega
                    · obtain rfl : j = Fx.length := by omega
                      have HAM := Lib.hid (show acc3 = M by have := HM4.out; rw [List.drop_length, sel_nil] at this; exact this)
                      have q0 : (Fx.length : Int) ≤ (Fx.length : Int) := Int.le_refl _
                      have HS5' := Lib.hid (show FrC 31 w n L.length g gb inb (updS (FF k) k M) vs3 wr by have := HS4.out; rw [HAM.out] at this; exact this)
                      clear hjg hj hvx hx1 hx2 hax cxk
                      go_wp2_with fail
                      go_roundw
                      case rel => exact ⟨m + 1, vs3, M, by omega, by go_num, HIM, HQ3, HS5', HX4, HB4⟩
                      case measure => simp [intOf]; omega
            · obtain rfl : m = t.args.length := by omega
              have HRR := Lib.hid (show acc = RR by have := HQ2.out; rw [List.drop_length] at this; exact this)
              have q0 : (t.args.length : Int) ≤ (t.args.length : Int) := Int.le_refl _
              clear hmge hm
              go_wp2_with fail
              go_roundw
              case rel => exact ⟨k + 1, vs2, by omega, by go_num, by rw [HE.out, ← HRR.out]; exact HS2⟩
              case measure => simp [intOf]; omega
    · obtain rfl : k = root + 1 := by omega
      obtain ⟨v0, _, c0, _, hv0⟩ := HS.out.at_ (i := root) (by omega)
      rw [HFO.out] at hv0
      have HV0 := Lib.hid hv0
      have HSO := Lib.hid HS.out.bel
      have hrn : (root : Int) < (n : Int) := by omega
      have q0 : decide (((root + 1 : Nat) : Int) ≤ (root : Int)) = false := decide_eq_false (by omega)
      clear hv0 hge hk
      go_wp2_with fail
      go_ret
      exact ⟨_, rfl, HV0.out, HSO.out⟩
end Go.Proofs.YtjhdlnllhjffkaaGreatDoor

namespace Go.Proofs.YtjhdlnllhjffkaaGreatDoor
open Go.RowKit LamM CpsM CloM
def freeResG (L : List Fl) (root : Int) : List Int := if root < 0 ∨ (L.length : Int) ≤ root then [] else freeOfG L root.toNat
theorem freeResG_in {L : List Fl} {r : Nat} (h : r < L.length) : freeResG L (r : Int) = freeOfG L r := by
  unfold freeResG; rw [if_neg (by omega), Int.toNat_natCast]
theorem freeResG_out {L : List Fl} {root : Int} (h : root < 0 ∨ (L.length : Int) ≤ root) : freeResG L root = [] := if_pos h
set_option maxRecDepth 100000 in
set_option maxHeartbeats 1000000 in
theorem sfree_any (L : List Fl) (v : Value) (root : Int) (w : World) (hN : NF w w.heap.size v L) : Calls Tryz.prog 19 #[v, .int .i64 root] w (GivesI w (freeResG L root)) := by
  obtain ⟨A, c, rfl, hc1, hc2⟩ := hN.len
  by_cases h0 : root < 0
  · rw [freeResG_out (.inl h0)]
    have q0 := decide_eq_true h0
    clear hN
    go_enter Tryz.func19, Tryz.ntmps19
    go_wp2_with fail
    go_ret
    exact ⟨_, rfl, nil_IV _ _, Below.refl _ _⟩
  · by_cases h1 : (L.length : Int) ≤ root
    · rw [freeResG_out (.inr h1)]
      have q0 := decide_eq_false h0
      have q1 := decide_eq_true h1
      clear hN
      go_enter Tryz.func19, Tryz.ntmps19
      go_wp2_with fail
      go_ret
      exact ⟨_, rfl, nil_IV _ _, Below.refl _ _⟩
    · obtain ⟨r, rfl⟩ : ∃ r : Nat, root = (r : Int) := ⟨root.toNat, by omega⟩
      rw [freeResG_in (by omega)]
      exact sfree_in L A c (r + 1) r w (by omega) rfl hN

end Go.Proofs.YtjhdlnllhjffkaaGreatDoor
