/- Cps: Check, the reference's way. -/
import Derived.Test.YtikkmalhdidhaaaGreatDoorCpsW
import Derived.Test.YtikkmalhdidhaaaGreatDoorCpsR
namespace Go.Proofs.YtikkmalhdidhaaaGreatDoor
open Go.RowKit LamM CpsM
theorem k9_below {wo w5 : World} {S G k : Nat} {ad : Addr} {x0 x1 v0 v1 v2 v3 v4 v5 v6 v7 v8 : Option Value} (h : wo.drew.cell? ⟨S, 0, none⟩ = x0 ∧ wo.drew.cell? ⟨G, k, none⟩ = x1 ∧ wo.drew.cell? (ad.add (k * 9)) = v0 ∧ wo.drew.cell? ⟨(ad.add (k * 9)).block, (ad.add (k * 9)).off + 1, none⟩ = v1 ∧ wo.drew.cell? ⟨(ad.add (k * 9)).block, (ad.add (k * 9)).off + 2, none⟩ = v2 ∧ wo.drew.cell? ⟨(ad.add (k * 9)).block, (ad.add (k * 9)).off + 3, none⟩ = v3 ∧ wo.drew.cell? ⟨(ad.add (k * 9)).block, (ad.add (k * 9)).off + 4, none⟩ = v4 ∧ wo.drew.cell? ⟨(ad.add (k * 9)).block, (ad.add (k * 9)).off + 5, none⟩ = v5 ∧ wo.drew.cell? ⟨(ad.add (k * 9)).block, (ad.add (k * 9)).off + 6, none⟩ = v6 ∧ wo.drew.cell? ⟨(ad.add (k * 9)).block, (ad.add (k * 9)).off + 7, none⟩ = v7 ∧ wo.drew.cell? ⟨(ad.add (k * 9)).block, (ad.add (k * 9)).off + 8, none⟩ = v8)
    (hb : Below wo.drew.heap.size wo.drew w5) (hS : S < wo.heap.size) (hG : G < wo.heap.size) (had : ad.block < wo.heap.size) :
    w5.cell? ⟨S, 0, none⟩ = x0 ∧ w5.cell? ⟨G, k, none⟩ = x1 ∧ w5.cell? (ad.add (k * 9)) = v0 ∧ w5.cell? ⟨(ad.add (k * 9)).block, (ad.add (k * 9)).off + 1, none⟩ = v1 ∧ w5.cell? ⟨(ad.add (k * 9)).block, (ad.add (k * 9)).off + 2, none⟩ = v2 ∧ w5.cell? ⟨(ad.add (k * 9)).block, (ad.add (k * 9)).off + 3, none⟩ = v3 ∧ w5.cell? ⟨(ad.add (k * 9)).block, (ad.add (k * 9)).off + 4, none⟩ = v4 ∧ w5.cell? ⟨(ad.add (k * 9)).block, (ad.add (k * 9)).off + 5, none⟩ = v5 ∧ w5.cell? ⟨(ad.add (k * 9)).block, (ad.add (k * 9)).off + 6, none⟩ = v6 ∧ w5.cell? ⟨(ad.add (k * 9)).block, (ad.add (k * 9)).off + 7, none⟩ = v7 ∧ w5.cell? ⟨(ad.add (k * 9)).block, (ad.add (k * 9)).off + 8, none⟩ = v8 := by
  have hk : ∀ p : Addr, p.block < wo.heap.size → w5.cell? p = wo.drew.cell? p := fun p hp => hb.cell hp
  have ha : (ad.add (k * 9)).block < wo.heap.size := by rw [block_of_add]; exact had
  obtain ⟨h0, h1, h2, h3, h4, h5, h6, h7, h8, h9, h10⟩ := h
  exact ⟨(hk _ hS).trans h0, (hk _ hG).trans h1, (hk _ ha).trans h2, (hk ⟨_, _, none⟩ ha).trans h3, (hk ⟨_, _, none⟩ ha).trans h4, (hk ⟨_, _, none⟩ ha).trans h5, (hk ⟨_, _, none⟩ ha).trans h6, (hk ⟨_, _, none⟩ ha).trans h7, (hk ⟨_, _, none⟩ ha).trans h8, (hk ⟨_, _, none⟩ ha).trans h9, (hk ⟨_, _, none⟩ ha).trans h10⟩

set_option maxRecDepth 100000 in
set_option maxHeartbeats 8000000 in
theorem scheck_in (L : List Fl) (A : Option Addr) (c n root : Nat) (w : World) (hr : root < L.length) (hn : n = root + 1) (hN : NF w w.heap.size (.slice A L.length c) L) :
    Calls Tryz.prog 7 #[.agg #[.slice A L.length c, .int .i64 (root : Int)]] w (CkPost (checkC prims L (root : Int)) w) := by
  obtain ⟨A', c', e, hc1, hc2⟩ := hN.len
  injection e with e1 e2 e3
  subst e1 e3
  obtain ⟨tr, htr⟩ : ∃ tr, L[root]? = some tr := ⟨_, List.getElem?_eq_getElem hr⟩
  obtain ⟨W0, hW0⟩ : ∃ W0, w.alloc (.cells #[.slice A L.length c, .int .i64 (root : Int)] 24) = W0 := ⟨_, rfl⟩
  have hbw : Below w.heap.size w W0 := by rw [← hW0]; exact (Below.refl _ _).alloc (Nat.le_refl _) _
  have HB0 := Lib.hid hbw
  have HX0 := Lib.hid (show Blk W0 w.heap.size 24 #[.slice A L.length c, .int .i64 (root : Int)] by rw [← hW0]; exact Blk.new _ _ _)
  have b0 : W0.cell? ⟨w.heap.size, 0, none⟩ = some (.slice A L.length c) := HX0.out.cell 0
  have b1 : W0.cell? ⟨w.heap.size, 1, none⟩ = some (.int .i64 (root : Int)) := HX0.out.cell 1
  have HN := Lib.hid hN
  have hnr : n ≤ L.length := by omega
  have hn1 : n ≤ root + 1 := by omega
  have hn2 : root + 1 ≤ n := by omega
  have hrl : (root : Int) < (L.length : Int) := by omega
  have hLn : L.length ≤ 1300000000000 := by omega
  have HRR := Lib.hid (ckC_in htr)
  have HRG := Lib.hid (fun ho => below_ok (tms L) root ho)
  have HFB := Lib.hid (fun k => allC_beyond (formedP prims L) (below (tms L) root).1 L (root + 1) (fun j hj => by have := below_le (tms L) root j hj; omega) k)
  have HPB := Lib.hid (fun k => allC_beyond (fitsC prims) (below (tms L) root).1 L (root + 1) (fun j hj => by have := below_le (tms L) root j hj; omega) k)
  have HBL := Lib.hid (sbelow_any L A c root W0 hr (NF.below hN hbw))
  have HN0 := Lib.hid (NF.below hN hbw)
  obtain ⟨RC, hRC⟩ : ∃ RC, checkC prims L (root : Int) = RC := ⟨_, rfl⟩
  rw [hRC] at HRR ⊢
  unfold BelowPost at HBL
  unfold CkPost
  obtain ⟨inb, hinb⟩ : ∃ b, (below (tms L) root).1 = b := ⟨_, rfl⟩
  rw [hinb] at HBL HRR HRG HFB HPB
  have HFR := Lib.hid (fun w' v (h : NF w' w'.heap.size v L) => sfree_any L v (root : Int) w' h)
  rw [freeResC_in hr] at HFR
  generalize (below (tms L) root).2 = ok at HBL HRR HRG
  generalize freeOfC L root = fr at HRR HFR
  clear hN hn hRC hinb hbw hr
  obtain ⟨ad0, _, _, _, rfl, _, _, cr0, _⟩ := HN0.out.at_ htr
  have HMV := Lib.hid (fun w' => smove_any tr.k w')
  clear htr
  go_enter Tryz.func7, Tryz.ntmps7
  go_wp2_with fail
  go_at_call 15
  (with_reducible refine (HBL.out).mono ?_)
  rintro e w1 ⟨gb, rfl, hgb, hob, hb1⟩
  have HOB := Lib.hid hob
  have HB1 := Lib.hid (HB0.out.trans (hb1.mono HB0.out.size))
  have HX1 := Lib.hid (HX0.out.below hb1 HX0.out.lt)
  have cr1 := (hb1.cell (cell_lt cr0)).trans cr0
  clear hob hb1 HBL b0 b1 HB0 HX0 hgb cr0
  have b0 : w1.cell? ⟨w.heap.size, 0, none⟩ = some (.slice (some ad0) L.length c) := HX1.out.cell 0
  have b1 : w1.cell? ⟨w.heap.size, 1, none⟩ = some (.int .i64 (root : Int)) := HX1.out.cell 1
  cases ok
  · have HR2 := Lib.hid (show RC = 130 by
      have := HRR.out
      rw [if_pos (show (false : Bool) = false from rfl)] at this
      rw [this]; split <;> rfl)
    go_wp2_with fail
    go_ret
    exact ⟨by rw [HR2.out]; rfl, HB1.out⟩
  cases hmv : moveB tr.k
  · rw [hmv] at HMV HRR
    have HR1 := Lib.hid (show RC = 130 by have := HRR.out; rw [if_pos rfl] at this; exact this)
    clear hmv
    go_wp2_with (go_at_call 24; ((with_reducible refine (HMV.out _).mono ?_); rintro e w' ⟨rfl, rfl⟩))
    go_ret
    exact ⟨by rw [HR1.out]; rfl, HB1.out⟩
  rw [hmv] at HMV HRR
  clear hmv
  have HRG2 := Lib.hid (HRG.out rfl)
  have HRR2 := HRR.out
  rw [if_neg (by decide), if_neg (by decide)] at HRR2
  have HRR3 := Lib.hid HRR2
  have HFL := Lib.hid (show allC (formedP prims L) inb L L.length = allC (formedP prims L) inb L (root + 1) by have := HFB.out (L.length - (root + 1)); rwa [show root + 1 + (L.length - (root + 1)) = L.length by omega] at this)
  have HPL := Lib.hid (show allC (fitsC prims) inb L L.length = allC (fitsC prims) inb L (root + 1) by have := HPB.out (L.length - (root + 1)); rwa [show root + 1 + (L.length - (root + 1)) = L.length by omega] at this)
  clear HRR2 HRR HRG HFB HPB
  go_wp2_with (go_at_call 24; ((with_reducible refine (HMV.out _).mono ?_); rintro e w' ⟨rfl, rfl⟩))
  go_at_call 21
  (with_reducible refine (prims_any _).mono ?_)
  rintro e w2 ⟨pv, rfl, hpv, hb2⟩
  obtain ⟨PA, pc, hpe, hpc1, hpc2⟩ := hpv.len
  rw [primTab_len] at hpe
  subst hpe
  have HS0 := Lib.hid (show CkC w L.length gb (.slice (some PA) 61 pc) inb #[.slice (some ad0) L.length c, .int .i64 (root : Int)] w2 from ⟨ownsRow_below HOB.out hb2, hpv, HB1.out.trans (hb2.mono HB1.out.size), HX1.out.below hb2 HX1.out.lt⟩)
  clear hpv hb2 HOB HB1 HX1 b0 b1 cr1
  go_wp2_with fail
  go_loopw [6] (fun ix wr => ∃ (k : Nat), k ≤ L.length ∧ ix = .int .i64 (k : Int) ∧ Hid (allC (formedP prims L) inb L k = true) ∧ Hid (CkC w L.length gb (.slice (some PA) 61 pc) inb #[.slice (some ad0) L.length c, .int .i64 (root : Int)] wr)) (fun ix _ => L.length - (intOf ix).toNat)
  case atStart => exact ⟨0, Nat.zero_le _, rfl, rfl, HS0⟩
  case round =>
    obtain ⟨k, hk, rfl, HF, HS⟩ := hrel
    obtain ⟨wo, rfl⟩ : ∃ wo : World, wo = wr := ⟨_, rfl⟩
    rcases Nat.lt_or_ge k L.length with hlt | hge
    · obtain ⟨t, ht⟩ : ∃ t, L[k]? = some t := ⟨_, List.getElem?_eq_getElem (by omega)⟩
      have HNr := NF.below HN.out HS.out.bel
      obtain ⟨adx, vv, kv, av, hadE, had, htv, a0, a1, a2, a3, a4, a5, a6, a7, a8⟩ := HNr.at9 ht
      obtain rfl := Option.some.inj hadE
      obtain ⟨VA, vc, rfl, _, _⟩ := htv.v.len
      obtain ⟨KA, kc, rfl, _, _⟩ := htv.k.len
      obtain ⟨AA, ac, rfl, ha1, ha2⟩ := htv.a.len
      have lv := htv.lv
      have lk := htv.lk
      have la := htv.la
      obtain ⟨W1, hW⟩ : ∃ W1, wo.alloc (BoxF t (.slice VA t.vars.length vc) (.slice KA t.keys.length kc) (.slice AA t.args.length ac)) = W1 := ⟨_, rfl⟩
      have hbw : Below wo.heap.size wo W1 := by rw [← hW]; exact (Below.refl _ _).alloc (Nat.le_refl _) _
      have HBX := Lib.hid (show Blk W1 wo.heap.size 40 #[.int .i64 t.k, .int .i64 t.n, .int .i64 t.m, .int .i64 t.i, .int .u64 t.b, .string ⟨t.t.toArray⟩, .slice VA t.vars.length vc, .slice KA t.keys.length kc, .slice AA t.args.length ac] by rw [← hW]; exact Blk.new _ _ _)
      have HS1 := Lib.hid (HS.out.below hbw)
      have cin := HS1.out.made hlt
      have HNW := Lib.hid (NF.below HNr hbw)
      have HTW := Lib.hid (htv.below hbw)
      have e0 : wo.cell? ⟨w.heap.size, 0, none⟩ = some (.slice (some ad0) L.length c) := HS.out.box.cell 0
      unfold BoxF at hW
      have hkL : (k : Int) < (L.length : Int) := by omega
      clear HNr
      cases hin : inb k
      · rw [hin] at cin
        have HF2 := Lib.hid (show allC (formedP prims L) inb L (k + 1) = true by rw [all_skip hin]; exact HF.out)
        clear ht hin htv hbw
        go_wp2_with fail
        go_roundw
        case rel => exact ⟨k + 1, by omega, by go_num, HF2, HS1⟩
        case measure => simp [intOf]; omega
      · rw [hin] at cin
        have b0 : W1.cell? ⟨w.heap.size, 0, none⟩ = some (.slice (some ad0) L.length c) := HS1.out.box.cell 0
        have hfn := all_made (P := formedP prims L) (L := L) hin ht
        rw [HF.out, Bool.true_and] at hfn
        have harg : ∀ a ∈ t.args, 0 ≤ a ∧ a < (L.length : Int) := fun a ha => by
          have := HRG2.out k hin a (by rw [argsC_at ht]; exact ha)
          omega
        have hc0 : W1.cell? ⟨wo.heap.size, 0, none⟩ = some (.int .i64 t.k) := HBX.out.cell 0
        have hc1 : W1.cell? ⟨wo.heap.size, 1, none⟩ = some (.int .i64 t.n) := HBX.out.cell 1
        have hc2 : W1.cell? ⟨wo.heap.size, 2, none⟩ = some (.int .i64 t.m) := HBX.out.cell 2
        have hc3 : W1.cell? ⟨wo.heap.size, 3, none⟩ = some (.int .i64 t.i) := HBX.out.cell 3
        have hc4 : W1.cell? ⟨wo.heap.size, 4, none⟩ = some (.int .u64 t.b) := HBX.out.cell 4
        have hc5 : W1.cell? ⟨wo.heap.size, 5, none⟩ = some (.string ⟨t.t.toArray⟩) := HBX.out.cell 5
        have hc6 : W1.cell? ⟨wo.heap.size, 6, none⟩ = some (.slice VA t.vars.length vc) := HBX.out.cell 6
        have hc7 : W1.cell? ⟨wo.heap.size, 7, none⟩ = some (.slice KA t.keys.length kc) := HBX.out.cell 7
        have hc8 : W1.cell? ⟨wo.heap.size, 8, none⟩ = some (.slice AA t.args.length ac) := HBX.out.cell 8
        have HFM := Lib.hid (sformed_any L t _ _ _ _ W1 HNW.out HTW.out harg)
        have HPM := Lib.hid (fun w2 (h1 : NF w2 w2.heap.size (.slice (some ad0) L.length c) L) h2 h3 => sprim_any t (.slice (some ad0) L.length c) (.slice VA t.vars.length vc) (.slice KA t.keys.length kc) (.slice AA t.args.length ac) (.slice (some PA) 61 pc) w2 h3 h2)
        have HIN := Lib.hid hin
        have HARG := Lib.hid harg
        unfold flVals at HFM HPM
        rw [show formedP prims L t = (formedC L t && orderC prims L t) from rfl] at hfn
        clear ht hin htv hbw harg
        cases hfo : formedC L t
        · rw [hfo] at hfn HFM
          have HR2 := Lib.hid (show RC = 130 by have := HRR3.out; rw [if_pos (by rw [← HFL.out]; exact allC_false (i := k + 1) (by omega) hfn)] at this; exact this)
          clear hfo hfn
          go_wp2_with (go_at_call 25; ((with_reducible refine (HFM.out).mono ?_); rintro e w4 ⟨rfl, hb4⟩; have HS4 := Lib.hid (HS1.out.below hb4); have HX4 := Lib.hid (HBX.out.below hb4 HBX.out.lt); have HT4 := Lib.hid (HTW.out.below hb4); have HN4 := Lib.hid (HNW.out.below hb4); have d40 : w4.cell? ⟨wo.heap.size, 0, none⟩ = some (.int .i64 t.k) := HX4.out.cell 0; have d41 : w4.cell? ⟨wo.heap.size, 1, none⟩ = some (.int .i64 t.n) := HX4.out.cell 1; have d42 : w4.cell? ⟨wo.heap.size, 2, none⟩ = some (.int .i64 t.m) := HX4.out.cell 2; have d43 : w4.cell? ⟨wo.heap.size, 3, none⟩ = some (.int .i64 t.i) := HX4.out.cell 3; have d44 : w4.cell? ⟨wo.heap.size, 4, none⟩ = some (.int .u64 t.b) := HX4.out.cell 4; have d45 : w4.cell? ⟨wo.heap.size, 5, none⟩ = some (.string ⟨t.t.toArray⟩) := HX4.out.cell 5; have d46 : w4.cell? ⟨wo.heap.size, 6, none⟩ = some (.slice VA t.vars.length vc) := HX4.out.cell 6; have d47 : w4.cell? ⟨wo.heap.size, 7, none⟩ = some (.slice KA t.keys.length kc) := HX4.out.cell 7; have d48 : w4.cell? ⟨wo.heap.size, 8, none⟩ = some (.slice AA t.args.length ac) := HX4.out.cell 8; have f40 : w4.cell? ⟨w.heap.size, 0, none⟩ = some (.slice (some ad0) L.length c) := HS4.out.box.cell 0; have f41 := HS4.out.made hlt; rw [HIN.out] at f41; clear hb4))
          go_ret
          exact ⟨by rw [HR2.out]; rfl, HS4.out.bel⟩
        · rw [hfo, Bool.true_and] at hfn
          rw [hfo] at HFM
          clear hfo
          by_cases k8 : t.k = 8
          · have q8 := b_true k8
            cases hpo : primOkC prims t
            · rw [hpo] at HPM
              have HF2 := Lib.hid (show allC (formedP prims L) inb L (k + 1) = true by rw [hfn]; exact order_unfit hpo)
              clear k8 hpo hfn
              go_wp2_with (first
                | (go_at_call 25; ((with_reducible refine (HFM.out).mono ?_); rintro e w4 ⟨rfl, hb4⟩; have HS4 := Lib.hid (HS1.out.below hb4); have HX4 := Lib.hid (HBX.out.below hb4 HBX.out.lt); have HT4 := Lib.hid (HTW.out.below hb4); have HN4 := Lib.hid (HNW.out.below hb4); have d40 : w4.cell? ⟨wo.heap.size, 0, none⟩ = some (.int .i64 t.k) := HX4.out.cell 0; have d41 : w4.cell? ⟨wo.heap.size, 1, none⟩ = some (.int .i64 t.n) := HX4.out.cell 1; have d42 : w4.cell? ⟨wo.heap.size, 2, none⟩ = some (.int .i64 t.m) := HX4.out.cell 2; have d43 : w4.cell? ⟨wo.heap.size, 3, none⟩ = some (.int .i64 t.i) := HX4.out.cell 3; have d44 : w4.cell? ⟨wo.heap.size, 4, none⟩ = some (.int .u64 t.b) := HX4.out.cell 4; have d45 : w4.cell? ⟨wo.heap.size, 5, none⟩ = some (.string ⟨t.t.toArray⟩) := HX4.out.cell 5; have d46 : w4.cell? ⟨wo.heap.size, 6, none⟩ = some (.slice VA t.vars.length vc) := HX4.out.cell 6; have d47 : w4.cell? ⟨wo.heap.size, 7, none⟩ = some (.slice KA t.keys.length kc) := HX4.out.cell 7; have d48 : w4.cell? ⟨wo.heap.size, 8, none⟩ = some (.slice AA t.args.length ac) := HX4.out.cell 8; have f40 : w4.cell? ⟨w.heap.size, 0, none⟩ = some (.slice (some ad0) L.length c) := HS4.out.box.cell 0; have f41 := HS4.out.made hlt; rw [HIN.out] at f41; clear hb4))
                | (go_at_call 26; ((with_reducible refine (HPM.out _ HN4.out HT4.out HS4.out.prv).mono ?_); rintro e w5 ⟨rfl, hb5⟩; have HS5 := Lib.hid (HS4.out.below hb5); have HX5 := Lib.hid (HX4.out.below hb5 HX4.out.lt); have HT5 := Lib.hid (HT4.out.below hb5); have HN5 := Lib.hid (HN4.out.below hb5); have d50 : w5.cell? ⟨wo.heap.size, 0, none⟩ = some (.int .i64 t.k) := HX5.out.cell 0; have d51 : w5.cell? ⟨wo.heap.size, 1, none⟩ = some (.int .i64 t.n) := HX5.out.cell 1; have d52 : w5.cell? ⟨wo.heap.size, 2, none⟩ = some (.int .i64 t.m) := HX5.out.cell 2; have d53 : w5.cell? ⟨wo.heap.size, 3, none⟩ = some (.int .i64 t.i) := HX5.out.cell 3; have d54 : w5.cell? ⟨wo.heap.size, 4, none⟩ = some (.int .u64 t.b) := HX5.out.cell 4; have d55 : w5.cell? ⟨wo.heap.size, 5, none⟩ = some (.string ⟨t.t.toArray⟩) := HX5.out.cell 5; have d56 : w5.cell? ⟨wo.heap.size, 6, none⟩ = some (.slice VA t.vars.length vc) := HX5.out.cell 6; have d57 : w5.cell? ⟨wo.heap.size, 7, none⟩ = some (.slice KA t.keys.length kc) := HX5.out.cell 7; have d58 : w5.cell? ⟨wo.heap.size, 8, none⟩ = some (.slice AA t.args.length ac) := HX5.out.cell 8; have f50 : w5.cell? ⟨w.heap.size, 0, none⟩ = some (.slice (some ad0) L.length c) := HS5.out.box.cell 0; clear hb5)))
              go_roundw
              case rel => exact ⟨k + 1, by omega, by go_num, HF2, HS5⟩
              case measure => simp [intOf]; omega
            · rw [hpo] at HPM
              have m0 : ¬ t.m < 0 := fun h => by rw [primC_low h] at hpo; cases hpo
              have m61 : ¬ 61 ≤ t.m := fun h => by rw [primC_high h] at hpo; cases hpo
              obtain ⟨y, hy⟩ : ∃ y : Nat, t.m = (y : Int) := ⟨t.m.toNat, by omega⟩
              obtain ⟨p, hpt⟩ : ∃ p, primTab[y]? = some p := ⟨_, List.getElem?_eq_getElem (by rw [primTab_len]; omega)⟩
              obtain ⟨hs1, hs2, hs3⟩ := args_small p (List.mem_of_getElem? hpt)
              obtain ⟨a, ha⟩ : ∃ a : Nat, p.args = (a : Int) := ⟨p.args.toNat, by omega⟩
              have hwl : (t.args.length : Int) = wantsOf ⟨p.args, p.raises⟩ := by rw [primC_at hy hpt] at hpo; exact of_decide_eq_true hpo
              have hwg := wants_ge p
              rw [order_fit k8 hpo hy hpt ha] at hfn
              have hy0 : (y : Int) < 61 := by omega
              have hy1 : (0 : Int) ≤ (y : Int) := by omega
              have HKA := Lib.hid (fun w2 (h1 : NF w2 w2.heap.size (.slice (some ad0) L.length c) L) (h2 : FV w2 w2.heap.size t (.slice VA t.vars.length vc) (.slice KA t.keys.length kc) (.slice AA t.args.length ac)) => skindsA_any L t _ _ _ _ 0 a w2 h1 h2 HARG.out (by omega) (by omega))
              have HKM := Lib.hid (fun w2 (h1 : NF w2 w2.heap.size (.slice (some ad0) L.length c) L) (h2 : FV w2 w2.heap.size t (.slice VA t.vars.length vc) (.slice KA t.keys.length kc) (.slice AA t.args.length ac)) => skindsM_any L t _ _ _ _ a t.args.length w2 h1 h2 HARG.out (by omega) (by omega))
              rw [List.drop_zero, Nat.sub_zero, show ((0 : Nat) : Int) = 0 from rfl] at HKA
              rw [drop_whole rfl] at HKM
              unfold flVals at HKA HKM
              have HY := Lib.hid hy
              rw [HY.out] at HKA HKM
              have HPT := Lib.hid hpt
              have HAE := Lib.hid ha
              clear m0 m61 hs1 hs2 hs3 hwl hwg hpo k8 hy hpt ha
              cases hx1 : atomsB L (t.args.take a)
              · rw [hx1] at hfn HKA
                have HR2 := Lib.hid (show RC = 130 by have := HRR3.out; rw [if_pos (by rw [← HFL.out]; exact allC_false (i := k + 1) (by omega) hfn)] at this; exact this)
                clear hfn hx1
                go_wp2_with (first
                  | (go_at_call 25; ((with_reducible refine (HFM.out).mono ?_); rintro e w4 ⟨rfl, hb4⟩; have HS4 := Lib.hid (HS1.out.below hb4); have HX4 := Lib.hid (HBX.out.below hb4 HBX.out.lt); have HT4 := Lib.hid (HTW.out.below hb4); have HN4 := Lib.hid (HNW.out.below hb4); have d40 : w4.cell? ⟨wo.heap.size, 0, none⟩ = some (.int .i64 t.k) := HX4.out.cell 0; have d41 : w4.cell? ⟨wo.heap.size, 1, none⟩ = some (.int .i64 t.n) := HX4.out.cell 1; have d42 : w4.cell? ⟨wo.heap.size, 2, none⟩ = some (.int .i64 t.m) := HX4.out.cell 2; have d43 : w4.cell? ⟨wo.heap.size, 3, none⟩ = some (.int .i64 t.i) := HX4.out.cell 3; have d44 : w4.cell? ⟨wo.heap.size, 4, none⟩ = some (.int .u64 t.b) := HX4.out.cell 4; have d45 : w4.cell? ⟨wo.heap.size, 5, none⟩ = some (.string ⟨t.t.toArray⟩) := HX4.out.cell 5; have d46 : w4.cell? ⟨wo.heap.size, 6, none⟩ = some (.slice VA t.vars.length vc) := HX4.out.cell 6; have d47 : w4.cell? ⟨wo.heap.size, 7, none⟩ = some (.slice KA t.keys.length kc) := HX4.out.cell 7; have d48 : w4.cell? ⟨wo.heap.size, 8, none⟩ = some (.slice AA t.args.length ac) := HX4.out.cell 8; have f40 : w4.cell? ⟨w.heap.size, 0, none⟩ = some (.slice (some ad0) L.length c) := HS4.out.box.cell 0; have f41 := HS4.out.made hlt; rw [HIN.out] at f41; clear hb4))
                  | (go_at_call 26; ((with_reducible refine (HPM.out _ HN4.out HT4.out HS4.out.prv).mono ?_); rintro e w5 ⟨rfl, hb5⟩; have HS5 := Lib.hid (HS4.out.below hb5); have HX5 := Lib.hid (HX4.out.below hb5 HX4.out.lt); have HT5 := Lib.hid (HT4.out.below hb5); have HN5 := Lib.hid (HN4.out.below hb5); have d50 : w5.cell? ⟨wo.heap.size, 0, none⟩ = some (.int .i64 t.k) := HX5.out.cell 0; have d51 : w5.cell? ⟨wo.heap.size, 1, none⟩ = some (.int .i64 t.n) := HX5.out.cell 1; have d52 : w5.cell? ⟨wo.heap.size, 2, none⟩ = some (.int .i64 t.m) := HX5.out.cell 2; have d53 : w5.cell? ⟨wo.heap.size, 3, none⟩ = some (.int .i64 t.i) := HX5.out.cell 3; have d54 : w5.cell? ⟨wo.heap.size, 4, none⟩ = some (.int .u64 t.b) := HX5.out.cell 4; have d55 : w5.cell? ⟨wo.heap.size, 5, none⟩ = some (.string ⟨t.t.toArray⟩) := HX5.out.cell 5; have d56 : w5.cell? ⟨wo.heap.size, 6, none⟩ = some (.slice VA t.vars.length vc) := HX5.out.cell 6; have d57 : w5.cell? ⟨wo.heap.size, 7, none⟩ = some (.slice KA t.keys.length kc) := HX5.out.cell 7; have d58 : w5.cell? ⟨wo.heap.size, 8, none⟩ = some (.slice AA t.args.length ac) := HX5.out.cell 8; have f50 : w5.cell? ⟨w.heap.size, 0, none⟩ = some (.slice (some ad0) L.length c) := HS5.out.box.cell 0; rw [HY.out] at d52; obtain ⟨ty, rv, _, _, _, _, ca, _, _⟩ := HS5.out.prv.at_ HPT.out; replace ca := spell9 (j := 1) ca; rw [HAE.out] at ca; have HTY := Lib.hid HT5.out; clear hb5))
                  | (go_at_call 27; ((with_reducible refine (HKA.out _ HN5.out HT5.out).mono ?_); rintro e w6 ⟨rfl, hb6⟩; have HS6 := Lib.hid (HS5.out.below hb6); have HX6 := Lib.hid (HX5.out.below hb6 HX5.out.lt); have HT6 := Lib.hid (HT5.out.below hb6); have HN6 := Lib.hid (HN5.out.below hb6); have d60 : w6.cell? ⟨wo.heap.size, 0, none⟩ = some (.int .i64 t.k) := HX6.out.cell 0; have d61 : w6.cell? ⟨wo.heap.size, 1, none⟩ = some (.int .i64 t.n) := HX6.out.cell 1; have d62 : w6.cell? ⟨wo.heap.size, 2, none⟩ = some (.int .i64 t.m) := HX6.out.cell 2; have d63 : w6.cell? ⟨wo.heap.size, 3, none⟩ = some (.int .i64 t.i) := HX6.out.cell 3; have d64 : w6.cell? ⟨wo.heap.size, 4, none⟩ = some (.int .u64 t.b) := HX6.out.cell 4; have d65 : w6.cell? ⟨wo.heap.size, 5, none⟩ = some (.string ⟨t.t.toArray⟩) := HX6.out.cell 5; have d66 : w6.cell? ⟨wo.heap.size, 6, none⟩ = some (.slice VA t.vars.length vc) := HX6.out.cell 6; have d67 : w6.cell? ⟨wo.heap.size, 7, none⟩ = some (.slice KA t.keys.length kc) := HX6.out.cell 7; have d68 : w6.cell? ⟨wo.heap.size, 8, none⟩ = some (.slice AA t.args.length ac) := HX6.out.cell 8; rw [HY.out] at d62; have f60 : w6.cell? ⟨w.heap.size, 0, none⟩ = some (.slice (some ad0) L.length c) := HS6.out.box.cell 0; clear hb6)))
                go_ret
                exact ⟨by rw [HR2.out]; rfl, HS6.out.bel⟩
              · rw [hx1, Bool.true_and] at hfn
                rw [hx1] at HKA
                clear hx1
                cases hx2 : movesB L (t.args.drop a)
                · rw [hx2] at hfn HKM
                  have HR2 := Lib.hid (show RC = 130 by have := HRR3.out; rw [if_pos (by rw [← HFL.out]; exact allC_false (i := k + 1) (by omega) hfn)] at this; exact this)
                  clear hfn hx2
                  go_wp2_with (first
                    | (go_at_call 25; ((with_reducible refine (HFM.out).mono ?_); rintro e w4 ⟨rfl, hb4⟩; have HS4 := Lib.hid (HS1.out.below hb4); have HX4 := Lib.hid (HBX.out.below hb4 HBX.out.lt); have HT4 := Lib.hid (HTW.out.below hb4); have HN4 := Lib.hid (HNW.out.below hb4); have d40 : w4.cell? ⟨wo.heap.size, 0, none⟩ = some (.int .i64 t.k) := HX4.out.cell 0; have d41 : w4.cell? ⟨wo.heap.size, 1, none⟩ = some (.int .i64 t.n) := HX4.out.cell 1; have d42 : w4.cell? ⟨wo.heap.size, 2, none⟩ = some (.int .i64 t.m) := HX4.out.cell 2; have d43 : w4.cell? ⟨wo.heap.size, 3, none⟩ = some (.int .i64 t.i) := HX4.out.cell 3; have d44 : w4.cell? ⟨wo.heap.size, 4, none⟩ = some (.int .u64 t.b) := HX4.out.cell 4; have d45 : w4.cell? ⟨wo.heap.size, 5, none⟩ = some (.string ⟨t.t.toArray⟩) := HX4.out.cell 5; have d46 : w4.cell? ⟨wo.heap.size, 6, none⟩ = some (.slice VA t.vars.length vc) := HX4.out.cell 6; have d47 : w4.cell? ⟨wo.heap.size, 7, none⟩ = some (.slice KA t.keys.length kc) := HX4.out.cell 7; have d48 : w4.cell? ⟨wo.heap.size, 8, none⟩ = some (.slice AA t.args.length ac) := HX4.out.cell 8; have f40 : w4.cell? ⟨w.heap.size, 0, none⟩ = some (.slice (some ad0) L.length c) := HS4.out.box.cell 0; have f41 := HS4.out.made hlt; rw [HIN.out] at f41; clear hb4))
                    | (go_at_call 26; ((with_reducible refine (HPM.out _ HN4.out HT4.out HS4.out.prv).mono ?_); rintro e w5 ⟨rfl, hb5⟩; have HS5 := Lib.hid (HS4.out.below hb5); have HX5 := Lib.hid (HX4.out.below hb5 HX4.out.lt); have HT5 := Lib.hid (HT4.out.below hb5); have HN5 := Lib.hid (HN4.out.below hb5); have d50 : w5.cell? ⟨wo.heap.size, 0, none⟩ = some (.int .i64 t.k) := HX5.out.cell 0; have d51 : w5.cell? ⟨wo.heap.size, 1, none⟩ = some (.int .i64 t.n) := HX5.out.cell 1; have d52 : w5.cell? ⟨wo.heap.size, 2, none⟩ = some (.int .i64 t.m) := HX5.out.cell 2; have d53 : w5.cell? ⟨wo.heap.size, 3, none⟩ = some (.int .i64 t.i) := HX5.out.cell 3; have d54 : w5.cell? ⟨wo.heap.size, 4, none⟩ = some (.int .u64 t.b) := HX5.out.cell 4; have d55 : w5.cell? ⟨wo.heap.size, 5, none⟩ = some (.string ⟨t.t.toArray⟩) := HX5.out.cell 5; have d56 : w5.cell? ⟨wo.heap.size, 6, none⟩ = some (.slice VA t.vars.length vc) := HX5.out.cell 6; have d57 : w5.cell? ⟨wo.heap.size, 7, none⟩ = some (.slice KA t.keys.length kc) := HX5.out.cell 7; have d58 : w5.cell? ⟨wo.heap.size, 8, none⟩ = some (.slice AA t.args.length ac) := HX5.out.cell 8; have f50 : w5.cell? ⟨w.heap.size, 0, none⟩ = some (.slice (some ad0) L.length c) := HS5.out.box.cell 0; rw [HY.out] at d52; obtain ⟨ty, rv, _, _, _, _, ca, _, _⟩ := HS5.out.prv.at_ HPT.out; replace ca := spell9 (j := 1) ca; rw [HAE.out] at ca; have HTY := Lib.hid HT5.out; clear hb5))
                    | (go_at_call 27; ((with_reducible refine (HKA.out _ HN5.out HT5.out).mono ?_); rintro e w6 ⟨rfl, hb6⟩; have HS6 := Lib.hid (HS5.out.below hb6); have HX6 := Lib.hid (HX5.out.below hb6 HX5.out.lt); have HT6 := Lib.hid (HT5.out.below hb6); have HN6 := Lib.hid (HN5.out.below hb6); have d60 : w6.cell? ⟨wo.heap.size, 0, none⟩ = some (.int .i64 t.k) := HX6.out.cell 0; have d61 : w6.cell? ⟨wo.heap.size, 1, none⟩ = some (.int .i64 t.n) := HX6.out.cell 1; have d62 : w6.cell? ⟨wo.heap.size, 2, none⟩ = some (.int .i64 t.m) := HX6.out.cell 2; have d63 : w6.cell? ⟨wo.heap.size, 3, none⟩ = some (.int .i64 t.i) := HX6.out.cell 3; have d64 : w6.cell? ⟨wo.heap.size, 4, none⟩ = some (.int .u64 t.b) := HX6.out.cell 4; have d65 : w6.cell? ⟨wo.heap.size, 5, none⟩ = some (.string ⟨t.t.toArray⟩) := HX6.out.cell 5; have d66 : w6.cell? ⟨wo.heap.size, 6, none⟩ = some (.slice VA t.vars.length vc) := HX6.out.cell 6; have d67 : w6.cell? ⟨wo.heap.size, 7, none⟩ = some (.slice KA t.keys.length kc) := HX6.out.cell 7; have d68 : w6.cell? ⟨wo.heap.size, 8, none⟩ = some (.slice AA t.args.length ac) := HX6.out.cell 8; rw [HY.out] at d62; have f60 : w6.cell? ⟨w.heap.size, 0, none⟩ = some (.slice (some ad0) L.length c) := HS6.out.box.cell 0; clear hb6))
                    | (go_at_call 27; ((with_reducible refine (HKM.out _ HN6.out HT6.out).mono ?_); rintro e w7 ⟨rfl, hb7⟩; have HS7 := Lib.hid (HS6.out.below hb7); clear hb7)))
                  go_ret
                  exact ⟨by rw [HR2.out]; rfl, HS7.out.bel⟩
                · rw [hx2] at hfn HKM
                  have HF2 := Lib.hid hfn
                  clear hfn hx2
                  go_wp2_with (first
                    | (go_at_call 25; ((with_reducible refine (HFM.out).mono ?_); rintro e w4 ⟨rfl, hb4⟩; have HS4 := Lib.hid (HS1.out.below hb4); have HX4 := Lib.hid (HBX.out.below hb4 HBX.out.lt); have HT4 := Lib.hid (HTW.out.below hb4); have HN4 := Lib.hid (HNW.out.below hb4); have d40 : w4.cell? ⟨wo.heap.size, 0, none⟩ = some (.int .i64 t.k) := HX4.out.cell 0; have d41 : w4.cell? ⟨wo.heap.size, 1, none⟩ = some (.int .i64 t.n) := HX4.out.cell 1; have d42 : w4.cell? ⟨wo.heap.size, 2, none⟩ = some (.int .i64 t.m) := HX4.out.cell 2; have d43 : w4.cell? ⟨wo.heap.size, 3, none⟩ = some (.int .i64 t.i) := HX4.out.cell 3; have d44 : w4.cell? ⟨wo.heap.size, 4, none⟩ = some (.int .u64 t.b) := HX4.out.cell 4; have d45 : w4.cell? ⟨wo.heap.size, 5, none⟩ = some (.string ⟨t.t.toArray⟩) := HX4.out.cell 5; have d46 : w4.cell? ⟨wo.heap.size, 6, none⟩ = some (.slice VA t.vars.length vc) := HX4.out.cell 6; have d47 : w4.cell? ⟨wo.heap.size, 7, none⟩ = some (.slice KA t.keys.length kc) := HX4.out.cell 7; have d48 : w4.cell? ⟨wo.heap.size, 8, none⟩ = some (.slice AA t.args.length ac) := HX4.out.cell 8; have f40 : w4.cell? ⟨w.heap.size, 0, none⟩ = some (.slice (some ad0) L.length c) := HS4.out.box.cell 0; have f41 := HS4.out.made hlt; rw [HIN.out] at f41; clear hb4))
                    | (go_at_call 26; ((with_reducible refine (HPM.out _ HN4.out HT4.out HS4.out.prv).mono ?_); rintro e w5 ⟨rfl, hb5⟩; have HS5 := Lib.hid (HS4.out.below hb5); have HX5 := Lib.hid (HX4.out.below hb5 HX4.out.lt); have HT5 := Lib.hid (HT4.out.below hb5); have HN5 := Lib.hid (HN4.out.below hb5); have d50 : w5.cell? ⟨wo.heap.size, 0, none⟩ = some (.int .i64 t.k) := HX5.out.cell 0; have d51 : w5.cell? ⟨wo.heap.size, 1, none⟩ = some (.int .i64 t.n) := HX5.out.cell 1; have d52 : w5.cell? ⟨wo.heap.size, 2, none⟩ = some (.int .i64 t.m) := HX5.out.cell 2; have d53 : w5.cell? ⟨wo.heap.size, 3, none⟩ = some (.int .i64 t.i) := HX5.out.cell 3; have d54 : w5.cell? ⟨wo.heap.size, 4, none⟩ = some (.int .u64 t.b) := HX5.out.cell 4; have d55 : w5.cell? ⟨wo.heap.size, 5, none⟩ = some (.string ⟨t.t.toArray⟩) := HX5.out.cell 5; have d56 : w5.cell? ⟨wo.heap.size, 6, none⟩ = some (.slice VA t.vars.length vc) := HX5.out.cell 6; have d57 : w5.cell? ⟨wo.heap.size, 7, none⟩ = some (.slice KA t.keys.length kc) := HX5.out.cell 7; have d58 : w5.cell? ⟨wo.heap.size, 8, none⟩ = some (.slice AA t.args.length ac) := HX5.out.cell 8; have f50 : w5.cell? ⟨w.heap.size, 0, none⟩ = some (.slice (some ad0) L.length c) := HS5.out.box.cell 0; rw [HY.out] at d52; obtain ⟨ty, rv, _, _, _, _, ca, _, _⟩ := HS5.out.prv.at_ HPT.out; replace ca := spell9 (j := 1) ca; rw [HAE.out] at ca; have HTY := Lib.hid HT5.out; clear hb5))
                    | (go_at_call 27; ((with_reducible refine (HKA.out _ HN5.out HT5.out).mono ?_); rintro e w6 ⟨rfl, hb6⟩; have HS6 := Lib.hid (HS5.out.below hb6); have HX6 := Lib.hid (HX5.out.below hb6 HX5.out.lt); have HT6 := Lib.hid (HT5.out.below hb6); have HN6 := Lib.hid (HN5.out.below hb6); have d60 : w6.cell? ⟨wo.heap.size, 0, none⟩ = some (.int .i64 t.k) := HX6.out.cell 0; have d61 : w6.cell? ⟨wo.heap.size, 1, none⟩ = some (.int .i64 t.n) := HX6.out.cell 1; have d62 : w6.cell? ⟨wo.heap.size, 2, none⟩ = some (.int .i64 t.m) := HX6.out.cell 2; have d63 : w6.cell? ⟨wo.heap.size, 3, none⟩ = some (.int .i64 t.i) := HX6.out.cell 3; have d64 : w6.cell? ⟨wo.heap.size, 4, none⟩ = some (.int .u64 t.b) := HX6.out.cell 4; have d65 : w6.cell? ⟨wo.heap.size, 5, none⟩ = some (.string ⟨t.t.toArray⟩) := HX6.out.cell 5; have d66 : w6.cell? ⟨wo.heap.size, 6, none⟩ = some (.slice VA t.vars.length vc) := HX6.out.cell 6; have d67 : w6.cell? ⟨wo.heap.size, 7, none⟩ = some (.slice KA t.keys.length kc) := HX6.out.cell 7; have d68 : w6.cell? ⟨wo.heap.size, 8, none⟩ = some (.slice AA t.args.length ac) := HX6.out.cell 8; rw [HY.out] at d62; have f60 : w6.cell? ⟨w.heap.size, 0, none⟩ = some (.slice (some ad0) L.length c) := HS6.out.box.cell 0; clear hb6))
                    | (go_at_call 27; ((with_reducible refine (HKM.out _ HN6.out HT6.out).mono ?_); rintro e w7 ⟨rfl, hb7⟩; have HS7 := Lib.hid (HS6.out.below hb7); clear hb7)))
                  go_roundw
                  case rel => exact ⟨k + 1, by omega, by go_num, HF2, HS7⟩
                  case measure => simp [intOf]; omega
          · have q8 := b_false k8
            have HF2 := Lib.hid (show allC (formedP prims L) inb L (k + 1) = true by rw [hfn]; exact order_other k8)
            clear k8 hfn
            go_wp2_with (go_at_call 25; ((with_reducible refine (HFM.out).mono ?_); rintro e w4 ⟨rfl, hb4⟩; have HS4 := Lib.hid (HS1.out.below hb4); have HX4 := Lib.hid (HBX.out.below hb4 HBX.out.lt); have HT4 := Lib.hid (HTW.out.below hb4); have HN4 := Lib.hid (HNW.out.below hb4); have d40 : w4.cell? ⟨wo.heap.size, 0, none⟩ = some (.int .i64 t.k) := HX4.out.cell 0; have d41 : w4.cell? ⟨wo.heap.size, 1, none⟩ = some (.int .i64 t.n) := HX4.out.cell 1; have d42 : w4.cell? ⟨wo.heap.size, 2, none⟩ = some (.int .i64 t.m) := HX4.out.cell 2; have d43 : w4.cell? ⟨wo.heap.size, 3, none⟩ = some (.int .i64 t.i) := HX4.out.cell 3; have d44 : w4.cell? ⟨wo.heap.size, 4, none⟩ = some (.int .u64 t.b) := HX4.out.cell 4; have d45 : w4.cell? ⟨wo.heap.size, 5, none⟩ = some (.string ⟨t.t.toArray⟩) := HX4.out.cell 5; have d46 : w4.cell? ⟨wo.heap.size, 6, none⟩ = some (.slice VA t.vars.length vc) := HX4.out.cell 6; have d47 : w4.cell? ⟨wo.heap.size, 7, none⟩ = some (.slice KA t.keys.length kc) := HX4.out.cell 7; have d48 : w4.cell? ⟨wo.heap.size, 8, none⟩ = some (.slice AA t.args.length ac) := HX4.out.cell 8; have f40 : w4.cell? ⟨w.heap.size, 0, none⟩ = some (.slice (some ad0) L.length c) := HS4.out.box.cell 0; have f41 := HS4.out.made hlt; rw [HIN.out] at f41; clear hb4))
            go_roundw
            case rel => exact ⟨k + 1, by omega, by go_num, HF2, HS4⟩
            case measure => simp [intOf]; omega
    · obtain rfl : k = L.length := by omega
      have HR5 := HRR3.out
      rw [← HFL.out, HF.out, if_neg (by decide), ← HPL.out] at HR5
      have HRR6 := Lib.hid HR5
      have q0 : (L.length : Int) ≤ (L.length : Int) := Int.le_refl _
      have HSA := Lib.hid HS.out
      clear HR5 hge hk HF HS HS0
      go_wp2_with fail
      go_loopw [9] (fun ix wr => ∃ (k : Nat), k ≤ L.length ∧ ix = .int .i64 (k : Int) ∧ Hid (allC (fitsC prims) inb L k = true) ∧ Hid (CkC w L.length gb (.slice (some PA) 61 pc) inb #[.slice (some ad0) L.length c, .int .i64 (root : Int)] wr)) (fun ix _ => L.length - (intOf ix).toNat)
      case atStart => exact ⟨0, Nat.zero_le _, rfl, rfl, HSA⟩
      case round =>
        obtain ⟨k, hk, rfl, HP, HS⟩ := hrel
        obtain ⟨wo, rfl⟩ : ∃ wo : World, wo = wr := ⟨_, rfl⟩
        rcases Nat.lt_or_ge k L.length with hlt | hge
        · obtain ⟨t, ht⟩ : ∃ t, L[k]? = some t := ⟨_, List.getElem?_eq_getElem (by omega)⟩
          have HNr := NF.below HN.out HS.out.bel
          obtain ⟨adx, vv, kv, av, hadE, had, htv, a0, a1, a2, a3, a4, a5, a6, a7, a8⟩ := HNr.at9 ht
          obtain rfl := Option.some.inj hadE
          obtain ⟨VA, vc, rfl, _, _⟩ := htv.v.len
          obtain ⟨KA, kc, rfl, _, _⟩ := htv.k.len
          obtain ⟨AA, ac, rfl, ha1, ha2⟩ := htv.a.len
          have lv := htv.lv
          have lk := htv.lk
          have la := htv.la
          have b0 : wo.cell? ⟨w.heap.size, 0, none⟩ = some (.slice (some ad0) L.length c) := HS.out.box.cell 0
          have cin := HS.out.made hlt
          have hkL : (k : Int) < (L.length : Int) := by omega
          have HTW := Lib.hid htv
          have HBG := Lib.hid (show w.heap.size < wo.heap.size ∧ gb < wo.heap.size ∧ ad0.block < wo.heap.size from ⟨HS.out.box.lt, (World.ownsRow.lt HS.out.own gb rfl).2, had⟩)
          clear HNr htv
          cases hin : inb k
          · rw [hin] at cin
            have HP2 := Lib.hid (show allC (fitsC prims) inb L (k + 1) = true by rw [all_skip hin]; exact HP.out)
            clear ht hin
            go_upto_region 20 with fail
            go_quiet (fail)
            go_wp2_with fail
            go_roundw
            case rel => exact ⟨k + 1, by omega, by go_num, HP2, HS.out.drewN _⟩
            case measure => simp [intOf]; omega
          · rw [hin] at cin
            have hpn := all_made (P := fitsC prims) (L := L) hin ht
            rw [HP.out, Bool.true_and] at hpn
            rw [show fitsC prims t = (decide (t.k ≠ 8) || primOkC prims t) from rfl] at hpn
            clear ht hin
            by_cases k8 : t.k = 8
            · have q8 := b_true k8
              rw [decide_eq_false (by omega), Bool.false_or] at hpn
              have HSD := Lib.hid HS.out.drew
              have HPM := Lib.hid (sprim_any t (.slice (some ad0) L.length c) _ _ _ (.slice (some PA) 61 pc) wo.drew HSD.out.prv (HTW.out.below (Below.drew (Below.refl _ _))))
              have K0 := Lib.hid (show wo.drew.cell? ⟨w.heap.size, 0, none⟩ = some (.slice (some ad0) L.length c) ∧ wo.drew.cell? ⟨gb, k, none⟩ = some (.bool true) ∧ wo.drew.cell? (ad0.add (k * 9)) = some (.int .i64 t.k) ∧ wo.drew.cell? ⟨(ad0.add (k * 9)).block, (ad0.add (k * 9)).off + 1, none⟩ = some (.int .i64 t.n) ∧ wo.drew.cell? ⟨(ad0.add (k * 9)).block, (ad0.add (k * 9)).off + 2, none⟩ = some (.int .i64 t.m) ∧ wo.drew.cell? ⟨(ad0.add (k * 9)).block, (ad0.add (k * 9)).off + 3, none⟩ = some (.int .i64 t.i) ∧ wo.drew.cell? ⟨(ad0.add (k * 9)).block, (ad0.add (k * 9)).off + 4, none⟩ = some (.int .u64 t.b) ∧ wo.drew.cell? ⟨(ad0.add (k * 9)).block, (ad0.add (k * 9)).off + 5, none⟩ = some (.string ⟨t.t.toArray⟩) ∧ wo.drew.cell? ⟨(ad0.add (k * 9)).block, (ad0.add (k * 9)).off + 6, none⟩ = some (.slice VA t.vars.length vc) ∧ wo.drew.cell? ⟨(ad0.add (k * 9)).block, (ad0.add (k * 9)).off + 7, none⟩ = some (.slice KA t.keys.length kc) ∧ wo.drew.cell? ⟨(ad0.add (k * 9)).block, (ad0.add (k * 9)).off + 8, none⟩ = some (.slice AA t.args.length ac) from ⟨b0, cin, a0, a1, a2, a3, a4, a5, a6, a7, a8⟩)
              unfold flVals at HPM
              cases hpo : primOkC prims t
              · rw [hpo] at hpn HPM
                have HR2 := Lib.hid (show RC = 112 by have := HRR6.out; rw [if_pos (allC_false (i := k + 1) (by omega) hpn)] at this; exact this)
                clear k8 hpo hpn
                go_upto_region 20 with fail
                go_region_held3 (fun w' => w'.cell? ⟨w.heap.size, 0, none⟩ = some (.slice (some ad0) L.length c) ∧ w'.cell? ⟨gb, k, none⟩ = some (.bool true) ∧ w'.cell? (ad0.add (k * 9)) = some (.int .i64 t.k) ∧ w'.cell? ⟨(ad0.add (k * 9)).block, (ad0.add (k * 9)).off + 1, none⟩ = some (.int .i64 t.n) ∧ w'.cell? ⟨(ad0.add (k * 9)).block, (ad0.add (k * 9)).off + 2, none⟩ = some (.int .i64 t.m) ∧ w'.cell? ⟨(ad0.add (k * 9)).block, (ad0.add (k * 9)).off + 3, none⟩ = some (.int .i64 t.i) ∧ w'.cell? ⟨(ad0.add (k * 9)).block, (ad0.add (k * 9)).off + 4, none⟩ = some (.int .u64 t.b) ∧ w'.cell? ⟨(ad0.add (k * 9)).block, (ad0.add (k * 9)).off + 5, none⟩ = some (.string ⟨t.t.toArray⟩) ∧ w'.cell? ⟨(ad0.add (k * 9)).block, (ad0.add (k * 9)).off + 6, none⟩ = some (.slice VA t.vars.length vc) ∧ w'.cell? ⟨(ad0.add (k * 9)).block, (ad0.add (k * 9)).off + 7, none⟩ = some (.slice KA t.keys.length kc) ∧ w'.cell? ⟨(ad0.add (k * 9)).block, (ad0.add (k * 9)).off + 8, none⟩ = some (.slice AA t.args.length ac)) (first | with_reducible exact K0.out | with_reducible exact K5.out)
                (first
                  | (go_at_call 26; ((with_reducible refine (HPM.out).mono ?_); rintro e w5 ⟨rfl, hb5⟩; have HS5 := Lib.hid (HSD.out.below hb5); have K5 := Lib.hid (show w5.cell? ⟨w.heap.size, 0, none⟩ = some (.slice (some ad0) L.length c) ∧ w5.cell? ⟨gb, k, none⟩ = some (.bool true) ∧ w5.cell? (ad0.add (k * 9)) = some (.int .i64 t.k) ∧ w5.cell? ⟨(ad0.add (k * 9)).block, (ad0.add (k * 9)).off + 1, none⟩ = some (.int .i64 t.n) ∧ w5.cell? ⟨(ad0.add (k * 9)).block, (ad0.add (k * 9)).off + 2, none⟩ = some (.int .i64 t.m) ∧ w5.cell? ⟨(ad0.add (k * 9)).block, (ad0.add (k * 9)).off + 3, none⟩ = some (.int .i64 t.i) ∧ w5.cell? ⟨(ad0.add (k * 9)).block, (ad0.add (k * 9)).off + 4, none⟩ = some (.int .u64 t.b) ∧ w5.cell? ⟨(ad0.add (k * 9)).block, (ad0.add (k * 9)).off + 5, none⟩ = some (.string ⟨t.t.toArray⟩) ∧ w5.cell? ⟨(ad0.add (k * 9)).block, (ad0.add (k * 9)).off + 6, none⟩ = some (.slice VA t.vars.length vc) ∧ w5.cell? ⟨(ad0.add (k * 9)).block, (ad0.add (k * 9)).off + 7, none⟩ = some (.slice KA t.keys.length kc) ∧ w5.cell? ⟨(ad0.add (k * 9)).block, (ad0.add (k * 9)).off + 8, none⟩ = some (.slice AA t.args.length ac) from k9_below K0.out hb5 HBG.out.1 HBG.out.2.1 HBG.out.2.2); clear hb5)))
                go_wp2_with fail
                go_ret
                exact ⟨by rw [HR2.out]; rfl, HS5.out.bel⟩
              · rw [hpo] at hpn HPM
                have HP2 := Lib.hid hpn
                clear k8 hpo hpn
                go_upto_region 20 with fail
                go_region_held3 (fun w' => w'.cell? ⟨w.heap.size, 0, none⟩ = some (.slice (some ad0) L.length c) ∧ w'.cell? ⟨gb, k, none⟩ = some (.bool true) ∧ w'.cell? (ad0.add (k * 9)) = some (.int .i64 t.k) ∧ w'.cell? ⟨(ad0.add (k * 9)).block, (ad0.add (k * 9)).off + 1, none⟩ = some (.int .i64 t.n) ∧ w'.cell? ⟨(ad0.add (k * 9)).block, (ad0.add (k * 9)).off + 2, none⟩ = some (.int .i64 t.m) ∧ w'.cell? ⟨(ad0.add (k * 9)).block, (ad0.add (k * 9)).off + 3, none⟩ = some (.int .i64 t.i) ∧ w'.cell? ⟨(ad0.add (k * 9)).block, (ad0.add (k * 9)).off + 4, none⟩ = some (.int .u64 t.b) ∧ w'.cell? ⟨(ad0.add (k * 9)).block, (ad0.add (k * 9)).off + 5, none⟩ = some (.string ⟨t.t.toArray⟩) ∧ w'.cell? ⟨(ad0.add (k * 9)).block, (ad0.add (k * 9)).off + 6, none⟩ = some (.slice VA t.vars.length vc) ∧ w'.cell? ⟨(ad0.add (k * 9)).block, (ad0.add (k * 9)).off + 7, none⟩ = some (.slice KA t.keys.length kc) ∧ w'.cell? ⟨(ad0.add (k * 9)).block, (ad0.add (k * 9)).off + 8, none⟩ = some (.slice AA t.args.length ac)) (first | with_reducible exact K0.out | with_reducible exact K5.out)
                (first
                  | (go_at_call 26; ((with_reducible refine (HPM.out).mono ?_); rintro e w5 ⟨rfl, hb5⟩; have HS5 := Lib.hid (HSD.out.below hb5); have K5 := Lib.hid (show w5.cell? ⟨w.heap.size, 0, none⟩ = some (.slice (some ad0) L.length c) ∧ w5.cell? ⟨gb, k, none⟩ = some (.bool true) ∧ w5.cell? (ad0.add (k * 9)) = some (.int .i64 t.k) ∧ w5.cell? ⟨(ad0.add (k * 9)).block, (ad0.add (k * 9)).off + 1, none⟩ = some (.int .i64 t.n) ∧ w5.cell? ⟨(ad0.add (k * 9)).block, (ad0.add (k * 9)).off + 2, none⟩ = some (.int .i64 t.m) ∧ w5.cell? ⟨(ad0.add (k * 9)).block, (ad0.add (k * 9)).off + 3, none⟩ = some (.int .i64 t.i) ∧ w5.cell? ⟨(ad0.add (k * 9)).block, (ad0.add (k * 9)).off + 4, none⟩ = some (.int .u64 t.b) ∧ w5.cell? ⟨(ad0.add (k * 9)).block, (ad0.add (k * 9)).off + 5, none⟩ = some (.string ⟨t.t.toArray⟩) ∧ w5.cell? ⟨(ad0.add (k * 9)).block, (ad0.add (k * 9)).off + 6, none⟩ = some (.slice VA t.vars.length vc) ∧ w5.cell? ⟨(ad0.add (k * 9)).block, (ad0.add (k * 9)).off + 7, none⟩ = some (.slice KA t.keys.length kc) ∧ w5.cell? ⟨(ad0.add (k * 9)).block, (ad0.add (k * 9)).off + 8, none⟩ = some (.slice AA t.args.length ac) from k9_below K0.out hb5 HBG.out.1 HBG.out.2.1 HBG.out.2.2); clear hb5)))
                go_wp2_with fail
                go_roundw
                case rel => exact ⟨k + 1, by omega, by go_num, HP2, HS5⟩
                case measure => simp [intOf]; omega
            · have q8 := b_false k8
              rw [decide_eq_true k8, Bool.true_or] at hpn
              have HP2 := Lib.hid hpn
              clear k8 hpn
              go_upto_region 20 with fail
              go_quiet (fail)
              go_wp2_with fail
              go_roundw
              case rel => exact ⟨k + 1, by omega, by go_num, HP2, HS.out.drewN _⟩
              case measure => simp [intOf]; omega
        · obtain rfl : k = L.length := by omega
          have b0 : wo.cell? ⟨w.heap.size, 0, none⟩ = some (.slice (some ad0) L.length c) := HS.out.box.cell 0
          have b1 : wo.cell? ⟨w.heap.size, 1, none⟩ = some (.int .i64 (root : Int)) := HS.out.box.cell 1
          have HR4 := HRR6.out
          rw [HP.out, if_neg (by decide)] at HR4
          clear hge hk
          by_cases hm : 262144 < L.length
          · rw [if_pos hm] at HR4
            have HR5 := Lib.hid HR4
            have q1 := decide_eq_true (show (262144 : Int) < (L.length : Int) by omega)
            clear HR4 hm
            go_wp2_with fail
            go_ret
            exact ⟨by rw [HR5.out]; rfl, HS.out.bel⟩
          · rw [if_neg hm] at HR4
            have q1 := decide_eq_false (show ¬ (262144 : Int) < (L.length : Int) by omega)
            have HFW := Lib.hid (HFR.out wo _ (NF.below HN.out HS.out.bel))
            by_cases hfr : fr = []
            · rw [if_pos hfr] at HR4
              have HR5 := Lib.hid HR4
              have HL0 := Lib.hid (show fr.length = 0 by rw [hfr]; rfl)
              clear HR4 hm hfr
              go_wp2_with (go_at_call 5; ((with_reducible refine (HFW.out).mono ?_); rintro e w9 ⟨v9, rfl, hv9, hb9⟩; obtain ⟨A9, c9, rfl, h91, h92⟩ := hv9.len; rw [HL0.out]; have HB9 := Lib.hid (HS.out.bel.trans (hb9.mono HS.out.bel.size)); clear hv9 hb9))
              go_ret
              exact ⟨by rw [HR5.out]; rfl, HB9.out⟩
            · rw [if_neg hfr] at HR4
              have HR5 := Lib.hid HR4
              have hl0 : 0 < fr.length := List.length_pos_iff.2 hfr
              have q2 := decide_eq_true (show (0 : Int) < (fr.length : Int) by omega)
              clear HR4 hm hfr
              go_wp2_with (go_at_call 5; ((with_reducible refine (HFW.out).mono ?_); rintro e w9 ⟨v9, rfl, hv9, hb9⟩; obtain ⟨A9, c9, rfl, h91, h92⟩ := hv9.len; have HB9 := Lib.hid (HS.out.bel.trans (hb9.mono HS.out.bel.size)); clear hv9 hb9))
              go_ret
              exact ⟨by rw [HR5.out]; rfl, HB9.out⟩

set_option maxRecDepth 100000 in
set_option maxHeartbeats 1000000 in
theorem scheck_any (L : List Fl) (v : Value) (root : Int) (w : World) (hN : NF w w.heap.size v L) : Calls Tryz.prog 7 #[.agg #[v, .int .i64 root]] w (CkPost (checkC prims L root) w) := by
  obtain ⟨A, c, rfl, hc1, hc2⟩ := hN.len
  have HB := Lib.hid ((Below.refl w.heap.size w).alloc (Nat.le_refl _) (.cells #[.slice A L.length c, .int .i64 root] 24))
  by_cases h0 : root < 0
  · rw [ckC_out (.inl h0)]
    have q0 := decide_eq_true h0
    clear hN
    go_enter Tryz.func7, Tryz.ntmps7
    go_wp2_with fail
    go_ret
    exact ⟨rfl, HB.out⟩
  · by_cases h1 : (L.length : Int) ≤ root
    · rw [ckC_out (.inr h1)]
      have q0 := decide_eq_false h0
      have q1 := decide_eq_true h1
      clear hN
      go_enter Tryz.func7, Tryz.ntmps7
      go_wp2_with fail
      go_ret
      exact ⟨rfl, HB.out⟩
    · obtain ⟨r, rfl⟩ : ∃ r : Nat, root = (r : Int) := ⟨root.toNat, by omega⟩
      exact scheck_in L A c (r + 1) r w (by omega) rfl hN

end Go.Proofs.YtikkmalhdidhaaaGreatDoor
