/- Cps: Free, the program's way. -/
import Derived.Test.YtjhdlnllhjffkaaGreatDoorCloMh
namespace Go.Proofs.YtjhdlnllhjffkaaGreatDoor
open Go.RowKit LamM CpsM

theorem infoSetC : (Tryz.prog.info? 196).map (fun i => (i.zero, i.size, i.bytes)) = some (some (.slice none 0 0), 1, 24) := by kernel_rfl
theorem undSetsC : Tryz.prog.underlying 195 = some (.slice 196) := by kernel_rfl
theorem FrC.start {E : TypeId} {w w1 w3 : World} {n n' gb : Nat} {inb : Nat → Bool} (hob : w1.ownsRow gb 4 1 (.slice (some ⟨gb, 0, none⟩) n' n') n' (boolVals n' inb)) (hb1 : Below w.heap.size w w1)
    (hgb : w.heap.size ≤ gb) (hw3 : w3.ownsRow w1.heap.size E 1 (.slice (some ⟨w1.heap.size, 0, none⟩) n n) n (List.replicate n (.slice none 0 0))) (hg3 : w1.grownBy w3 none) :
    FrC E w n n' w1.heap.size gb inb (fun _ => []) (List.replicate n (.slice none 0 0)) w3 := by
  have hb3 : Below w1.heap.size w1 w3 := (Below.refl _ _).grown hg3 (Nat.le_refl _) (fun k hk => by cases hk)
  have h1 := (World.ownsRow.lt hob gb rfl).2
  refine ⟨ownsRow_below hob hb3, hw3, by simp, fun j v hj => ?_, hb1.trans (hb3.mono hb1.size), h1, hgb⟩
  rw [List.getElem?_replicate] at hj
  split at hj
  · rw [← Option.some.inj hj]; exact nil_IV _ _
  · cases hj
set_option maxRecDepth 100000 in
set_option maxHeartbeats 8000000 in
theorem cfree_in (L : List Fl) (A : Option Addr) (c n root : Nat) (w : World) (hr : root < L.length) (hn : n = root + 1) (hN : NF w w.heap.size (.slice A L.length c) L) :
    Calls Tryz.prog 75 #[.slice A L.length c, .int .i64 (root : Int)] w (GivesI w (freeOfC L root)) := by
  obtain ⟨i0, hi0, hz0, hz1, hz2⟩ := info_parts infoSetC
  obtain ⟨A', c', e, hc1, hc2⟩ := hN.len
  injection e with e1 e2 e3
  subst e1 e3
  have HBL := Lib.hid (cbelow_any L A c n root w hr hn hN)
  have HN := Lib.hid hN
  have HALL := Lib.hid (fun i j => all_inC (belowC L root).1 L i j)
  have hnr : n ≤ L.length := by omega
  have hn1 : n ≤ root + 1 := by omega
  have hn2 : root + 1 ≤ n := by omega
  have hrl : (root : Int) < (L.length : Int) := by omega
  have hLn : L.length ≤ 1300000000000 := by omega
  have hLt : (tms L).length = L.length := tms_len L
  have HFO := Lib.hid (show freeAllC (belowC L root).1 L (root + 1) root = freeOfC L root from rfl)
  obtain ⟨R0, hR0⟩ : ∃ R0, freeOfC L root = R0 := ⟨_, rfl⟩
  rw [hR0] at HFO ⊢
  unfold BelowPost at HBL
  unfold belowC at HFO HALL
  obtain ⟨inb, hinb⟩ : ∃ b, (below (tms L) root).1 = b := ⟨_, rfl⟩
  rw [hinb] at HBL HFO HALL
  generalize (below (tms L) root).2 = ok at HBL
  have HAN := Lib.hid (fun i t (h : L[i]? = some t) (hb : inb i = true) => all_nodeC h hb)
  have HAS := Lib.hid (fun i t (h : L[i]? = some t) (hb : inb i = false) => all_skipC h hb)
  have HA0 := Lib.hid (show freeAllC inb L 0 = fun _ => [] from rfl)
  have HAB := Lib.hid (fun i => all_beyondC (inb := inb) (L := L) (Nat.le_refl i))
  obtain ⟨FF, hFF⟩ : ∃ F, freeAllC inb L = F := ⟨_, rfl⟩
  rw [hFF] at HFO HALL HAN HAS HA0 HAB
  have HLT := Lib.hid hLt
  clear hN hn hR0 hinb hFF hLt
  go_enter Tryz.func75, Tryz.ntmps75
  go_wp2_with fail
  go_at_call 74
  (with_reducible refine (HBL.out).mono ?_)
  rintro e w1 ⟨gb, rfl, hgb, hob, hb1⟩
  have HOB := Lib.hid hob
  have HB1 := Lib.hid hb1
  clear hob hb1 HBL
  go_wp2_with (refine wpList_make_full _ rfl _ _ _ rfl w1.heap.size 196 i0 (.slice none 0 0) 1 undSetsC hi0 hz0 hz1 _ _ _ _ n rfl rfl (by omega) (by omega) (by rw [hz2]; omega) (by unfold maxLen; omega) (Nat.le_refl _) ?_)
  intro w3 hown3 hgrow3
  rw [toList_madeCells_one] at hown3
  have HS0 := Lib.hid (FrC.start HOB.out HB1.out hgb hown3 hgrow3)
  obtain ⟨g, hg⟩ : ∃ g, w1.heap.size = g := ⟨_, rfl⟩
  rw [hg] at HS0 ⊢
  clear hown3 hgrow3 HOB HB1 hg hgb
  generalize List.replicate n (Value.slice none 0 0) = vs0 at HS0
  go_wp2_with fail
  go_loopw [35] (fun ix wr => ∃ (k : Nat) (vs : List Value), k ≤ n ∧ ix = .int .i64 (k : Int) ∧ Hid (FrC 196 w n n g gb inb (FF k) vs wr)) (fun ix _ => n - (intOf ix).toNat)
  case atStart => exact ⟨0, vs0, Nat.zero_le _, rfl, by rw [HA0.out]; exact HS0⟩
  case round =>
    obtain ⟨k, vs, hk, rfl, HS⟩ := hrel
    obtain ⟨wo, rfl⟩ : ∃ wo : World, wo = wr := ⟨_, rfl⟩
    rcases Nat.lt_or_ge k n with hlt | hge
    · obtain ⟨t, ht⟩ : ∃ t, L[k]? = some t := ⟨_, List.getElem?_eq_getElem (by omega)⟩
      have HNr := HN.out.keep (fun p hp => HS.out.bel.cell hp)
      obtain ⟨ad, vv, kv, av, rfl, had, htv, a0, a1, a2, a3, a4, a5, a6, a7, a8⟩ := HNr.at9 ht
      obtain ⟨VA, vc, rfl, _, _⟩ := htv.v.len
      obtain ⟨KA, kc, rfl, _, _⟩ := htv.k.len
      obtain ⟨AA, ac, rfl, ha1, ha2⟩ := htv.a.len
      have lv := htv.lv
      have lk := htv.lk
      have la := htv.la
      have HTV := Lib.hid htv
      obtain ⟨W1, hW⟩ : ∃ W1, wo.alloc (BoxF t (.slice VA t.vars.length vc) (.slice KA t.keys.length kc) (.slice AA t.args.length ac)) = W1 := ⟨_, rfl⟩
      have hbw : Below wo.heap.size wo W1 := by rw [← hW]; exact (Below.refl _ _).alloc (Nat.le_refl _) _
      have HBX := Lib.hid (show Blk W1 wo.heap.size 43 #[.int .i64 t.k, .int .i64 t.n, .int .i64 t.m, .int .i64 t.i, .int .u64 t.b, .string ⟨t.t.toArray⟩, .slice VA t.vars.length vc, .slice KA t.keys.length kc, .slice AA t.args.length ac] by rw [← hW]; exact Blk.new _ _ _)
      have HS1 := Lib.hid (HS.out.below hbw)
      have HBW := Lib.hid hbw
      have cin := HS1.out.made hlt
      unfold BoxF at hW
      have hkL : (k : Int) < (L.length : Int) := by omega
      have hkn : (k : Int) < (n : Int) := by omega
      have hkr : (k : Int) < (root : Int) + 1 := by omega
      clear htv HNr hbw
      cases hin : inb k
      · rw [hin] at cin
        have HE := Lib.hid (HAS.out k t ht hin)
        clear ht hin
        go_wp2_with fail
        go_roundw
        case rel => exact ⟨k + 1, vs, by omega, by go_num, by rw [HE.out]; exact HS1⟩
        case measure => simp [intOf]; omega
      · rw [hin] at cin
        have HE := Lib.hid (HAN.out k t ht hin)
        obtain ⟨RR, hRR⟩ : ∃ RR, freeArgsC L (FF k) t k t.args (freeHeadC t) = RR := ⟨_, rfl⟩
        rw [hRR] at HE
        have HMT := Lib.hid (List.mem_of_getElem? ht)
        have HHI := Lib.hid (head_inC HMT.out)
        have HQ := Lib.hid (show freeArgsC L (FF k) t k (t.args.drop 0) (freeHeadC t) = RR from hRR)
        have HZ := Lib.hid (HAB.out k)
        have c0 : W1.cell? ⟨wo.heap.size, 0, none⟩ = some (.int .i64 t.k) := HBX.out.cell 0
        have c1 : W1.cell? ⟨wo.heap.size, 1, none⟩ = some (.int .i64 t.n) := HBX.out.cell 1
        clear ht hin hRR
        go_upto_if 47 with fail
        go_cut [35] from 35 to 103 (fun ix wx => ix = .int .i64 (k : Int) ∧ ∃ vs1 : List Value, Hid (FrC 196 w n n g gb inb (updS (FF k) k (freeHeadC t)) vs1 wx) ∧ Hid (Blk wx wo.heap.size 43 #[.int .i64 t.k, .int .i64 t.n, .int .i64 t.m, .int .i64 t.i, .int .u64 t.b, .string ⟨t.t.toArray⟩, .slice VA t.vars.length vc, .slice KA t.keys.length kc, .slice AA t.args.length ac]))
        case first =>
          by_cases k1 : t.k = 1
          · have q1 := b_true k1
            have hba : Below W1.heap.size W1 (W1.alloc (.cells #[.int .i64 t.n] 3)) := (Below.refl _ _).alloc (Nat.le_refl _) _
            have HS2 := Lib.hid (HS1.out.below hba)
            obtain ⟨v0, _, cv, fv, _⟩ := HS2.out.at_ hlt
            have HS3 := Lib.hid (HS2.out.store hlt (u := .slice (some ⟨W1.heap.size, 0, none⟩) 1 1) ((one_IV W1 t.n).more (by simp)))
            have hgS : g < wo.heap.size := HS.out.lt
            have HX3 := Lib.hid ((HBX.out.alloc (.cells #[.int .i64 t.n] 3)).far (p := ⟨g, k, none⟩) (by show wo.heap.size ≠ g; omega) (.slice (some ⟨W1.heap.size, 0, none⟩) 1 1))
            have HK1 := Lib.hid (show freeHeadC t = [t.n] from if_pos k1)
            clear k1 hba
            go_wp2_with fail
            go_meet
            case rel => exact ⟨rfl, _, by rw [HK1.out]; exact HS3, HX3⟩
          · have q1 := b_false k1
            have HK1 := Lib.hid (show freeHeadC t = [] from if_neg k1)
            clear k1
            go_wp2_with fail
            go_meet
            case rel => exact ⟨rfl, vs, by rw [HK1.out]; exact HS1.out.cast (updS_id HZ.out).symm, HBX⟩
        case rest =>
          obtain ⟨rfl, vs1, HS4, HX4⟩ := hcut
          clear cin c0 c1
          have b0 : wc.cell? ⟨wo.heap.size, 0, none⟩ = some (.int .i64 t.k) := HX4.out.cell 0
          have b1 : wc.cell? ⟨wo.heap.size, 1, none⟩ = some (.int .i64 t.n) := HX4.out.cell 1
          have b2 : wc.cell? ⟨wo.heap.size, 2, none⟩ = some (.int .i64 t.m) := HX4.out.cell 2
          have b3 : wc.cell? ⟨wo.heap.size, 3, none⟩ = some (.int .i64 t.i) := HX4.out.cell 3
          have b4 : wc.cell? ⟨wo.heap.size, 4, none⟩ = some (.int .u64 t.b) := HX4.out.cell 4
          have b5 : wc.cell? ⟨wo.heap.size, 5, none⟩ = some (.string ⟨t.t.toArray⟩) := HX4.out.cell 5
          have b6 : wc.cell? ⟨wo.heap.size, 6, none⟩ = some (.slice VA t.vars.length vc) := HX4.out.cell 6
          have b7 : wc.cell? ⟨wo.heap.size, 7, none⟩ = some (.slice KA t.keys.length kc) := HX4.out.cell 7
          have b8 : wc.cell? ⟨wo.heap.size, 8, none⟩ = some (.slice AA t.args.length ac) := HX4.out.cell 8
          have HTW := Lib.hid (show FV wc wc.heap.size t (.slice VA t.vars.length vc) (.slice KA t.keys.length kc) (.slice AA t.args.length ac) from (HTV.out.keep (w' := wc) (fun p hp => (HS4.out.bel.cell hp).trans (HS.out.bel.cell hp).symm)).more (by have := HS4.out.bel.size; omega))
          have HBD := Lib.hid (cbinds_any t _ _ _ wc HTW.out)
          unfold flVals at HBD
          have HBI := Lib.hid (show ∀ acc l a, freeArgsC L (FF k) t k (a :: l) acc = freeArgsC L (FF k) t k l (if a < 0 ∨ (k : Int) ≤ a then acc else mrg acc (sel (atomB (kindC L a)) (bindsC t) (FF k a.toNat))) from fun _ _ _ => args_stepC)
          obtain ⟨bl, hbl⟩ : ∃ b, bindsC t = b := ⟨_, rfl⟩
          rw [hbl] at HBD HBI
          clear hbl
          go_wp2_with (go_at_call 133; ((with_reducible refine (HBD.out).mono ?_); rintro e w3 ⟨bv, rfl, hbv, hb3⟩; have HBV := Lib.hid hbv; have HS5 := Lib.hid (HS4.out.below hb3); have HX5 := Lib.hid (HX4.out.below hb3 HX4.out.lt); clear hbv hb3; clear b0 b1 b2 b3 b4 b5 b6 b7 b8; have b8 : w3.cell? ⟨wo.heap.size, 8, none⟩ = some (.slice AA t.args.length ac) := HX5.out.cell 8))
          go_loopw [59] (fun jx wr => ∃ (m : Nat) (vs2 : List Value) (acc : List Int), m ≤ t.args.length ∧ jx = .int .i64 (m : Int) ∧ Hid (In (tms L) acc) ∧ Hid (freeArgsC L (FF k) t k (t.args.drop m) acc = RR) ∧ Hid (FrC 196 w n n g gb inb (updS (FF k) k acc) vs2 wr) ∧ Hid (Blk wr wo.heap.size 43 #[.int .i64 t.k, .int .i64 t.n, .int .i64 t.m, .int .i64 t.i, .int .u64 t.b, .string ⟨t.t.toArray⟩, .slice VA t.vars.length vc, .slice KA t.keys.length kc, .slice AA t.args.length ac]) ∧ Hid (IV wr wr.heap.size bv bl)) (fun jx _ => t.args.length - (intOf jx).toNat)
          case atStart => exact ⟨0, _, (freeHeadC t), Nat.zero_le _, rfl, HHI, HQ, HS5, HX5, HBV⟩
          case round =>
            obtain ⟨m, vs2, acc, hm, rfl, HI2, HQ2, HS2, HX2, HBV2⟩ := hrel
            rcases Nat.lt_or_ge m t.args.length with hmlt | hmge
            · obtain ⟨a, ha⟩ : ∃ a, t.args[m]? = some a := ⟨_, List.getElem?_eq_getElem hmlt⟩
              have htv2 := HTV.out.keep (w' := wr) (fun p hp => (HS2.out.bel.cell hp).trans (HS.out.bel.cell hp).symm)
              obtain ⟨aa, rfl, haa, ca2⟩ := htv2.a.at_ ha
              have hra := HTV.out.ra a (List.mem_of_getElem? ha)
              have hq2 := HQ2.out
              rw [drop_at ha, HBI.out] at hq2
              have hm1 : (m : Int) < (t.args.length : Int) := by omega
              clear ha
              by_cases h1 : a < 0
              · rw [if_pos (.inl h1)] at hq2
                have HQ3 := Lib.hid hq2
                have q1 : decide (a < 0) = true := decide_eq_true h1
                clear hq2 h1 htv2
                go_wp2_with fail
                go_roundw
                case rel => exact ⟨m + 1, vs2, acc, by omega, by go_num, HI2, HQ3, HS2, HX2, HBV2⟩
                case measure => simp [intOf]; omega
              · by_cases h2 : (k : Int) ≤ a
                · rw [if_pos (.inr h2)] at hq2
                  have HQ3 := Lib.hid hq2
                  have q1 : decide (a < 0) = false := decide_eq_false (by omega)
                  have q2 : decide ((k : Int) ≤ a) = true := decide_eq_true (by omega)
                  clear hq2 h1 h2 htv2
                  go_wp2_with fail
                  go_roundw
                  case rel => exact ⟨m + 1, vs2, acc, by omega, by go_num, HI2, HQ3, HS2, HX2, HBV2⟩
                  case measure => simp [intOf]; omega
                · rw [if_neg (by rintro (h | h) <;> omega)] at hq2
                  obtain ⟨x, rfl⟩ : ∃ x : Nat, a = (x : Int) := ⟨a.toNat, by omega⟩
                  rw [Int.toNat_natCast] at hq2
                  obtain ⟨tx, htx⟩ : ∃ tx, L[x]? = some tx := ⟨_, List.getElem?_eq_getElem (by omega)⟩
                  rw [kindC_at (by rw [Int.toNat_natCast]; exact htx)] at hq2
                  obtain ⟨adx, _, _, _, hax, _, _, cxk, _⟩ := (HN.out.keep (w' := wr) (fun p hp => HS2.out.bel.cell hp)).at_ htx
                  obtain rfl := Option.some.inj hax
                  have HAT := Lib.hid (fun w' => catom_any tx.k w')
                  obtain ⟨at_, hat⟩ : ∃ b, atomB tx.k = b := ⟨_, rfl⟩
                  rw [hat] at hq2 HAT
                  have HQ3 := Lib.hid hq2
                  have q1 : decide ((x : Int) < 0) = false := decide_eq_false (by omega)
                  have q2 : decide ((k : Int) ≤ (x : Int)) = false := decide_eq_false (by omega)
                  have hxk : x < k := by omega
                  have hxn0 : x < n := by omega
                  have hxn : (x : Int) < (n : Int) := by omega
                  have hxL : (x : Int) < (L.length : Int) := by omega
                  obtain ⟨vi, ki, ci, fi, hvi⟩ := HS2.out.at_ (i := k) hlt
                  obtain ⟨vx, kx, cx, _, hvx⟩ := HS2.out.at_ (i := x) hxn0
                  rw [updS_at] at hvi
                  rw [updS_ne (by omega)] at hvx
                  obtain ⟨IA, ic, rfl, hi1, hi2⟩ := hvi.len
                  obtain ⟨XA, xc, rfl, hx1, hx2⟩ := hvx.len
                  have HIX := Lib.hid (HALL.out k x)
                  have hla := HI2.out.len
                  have hlx := HIX.out.len
                  rw [HLT.out] at hla hlx
                  have HWO := Lib.hid (fun w' vb (h1 : IV w' w'.heap.size (.slice XA (FF k x).length xc) (FF k x)) (h2 : IV w' w'.heap.size vb bl) => cwout_any (FF k x) bl _ vb w' HIX.out.ss (by omega) h1 h2)
                  have HUN := Lib.hid (fun w' vb (h1 : IV w' w'.heap.size (.slice IA acc.length ic) acc) (h2 : IV w' w'.heap.size vb (sel at_ bl (FF k x))) => cunion_any acc (sel at_ bl (FF k x)) _ vb w' HI2.out.ss (sel_in at_ HIX.out).ss (by omega) (by have := (sel_in (b := bl) at_ HIX.out).len; rw [HLT.out] at this; omega) h1 h2)
                  have HS2D := Lib.hid HS2.out.drew
                  have HX2D := Lib.hid HX2.out.drew
                  have HVI := Lib.hid hvi.drew
                  have HVX := Lib.hid hvx.drew
                  have HKI := Lib.hid ki
                  have HKX := Lib.hid kx
                  have HBVD := Lib.hid HBV2.out.drew
                  have K2 := Lib.hid (keepC10 HS2D.out HX2D.out ki kx hlt hxn0)
                  have HI3 := Lib.hid (HI2.out.mrg (sel_in (b := bl) at_ HIX.out).sub)
                  have hgS : g < wo.heap.size := HS.out.lt
                  clear hq2 h1 h2 htv2 hvi hvx hi1 hi2 hx1 hx2 ki kx htx hax hat
                  have b8' : wr.cell? ⟨wo.heap.size, 8, none⟩ = some (.slice (some aa) t.args.length ac) := HX2.out.cell 8
                  cases at_
                  · go_wp2_with (go_at_call 29; ((with_reducible refine (HAT.out _).mono ?_); rintro e w' ⟨rfl, rfl⟩))
                    go_region_with
                      (first
                        | (go_at_call 135; ((with_reducible refine (HWO.out _ _ HVX.out HBVD.out).mono ?_); rintro e w4 ⟨wv, rfl, hwv, hb4⟩; have HWV := Lib.hid (show IV w4 w4.heap.size wv (sel false bl (FF k x)) from hwv); have HS4 := Lib.hid (HS2D.out.below hb4); have HX4 := Lib.hid (HX2D.out.below hb4 HX2D.out.lt); have HVI4 := Lib.hid (HVI.out.below hb4); have HBV4 := Lib.hid (HBVD.out.below hb4); have K4 := Lib.hid (keepC10 HS4.out HX4.out HKI.out HKX.out hlt hxn0); have ck4 := K4.out; obtain ⟨e0, e1, e2, e3, e4, e5, e6, e7, e8, e9, e10⟩ := ck4; clear hwv hb4))
                        | (go_at_call 134; ((with_reducible refine (HUN.out _ _ HVI4.out HWV.out).mono ?_); rintro e w5 ⟨uv, rfl, huv, hb5⟩; obtain ⟨UA, uc, rfl, _, _⟩ := huv.len; have HS5 := Lib.hid (HS4.out.below hb5); have HX5 := Lib.hid (HX4.out.below hb5 HX4.out.lt); have HBV5 := Lib.hid (HBV4.out.below hb5); have f5 := World.ownsRow.frozenAt HS5.out.row k; have c5 := HS5.out.cell_ HKI.out hlt; have HS6 := Lib.hid ((HS5.out.store hlt huv).cast updS_two); have HX6 := Lib.hid (HX5.out.far (p := ⟨g, k, none⟩) (by show wo.heap.size ≠ g; omega) (.slice UA (mrg acc (sel false bl (FF k x))).length uc)); have HBV6 := Lib.hid (HBV5.out.store c5 (.slice UA (mrg acc (sel false bl (FF k x))).length uc)); clear huv hb5)))
                    all_goals
                      go_wp2_with fail
                      go_roundw
                      case rel => exact ⟨m + 1, _, _, by omega, by go_num, HI3, HQ3, HS6, HX6, by simpa using HBV6⟩
                      case measure => simp [intOf]; omega
                  · have HVXS := Lib.hid (show IV wr.drew wr.drew.heap.size (.slice XA (FF k x).length xc) (sel true bl (FF k x)) from HVX.out)
                    go_wp2_with (go_at_call 29; ((with_reducible refine (HAT.out _).mono ?_); rintro e w' ⟨rfl, rfl⟩))
                    go_region_with
                      (first
                        | (go_at_call 134; ((with_reducible refine (HUN.out _ _ HVI.out HVXS.out).mono ?_); rintro e w5 ⟨uv, rfl, huv, hb5⟩; obtain ⟨UA, uc, rfl, _, _⟩ := huv.len; have HS5 := Lib.hid (HS2D.out.below hb5); have HX5 := Lib.hid (HX2D.out.below hb5 HX2D.out.lt); have HBV5 := Lib.hid (HBVD.out.below hb5); have f5 := World.ownsRow.frozenAt HS5.out.row k; have c5 := HS5.out.cell_ HKI.out hlt; have HS6 := Lib.hid ((HS5.out.store hlt huv).cast updS_two); have HX6 := Lib.hid (HX5.out.far (p := ⟨g, k, none⟩) (by show wo.heap.size ≠ g; omega) (.slice UA (mrg acc (sel true bl (FF k x))).length uc)); have HBV6 := Lib.hid (HBV5.out.store c5 (.slice UA (mrg acc (sel true bl (FF k x))).length uc)); clear huv hb5)))
                    all_goals
                      go_wp2_with fail
                      go_roundw
                      case rel => exact ⟨m + 1, _, _, by omega, by go_num, HI3, HQ3, HS6, HX6, by simpa using HBV6⟩
                      case measure => simp [intOf]; omega
            · obtain rfl : m = t.args.length := by omega
              have HRR := Lib.hid (show acc = RR by have := HQ2.out; rw [List.drop_length] at this; exact this)
              have q0 : (t.args.length : Int) ≤ (t.args.length : Int) := Int.le_refl _
              clear hmge hm
              go_wp2_with fail
              go_roundw
              case rel => exact ⟨k + 1, vs2, by omega, by go_num, by rw [HE.out, ← HRR.out]; exact HS2⟩
              case measure => simp [intOf]; omega
    · obtain rfl : k = root + 1 := by omega
      obtain ⟨v0, _, c0, _, hv0⟩ := HS.out.at_ (i := root) (by omega)
      rw [HFO.out] at hv0
      have hlr := (HALL.out (root + 1) root).len
      rw [HFO.out, HLT.out] at hlr
      obtain ⟨IA, un, uc, rfl⟩ := hv0.shape
      have HCL := Lib.hid (cclone_any R0 _ wo (by omega) hv0)
      have HSO := Lib.hid HS.out.bel
      have hrn : (root : Int) < (n : Int) := by omega
      have q0 : (root : Int) + 1 ≤ ((root + 1 : Nat) : Int) := by omega
      clear hv0 hlr hge hk
      go_wp2_with (go_at_call 136; ((with_reducible refine (HCL.out).mono ?_); rintro e w9 ⟨v9, rfl, ho9, hb9⟩; have HO9 := Lib.hid ho9.iv; have HB9 := Lib.hid (HSO.out.trans (hb9.mono HSO.out.size)); clear ho9 hb9))
      go_ret
      exact ⟨_, rfl, HO9.out, HB9.out⟩
end Go.Proofs.YtjhdlnllhjffkaaGreatDoor
