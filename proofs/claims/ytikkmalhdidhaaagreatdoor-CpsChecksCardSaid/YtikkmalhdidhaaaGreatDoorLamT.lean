/- Lambda: Free, the program's way. -/
import Derived.Test.YtikkmalhdidhaaaGreatDoorLamS
import Derived.Test.YtikkmalhdidhaaaGreatDoorLamRW
namespace Go.Proofs.YtikkmalhdidhaaaGreatDoor
open Go.RowKit LamM

theorem infoSet : (Tryz.prog.info? 205).map (fun i => (i.zero, i.size, i.bytes)) = some (some (.slice none 0 0), 1, 24) := by kernel_rfl
theorem undSets : Tryz.prog.underlying 204 = some (.slice 205) := by kernel_rfl
theorem FrS.start {E : TypeId} {w w1 w2 w3 : World} {n n' gb : Nat} {pv : Value} {inb : Nat → Bool} (hob : w1.ownsRow gb 4 1 (.slice (some ⟨gb, 0, none⟩) n' n') n' (boolVals n' inb)) (hb1 : Below w.heap.size w w1)
    (hpv : PV w2 w2.heap.size pv primTab) (hb2 : Below w1.heap.size w1 w2) (hgb : w.heap.size ≤ gb) (hw3 : w3.ownsRow w2.heap.size E 1 (.slice (some ⟨w2.heap.size, 0, none⟩) n n) n (List.replicate n (.slice none 0 0))) (hg3 : w2.grownBy w3 none) :
    FrS E w n n' w2.heap.size gb pv inb (fun _ => []) (List.replicate n (.slice none 0 0)) w3 := by
  have hb3 : Below w2.heap.size w2 w3 := (Below.refl _ _).grown hg3 (Nat.le_refl _) (fun k hk => by cases hk)
  have h1 := (World.ownsRow.lt hob gb rfl).2
  have h2 := hb2.size
  refine ⟨ownsRow_below (ownsRow_below hob hb2) hb3, hpv.keep (fun p hp => hb3.cell hp), hw3, by simp, fun j v hj => ?_, (hb1.trans (hb2.mono hb1.size)).trans (hb3.mono (by have := hb1.size; omega)), by omega, hgb⟩
  rw [List.getElem?_replicate] at hj
  split at hj
  · rw [← Option.some.inj hj]; exact nil_IV _ _
  · cases hj
set_option maxRecDepth 100000 in
set_option maxHeartbeats 8000000 in
theorem lfree_in (L : List Tm) (A : Option Addr) (c n root : Nat) (w : World) (hr : root < L.length) (hn : n = root + 1) (hN : NV w w.heap.size (.slice A L.length c) L) :
    Calls Tryz.prog 84 #[.slice A L.length c, .int .i64 (root : Int)] w (GivesI w (freeOf prims L root)) := by
  obtain ⟨i0, hi0, hz0, hz1, hz2⟩ := info_parts infoSet
  obtain ⟨A', c', e, hc1, hc2⟩ := hN.len
  injection e with e1 e2 e3
  subst e1 e3
  have HBL := Lib.hid (lbelow_any L A c n root w hr hn hN)
  have HPR := Lib.hid (fun w => prims_any w)
  have HN := Lib.hid hN
  have HALL := Lib.hid (fun i j => all_in small_prims (below L root).1 L i j)
  have hnr : n ≤ L.length := by omega
  have hn1 : n ≤ root + 1 := by omega
  have hn2 : root + 1 ≤ n := by omega
  have hrl : (root : Int) < (L.length : Int) := by omega
  have hLn : L.length ≤ 1300000000000 := by omega
  have HFO := Lib.hid (show freeAll prims (below L root).1 L (root + 1) root = freeOf prims L root from rfl)
  obtain ⟨R0, hR0⟩ : ∃ R0, freeOf prims L root = R0 := ⟨_, rfl⟩
  rw [hR0] at HFO ⊢
  unfold BelowPost at HBL
  obtain ⟨inb, hinb⟩ : ∃ b, (below L root).1 = b := ⟨_, rfl⟩
  rw [hinb] at HBL HFO HALL
  generalize (below L root).2 = ok at HBL
  have HAN := Lib.hid (fun i t (h : L[i]? = some t) (hb : inb i = true) => all_node (prims := prims) h hb)
  have HAS := Lib.hid (fun i t (h : L[i]? = some t) (hb : inb i = false) => all_skip (prims := prims) h hb)
  have HA0 := Lib.hid (show freeAll prims inb L 0 = fun _ => [] from rfl)
  have HAB := Lib.hid (fun i => all_beyond (prims := prims) (inb := inb) (L := L) (Nat.le_refl i))
  obtain ⟨FF, hFF⟩ : ∃ F, freeAll prims inb L = F := ⟨_, rfl⟩
  rw [hFF] at HFO HALL HAN HAS HA0 HAB
  clear hN hn hR0 hinb hFF
  go_enter Tryz.func84, Tryz.ntmps84
  go_wp2_with fail
  go_at_call 82
  (with_reducible refine (HBL.out).mono ?_)
  rintro e w1 ⟨gb, rfl, hgb, hob, hb1⟩
  have HOB := Lib.hid hob
  have HB1 := Lib.hid hb1
  clear hob hb1 HBL
  go_wp2_with fail
  go_at_call 21
  (with_reducible refine (HPR.out _).mono ?_)
  rintro e w2 ⟨pv, rfl, hpv, hb2⟩
  obtain ⟨PA, pc, hpe, hpc1, hpc2⟩ := hpv.len
  rw [primTab_len] at hpe
  subst hpe
  have HPV := Lib.hid hpv
  have HB2 := Lib.hid hb2
  clear hpv hb2 HPR
  go_wp2_with (refine wpList_make_full _ rfl _ _ _ rfl w2.heap.size 205 i0 (.slice none 0 0) 1 undSets hi0 hz0 hz1 _ _ _ _ n rfl rfl (by omega) (by omega) (by rw [hz2]; omega) (by unfold maxLen; omega) (Nat.le_refl _) ?_)
  intro w3 hown3 hgrow3
  rw [toList_madeCells_one] at hown3
  have HS0 := Lib.hid (FrS.start HOB.out HB1.out HPV.out HB2.out hgb hown3 hgrow3)
  obtain ⟨g, hg⟩ : ∃ g, w2.heap.size = g := ⟨_, rfl⟩
  rw [hg] at HS0 ⊢
  clear hown3 hgrow3 HOB HB1 HPV HB2 hg hgb
  generalize List.replicate n (Value.slice none 0 0) = vs0 at HS0
  go_wp2_with fail
  go_loopw [38] (fun ix wr => ∃ (k : Nat) (vs : List Value), k ≤ n ∧ ix = .int .i64 (k : Int) ∧ Hid (FrS 205 w n n g gb (.slice (some PA) 61 pc) inb (FF k) vs wr)) (fun ix _ => n - (intOf ix).toNat)
  case atStart => exact ⟨0, vs0, Nat.zero_le _, rfl, by rw [HA0.out]; exact HS0⟩
  case round =>
    obtain ⟨k, vs, hk, rfl, HS⟩ := hrel
    obtain ⟨wo, rfl⟩ : ∃ wo : World, wo = wr := ⟨_, rfl⟩
    rcases Nat.lt_or_ge k n with hlt | hge
    · obtain ⟨t, ht⟩ : ∃ t, L[k]? = some t := ⟨_, List.getElem?_eq_getElem (by omega)⟩
      have HNr := HN.out.keep (fun p hp => HS.out.bel.cell hp)
      obtain ⟨ad, vv, kv, av, rfl, had, htv, a0, a1, a2, a3, a4, a5, a6, a7⟩ := HNr.at8 ht
      obtain ⟨VA, vc, rfl, _, _⟩ := htv.v.len
      obtain ⟨KA, kc, rfl, _, _⟩ := htv.k.len
      obtain ⟨AA, ac, rfl, ha1, ha2⟩ := htv.a.len
      have lv := htv.lv
      have lk := htv.lk
      have la := htv.la
      have HTV := Lib.hid htv
      obtain ⟨W1, hW⟩ : ∃ W1, wo.alloc (BoxT t (.slice VA t.vars.length vc) (.slice KA t.keys.length kc) (.slice AA t.args.length ac)) = W1 := ⟨_, rfl⟩
      have hbw : Below wo.heap.size wo W1 := by rw [← hW]; exact (Below.refl _ _).alloc (Nat.le_refl _) _
      have HBX := Lib.hid (show Blk W1 wo.heap.size 69 #[.int .i64 t.k, .int .i64 t.n, .int .i64 t.i, .int .u64 t.b, .string ⟨t.t.toArray⟩, .slice VA t.vars.length vc, .slice KA t.keys.length kc, .slice AA t.args.length ac] by rw [← hW]; exact Blk.new _ _ _)
      have HS1 := Lib.hid (HS.out.below hbw)
      have cin := HS1.out.made hlt
      unfold BoxT at hW
      have hkL : (k : Int) < (L.length : Int) := by omega
      have hkn : (k : Int) < (n : Int) := by omega
      have hkr : (k : Int) < (root : Int) + 1 := by omega
      clear htv HNr hbw
      cases hin : inb k
      · rw [hin] at cin
        have HE := Lib.hid (HAS.out k t ht hin)
        clear ht hin
        go_wp2_with fail
        go_roundw
        case rel => exact ⟨k + 1, vs, by omega, by go_num, by rw [HE.out]; exact HS1⟩
        case measure => simp [intOf]; omega
      · rw [hin] at cin
        have HE := Lib.hid (HAN.out k t ht hin)
        obtain ⟨RR, hRR⟩ : ∃ RR, freeArgs (FF k) t k 0 t.args (freeHead prims t) = RR := ⟨_, rfl⟩
        rw [hRR] at HE
        have HMT := Lib.hid (List.mem_of_getElem? ht)
        have HHI := Lib.hid (head_in small_prims HMT.out)
        have HQ := Lib.hid (show freeArgs (FF k) t k 0 (t.args.drop 0) (freeHead prims t) = RR from hRR)
        have HZ := Lib.hid (HAB.out k)
        have c0 : W1.cell? ⟨wo.heap.size, 0, none⟩ = some (.int .i64 t.k) := HBX.out.cell 0
        have c1 : W1.cell? ⟨wo.heap.size, 1, none⟩ = some (.int .i64 t.n) := HBX.out.cell 1
        clear ht hin hRR
        go_upto_if 50 with fail
        go_cut [38] from 38 to 125 (fun ix wx => ix = .int .i64 (k : Int) ∧ ∃ vs1 : List Value, Hid (FrS 205 w n n g gb (.slice (some PA) 61 pc) inb (updL (FF k) k (if t.k = 1 then [t.n] else [])) vs1 wx) ∧ Hid (Blk wx wo.heap.size 69 #[.int .i64 t.k, .int .i64 t.n, .int .i64 t.i, .int .u64 t.b, .string ⟨t.t.toArray⟩, .slice VA t.vars.length vc, .slice KA t.keys.length kc, .slice AA t.args.length ac]))
        case first =>
          by_cases k1 : t.k = 1
          · have q1 := b_true k1
            have hba : Below W1.heap.size W1 (W1.alloc (.cells #[.int .i64 t.n] 3)) := (Below.refl _ _).alloc (Nat.le_refl _) _
            have HS2 := Lib.hid (HS1.out.below hba)
            obtain ⟨v0, _, cv, fv, _⟩ := HS2.out.at_ hlt
            have HS3 := Lib.hid (HS2.out.store hlt (u := .slice (some ⟨W1.heap.size, 0, none⟩) 1 1) ((one_IV W1 t.n).more (by simp)))
            have hgS : g < wo.heap.size := HS.out.lt
            have HX3 := Lib.hid ((HBX.out.alloc (.cells #[.int .i64 t.n] 3)).far (p := ⟨g, k, none⟩) (by show wo.heap.size ≠ g; omega) (.slice (some ⟨W1.heap.size, 0, none⟩) 1 1))
            have HK1 := Lib.hid k1
            clear k1 hba
            go_wp2_with fail
            go_meet
            case rel => exact ⟨rfl, _, by rw [if_pos HK1.out]; exact HS3, HX3⟩
          · have q1 := b_false k1
            have HK1 := Lib.hid k1
            clear k1
            go_wp2_with fail
            go_meet
            case rel => exact ⟨rfl, vs, by rw [if_neg HK1.out]; exact HS1.out.cast (updL_id HZ.out).symm, HBX⟩
        case rest =>
          obtain ⟨rfl, vs1, HS4, HX4⟩ := hcut
          clear cin c0 c1
          have c0 : wc.cell? ⟨wo.heap.size, 0, none⟩ = some (.int .i64 t.k) := HX4.out.cell 0
          have c1 : wc.cell? ⟨wo.heap.size, 1, none⟩ = some (.int .i64 t.n) := HX4.out.cell 1
          go_upto_region 12 with fail
          obtain ⟨wd, hwd⟩ : ∃ wd, wd = wc := ⟨_, rfl⟩
          go_cut [38, 71] from 38 to 125 (fun ix bx wx => ix = .int .i64 (k : Int) ∧ (∃ bb : Bool, bx = .bool bb ∧ Hid (decide (t.k = 15 ∧ 0 ≤ t.n ∧ t.n < 61) = bb)) ∧ wx = wd)
          case first =>
            have HWD := Lib.hid hwd
            clear hwd
            by_cases k15 : t.k = 15
            · have q15 := b_true k15
              by_cases n0 : 0 ≤ t.n
              · have r0 := decide_eq_true n0
                by_cases n61 : t.n < 61
                · have r1 := decide_eq_true n61
                  have HD := Lib.hid (decide_eq_true (show t.k = 15 ∧ 0 ≤ t.n ∧ t.n < 61 from ⟨k15, n0, n61⟩))
                  clear k15 n0 n61
                  go_wp2_with fail
                  go_meet
                  case rel => exact ⟨rfl, ⟨_, rfl, HD⟩, HWD.out.symm⟩
                · have r1 := decide_eq_false n61
                  have HD := Lib.hid (decide_eq_false (show ¬ (t.k = 15 ∧ 0 ≤ t.n ∧ t.n < 61) from fun h => n61 h.2.2))
                  clear k15 n0 n61
                  go_wp2_with fail
                  go_meet
                  case rel => exact ⟨rfl, ⟨_, rfl, HD⟩, HWD.out.symm⟩
              · have r0 := decide_eq_false n0
                have HD := Lib.hid (decide_eq_false (show ¬ (t.k = 15 ∧ 0 ≤ t.n ∧ t.n < 61) from fun h => n0 h.2.1))
                clear k15 n0
                go_wp2_with fail
                go_meet
                case rel => exact ⟨rfl, ⟨_, rfl, HD⟩, HWD.out.symm⟩
            · have q15 := b_false k15
              have HD := Lib.hid (decide_eq_false (show ¬ (t.k = 15 ∧ 0 ≤ t.n ∧ t.n < 61) from fun h => k15 h.1))
              clear k15
              go_wp2_with fail
              go_meet
              case rel => exact ⟨rfl, ⟨_, rfl, HD⟩, HWD.out.symm⟩
          case rest =>
            obtain ⟨rfl, ⟨bb, rfl, HBB⟩, hwe⟩ := hcut
            subst hwd
            subst hwe
            go_upto_if 71 with fail
            go_cut [38] from 38 to 125 (fun ix wx => ix = .int .i64 (k : Int) ∧ ∃ vs2 : List Value, Hid (FrS 205 w n n g gb (.slice (some PA) 61 pc) inb (updL (FF k) k (freeHead prims t)) vs2 wx) ∧ Hid (Blk wx wo.heap.size 69 #[.int .i64 t.k, .int .i64 t.n, .int .i64 t.i, .int .u64 t.b, .string ⟨t.t.toArray⟩, .slice VA t.vars.length vc, .slice KA t.keys.length kc, .slice AA t.args.length ac]))
            case first =>
              by_cases hp : t.k = 15 ∧ 0 ≤ t.n ∧ t.n < 61
              · obtain rfl : bb = true := by rw [← HBB.out]; exact decide_eq_true hp
                clear HBB
                obtain ⟨hk15, hn0, hn61⟩ := hp
                obtain ⟨y, hy⟩ : ∃ y : Nat, t.n = (y : Int) := ⟨t.n.toNat, by omega⟩
                obtain ⟨p, hpt⟩ : ∃ p, primTab[y]? = some p := ⟨_, List.getElem?_eq_getElem (by rw [primTab_len]; omega)⟩
                have HHP := Lib.hid (show freeHead prims t = p.raises from head_prim small_prims hk15 hn0 (by rw [hy, Int.toNat_natCast]; exact prims_at hpt))
                have HSM := Lib.hid (HHI.out)
                rw [HHP.out] at HSM
                have HRY := Lib.hid HSM.out.len
                have hrb : p.raises.length ≤ 9223372036854775807 := by have := HRY.out; omega
                have HS5 := Lib.hid (show FrS 205 w n n g gb (.slice (some PA) 61 pc) inb (updL (FF k) k (p.raises.take 0)) vs1 wc by have := HS4.out; rw [if_neg (by omega)] at this; exact this)
                obtain ⟨ty, rv, _, hrv, _, _, _, _, cr⟩ := HS4.out.prv.at_ hpt
                replace cr := spell8 (j := 3) cr
                obtain ⟨RA, rc, rfl, hr1, hr2⟩ := hrv.len
                have HRV := Lib.hid hrv
                rw [hy] at c1
                have hy0 : (y : Int) < 61 := by omega
                clear hk15 hn0 hn61 hy hpt hrv HS4 hr1 hr2
                go_wp2_with fail
                go_loopw [79] (fun jx wr => ∃ (j : Nat) (vs2 : List Value), j ≤ p.raises.length ∧ jx = .int .i64 (j : Int) ∧ Hid (FrS 205 w n n g gb (.slice (some PA) 61 pc) inb (updL (FF k) k (p.raises.take j)) vs2 wr) ∧ Hid (Blk wr wo.heap.size 69 #[.int .i64 t.k, .int .i64 t.n, .int .i64 t.i, .int .u64 t.b, .string ⟨t.t.toArray⟩, .slice VA t.vars.length vc, .slice KA t.keys.length kc, .slice AA t.args.length ac]) ∧ Hid (IV wr g (.slice RA p.raises.length rc) p.raises)) (fun jx _ => p.raises.length - (intOf jx).toNat)
                case atStart => exact ⟨0, _, Nat.zero_le _, rfl, HS5, HX4, HRV⟩
                case round =>
                  obtain ⟨j, vs2, hj, rfl, HS6, HX6, HR6⟩ := hrel
                  rcases Nat.lt_or_ge j p.raises.length with hjl | hjg
                  · obtain ⟨a, ha⟩ : ∃ a, p.raises[j]? = some a := ⟨_, List.getElem?_eq_getElem hjl⟩
                    obtain ⟨aa, rfl, haa, ca⟩ := HR6.out.at_ ha
                    have hj1 : (j : Int) < (p.raises.length : Int) := by omega
                    have HTK := Lib.hid (show p.raises.take (j + 1) = p.raises.take j ++ [a] by rw [List.take_add_one, ha]; rfl)
                    have hlt2 := ss_take_lt HSM.out.ss ha
                    have hst := ss_take HSM.out.ss j
                    obtain ⟨vi, _, ci, fi, hvi⟩ := HS6.out.at_ (i := k) hlt
                    rw [updL_at] at hvi
                    obtain ⟨IA, ic, rfl, hi1, hi2⟩ := hvi.len
                    have HWI := Lib.hid (lwith_any (p.raises.take j) _ a wr hst (by have := List.length_take_le j p.raises; have := HRY.out; omega) hvi hlt2)
                    have hgS : g < wo.heap.size := HS.out.lt
                    clear ha hlt2 hst hvi hi1 hi2
                    generalize p.raises.take j = lj at HS6 HTK HWI ci ⊢
                    go_wp2_with (go_at_call 156; ((with_reducible refine (HWI.out).mono ?_); rintro e w7 ⟨uv, rfl, huv, hb7⟩; obtain ⟨UA, un, uc, rfl⟩ := huv.shape; have HS7 := Lib.hid (HS6.out.below hb7); obtain ⟨v7, _, c7, f7, _⟩ := HS7.out.at_ (i := k) hlt; have HS8 := Lib.hid ((HS7.out.store hlt huv).cast updL_two); have HX8 := Lib.hid ((HX6.out.below hb7 HX6.out.lt).far (p := ⟨g, k, none⟩) (by show wo.heap.size ≠ g; omega) (.slice UA un uc)); have HR8 := Lib.hid (HR6.out.keep (w' := w7.setCell ⟨g, k, none⟩ (.slice UA un uc)) (fun q hq => (World.cell?_setCell_other w7 _ q _ (fun e => by subst e; exact Nat.lt_irrefl _ hq)).trans (hb7.cell (Nat.lt_trans hq HS6.out.lt)))); clear huv hb7))
                    go_roundw
                    case rel => exact ⟨j + 1, _, by omega, by go_num, by rw [HTK.out]; exact HS8, HX8, HR8⟩
                    case measure => simp [intOf]; omega
                  · obtain rfl : j = p.raises.length := by omega
                    have q0 : (p.raises.length : Int) ≤ (p.raises.length : Int) := Int.le_refl _
                    have HS7 := Lib.hid (show FrS 205 w n n g gb (.slice (some PA) 61 pc) inb (updL (FF k) k p.raises) vs2 wr by have := HS6.out; rw [List.take_length] at this; exact this)
                    clear hjg hj
                    go_wp2_with fail
                    go_meet
                    case rel => exact ⟨rfl, vs2, by rw [HHP.out]; exact HS7, HX6⟩
              · obtain rfl : bb = false := by rw [← HBB.out]; exact decide_eq_false hp
                clear HBB
                have HHE := Lib.hid (head_no hp)
                have HS5 := Lib.hid (HS4.out.cast (F' := updL (FF k) k (freeHead prims t)) (by rw [HHE.out]))
                clear hp
                go_wp2_with fail
                go_meet
                case rel => exact ⟨rfl, vs1, HS5, HX4⟩
            case rest =>
              obtain ⟨rfl, vs2, HS5, HX5⟩ := hcut
              clear c0 c1 HS4 HX4 HBB
              have b7 : wc.cell? ⟨wo.heap.size, 7, none⟩ = some (.slice AA t.args.length ac) := HX5.out.cell 7
              go_wp2_with fail
              go_loopw [96] (fun jx wr => ∃ (m : Nat) (vs2 : List Value) (acc : List Int), m ≤ t.args.length ∧ jx = .int .i64 (m : Int) ∧ Hid (In L acc) ∧ Hid (freeArgs (FF k) t k m (t.args.drop m) acc = RR) ∧ Hid (FrS 205 w n n g gb (.slice (some PA) 61 pc) inb (updL (FF k) k acc) vs2 wr) ∧ Hid (Blk wr wo.heap.size 69 #[.int .i64 t.k, .int .i64 t.n, .int .i64 t.i, .int .u64 t.b, .string ⟨t.t.toArray⟩, .slice VA t.vars.length vc, .slice KA t.keys.length kc, .slice AA t.args.length ac])) (fun jx _ => t.args.length - (intOf jx).toNat)
              case atStart => exact ⟨0, _, (freeHead prims t), Nat.zero_le _, rfl, HHI, HQ, HS5, HX5⟩
              case round =>
                obtain ⟨m, vs2, acc, hm, rfl, HI2, HQ2, HS2, HX2⟩ := hrel
                rcases Nat.lt_or_ge m t.args.length with hmlt | hmge
                · obtain ⟨a, ha⟩ : ∃ a, t.args[m]? = some a := ⟨_, List.getElem?_eq_getElem hmlt⟩
                  have htv2 := HTV.out.keep (w' := wr) (fun p hp => (HS2.out.bel.cell hp).trans (HS.out.bel.cell hp).symm)
                  obtain ⟨aa, rfl, haa, ca2⟩ := htv2.a.at_ ha
                  have hra := HTV.out.ra a (List.mem_of_getElem? ha)
                  have hq2 := HQ2.out
                  rw [drop_at ha, args_step] at hq2
                  have hm1 : (m : Int) < (t.args.length : Int) := by omega
                  clear ha
                  by_cases h1 : a < 0
                  · rw [if_pos (.inl h1)] at hq2
                    have HQ3 := Lib.hid hq2
                    have q1 : decide (0 ≤ a) = false := decide_eq_false (by omega)
                    clear hq2 h1 htv2
                    go_wp2_with fail
                    go_roundw
                    case rel => exact ⟨m + 1, vs2, acc, by omega, by go_num, HI2, HQ3, HS2, HX2⟩
                    case measure => simp [intOf]; omega
                  · by_cases h2 : (k : Int) ≤ a
                    · rw [if_pos (.inr h2)] at hq2
                      have HQ3 := Lib.hid hq2
                      have q1 : decide (0 ≤ a) = true := decide_eq_true (by omega)
                      have q2 : decide (a < (k : Int)) = false := decide_eq_false (by omega)
                      clear hq2 h1 h2 htv2
                      go_wp2_with fail
                      go_roundw
                      case rel => exact ⟨m + 1, vs2, acc, by omega, by go_num, HI2, HQ3, HS2, HX2⟩
                      case measure => simp [intOf]; omega
                    · rw [if_neg (by rintro (h | h) <;> omega)] at hq2
                      obtain ⟨x, rfl⟩ : ∃ x : Nat, a = (x : Int) := ⟨a.toNat, by omega⟩
                      rw [Int.toNat_natCast] at hq2
                      have HQ3 := Lib.hid hq2
                      have q1 : decide (0 ≤ (x : Int)) = true := decide_eq_true (by omega)
                      have q2 : decide ((x : Int) < (k : Int)) = true := decide_eq_true (by omega)
                      have hxk : x < k := by omega
                      have hxn0 : x < n := by omega
                      have hxn : (x : Int) < (n : Int) := by omega
                      obtain ⟨vi, ki, ci, fi, hvi⟩ := HS2.out.at_ (i := k) hlt
                      obtain ⟨vx, kx, cx, _, hvx⟩ := HS2.out.at_ (i := x) hxn0
                      rw [updL_at] at hvi
                      rw [updL_ne (by omega)] at hvx
                      obtain ⟨IA, ic, rfl, hi1, hi2⟩ := hvi.len
                      obtain ⟨XA, xc, rfl, hx1, hx2⟩ := hvx.len
                      have HIX := Lib.hid (HALL.out k x)
                      have hla := HI2.out.len
                      have hlx := HIX.out.len
                      have HBD := Lib.hid (lbound_any t _ _ _ m wr.drew (TV.below (htv2.more (B' := wr.heap.size) (by have := HS2.out.bel.size; omega)) (Below.drew (Below.refl _ _))))
                      obtain ⟨bl, hbl⟩ : ∃ b, boundAt t m = b := ⟨_, rfl⟩
                      rw [hbl] at HBD HQ3
                      unfold tmVals at HBD
                      have HWO := Lib.hid (fun w' vb (h1 : IV w' w'.heap.size (.slice XA (FF k x).length xc) (FF k x)) (h2 : IV w' w'.heap.size vb bl) => lwout_any (FF k x) bl _ vb w' HIX.out.ss (by omega) h1 h2)
                      have HUN := Lib.hid (fun w' vb (h1 : IV w' w'.heap.size (.slice IA acc.length ic) acc) (h2 : IV w' w'.heap.size vb (wout (FF k x) bl)) => lunion_any acc (wout (FF k x) bl) _ vb w' HI2.out.ss (HIX.out.wout bl).ss (by omega) (by have := wout_len (FF k x) bl; omega) h1 h2)
                      have HS2D := Lib.hid HS2.out.drew
                      have HX2D := Lib.hid HX2.out.drew
                      have HVI := Lib.hid hvi.drew
                      have HVX := Lib.hid hvx.drew
                      have HKI := Lib.hid ki
                      have HKX := Lib.hid kx
                      have K2 := Lib.hid (keep10 HS2D.out HX2D.out ki kx hlt hxn0)
                      have HI3 := Lib.hid (HI2.out.mrg (HIX.out.wout bl).sub)
                      have hgS : g < wo.heap.size := HS.out.lt
                      have b0 : wr.cell? ⟨wo.heap.size, 0, none⟩ = some (.int .i64 t.k) := HX2.out.cell 0
                      have b1 : wr.cell? ⟨wo.heap.size, 1, none⟩ = some (.int .i64 t.n) := HX2.out.cell 1
                      have b2 : wr.cell? ⟨wo.heap.size, 2, none⟩ = some (.int .i64 t.i) := HX2.out.cell 2
                      have b3 : wr.cell? ⟨wo.heap.size, 3, none⟩ = some (.int .u64 t.b) := HX2.out.cell 3
                      have b4 : wr.cell? ⟨wo.heap.size, 4, none⟩ = some (.string ⟨t.t.toArray⟩) := HX2.out.cell 4
                      have b5 : wr.cell? ⟨wo.heap.size, 5, none⟩ = some (.slice VA t.vars.length vc) := HX2.out.cell 5
                      have b6 : wr.cell? ⟨wo.heap.size, 6, none⟩ = some (.slice KA t.keys.length kc) := HX2.out.cell 6
                      have b7' : wr.cell? ⟨wo.heap.size, 7, none⟩ = some (.slice (some aa) t.args.length ac) := HX2.out.cell 7
                      clear hq2 h1 h2 htv2 hvi hvx hbl hi1 hi2 hx1 hx2 ki kx
                      go_wp2_with fail
                      go_region_with
                        (first
                          | (go_at_call 159; ((with_reducible refine (HBD.out).mono ?_); rintro e w3 ⟨bv, rfl, hbv, hb3⟩; have HBV := Lib.hid hbv; have HS3 := Lib.hid (HS2D.out.below hb3); have HX3 := Lib.hid (HX2D.out.below hb3 HX2D.out.lt); have HVI3 := Lib.hid (HVI.out.below hb3); have HVX3 := Lib.hid (HVX.out.below hb3); have K3 := Lib.hid (keep10 HS3.out HX3.out HKI.out HKX.out hlt hxn0); have ck3 := K3.out; obtain ⟨d0, d1, d2, d3, d4, d5, d6, d7, d8, d9⟩ := ck3; clear hbv hb3))
                          | (go_at_call 158; ((with_reducible refine (HWO.out _ _ HVX3.out HBV.out).mono ?_); rintro e w4 ⟨wv, rfl, hwv, hb4⟩; have HWV := Lib.hid hwv; have HS4 := Lib.hid (HS3.out.below hb4); have HX4 := Lib.hid (HX3.out.below hb4 HX3.out.lt); have HVI4 := Lib.hid (HVI3.out.below hb4); have K4 := Lib.hid (keep10 HS4.out HX4.out HKI.out HKX.out hlt hxn0); have ck4 := K4.out; obtain ⟨e0, e1, e2, e3, e4, e5, e6, e7, e8, e9⟩ := ck4; clear hwv hb4))
                          | (go_at_call 157; ((with_reducible refine (HUN.out _ _ HVI4.out HWV.out).mono ?_); rintro e w5 ⟨uv, rfl, huv, hb5⟩; obtain ⟨UA, uc, rfl, _, _⟩ := huv.len; have HS5 := Lib.hid (HS4.out.below hb5); have HX5 := Lib.hid (HX4.out.below hb5 HX4.out.lt); have K5 := Lib.hid (keep10 HS5.out HX5.out HKI.out HKX.out hlt hxn0); have f5 := World.ownsRow.frozenAt HS5.out.row k; have c5 := HS5.out.cell_ HKI.out hlt; have HS6 := Lib.hid ((HS5.out.store hlt huv).cast updL_two); have HX6 := Lib.hid (HX5.out.far (p := ⟨g, k, none⟩) (by show wo.heap.size ≠ g; omega) (.slice UA (mrg acc (wout (FF k x) bl)).length uc)); have K6 := Lib.hid (keep9 HS6.out HX6.out (by rw [List.getElem?_set_ne (by omega)]; exact HKX.out) hxn0); clear huv hb5)))
                      all_goals
                        go_wp2_with fail
                        go_roundw
                        case rel => exact ⟨m + 1, _, _, by omega, by go_num, HI3, HQ3, HS6, HX6⟩
                        case measure => simp [intOf]; omega
                · obtain rfl : m = t.args.length := by omega
                  have HRR := Lib.hid (show acc = RR by have := HQ2.out; rw [List.drop_length] at this; exact this)
                  have q0 : (t.args.length : Int) ≤ (t.args.length : Int) := Int.le_refl _
                  clear hmge hm
                  go_wp2_with fail
                  go_roundw
                  case rel => exact ⟨k + 1, vs2, by omega, by go_num, by rw [HE.out, ← HRR.out]; exact HS2⟩
                  case measure => simp [intOf]; omega
    · obtain rfl : k = root + 1 := by omega
      obtain ⟨v0, _, c0, _, hv0⟩ := HS.out.at_ (i := root) (by omega)
      rw [HFO.out] at hv0
      have hlr := (HALL.out (root + 1) root).len
      rw [HFO.out] at hlr
      obtain ⟨IA, un, uc, rfl⟩ := hv0.shape
      have HCL := Lib.hid (clone_any R0 _ wo (by omega) hv0)
      have HSO := Lib.hid HS.out.bel
      have hrn : (root : Int) < (n : Int) := by omega
      have q0 : (root : Int) + 1 ≤ ((root + 1 : Nat) : Int) := by omega
      clear hv0 hlr hge hk
      go_wp2_with (go_at_call 160; ((with_reducible refine (HCL.out).mono ?_); rintro e w9 ⟨v9, rfl, ho9, hb9⟩; have HO9 := Lib.hid ho9.iv; have HB9 := Lib.hid (HSO.out.trans (hb9.mono HSO.out.size)); clear ho9 hb9))
      go_ret
      exact ⟨_, rfl, HO9.out, HB9.out⟩
end Go.Proofs.YtikkmalhdidhaaaGreatDoor
