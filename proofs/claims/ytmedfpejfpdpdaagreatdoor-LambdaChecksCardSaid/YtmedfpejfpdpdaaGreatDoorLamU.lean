/- Lambda: Free, the reference's way. -/
import Derived.Test.YtmedfpejfpdpdaaGreatDoorLamS
import Derived.Test.YtmedfpejfpdpdaaGreatDoorLamRW
namespace LamM
theorem ins_end : ∀ {s : List Int} {v : Int}, (∀ x ∈ s, x < v) → ins v s = s ++ [v]
  | [], _, _ => rfl
  | x :: s, v, h => by
    have h1 := h x List.mem_cons_self
    unfold ins
    rw [if_neg (by omega), if_neg (by omega), ins_end (fun y hy => h y (List.mem_cons_of_mem _ hy))]
    rfl
theorem ins_nil (v : Int) : ins v [] = [v] := rfl
end LamM
namespace Go.Proofs.YtmedfpejfpdpdaaGreatDoor
open Go.RowKit LamM

theorem infoIs : (Tryz.prog.info? 25).map (fun i => (i.zero, i.size, i.bytes)) = some (some (.slice none 0 0), 1, 24) := by kernel_rfl
theorem undIs : Tryz.prog.underlying 51 = some (.slice 25) := by kernel_rfl
theorem FrS.start2 {E : TypeId} {w w2 w3 : World} {n n' gb : Nat} {pv : Value} {inb : Nat → Bool} (hob : w2.ownsRow gb 4 1 (.slice (some ⟨gb, 0, none⟩) n' n') n' (boolVals n' inb)) (hb2 : Below w.heap.size w w2)
    (hpv : PV w2 w2.heap.size pv primTab) (hgb : w.heap.size ≤ gb) (hw3 : w3.ownsRow w2.heap.size E 1 (.slice (some ⟨w2.heap.size, 0, none⟩) n n) n (List.replicate n (.slice none 0 0))) (hg3 : w2.grownBy w3 none) :
    FrS E w n n' w2.heap.size gb pv inb (fun _ => []) (List.replicate n (.slice none 0 0)) w3 := by
  have hb3 : Below w2.heap.size w2 w3 := (Below.refl _ _).grown hg3 (Nat.le_refl _) (fun k hk => by cases hk)
  have h1 := (World.ownsRow.lt hob gb rfl).2
  refine ⟨ownsRow_below hob hb3, hpv.keep (fun p hp => hb3.cell hp), hw3, by simp, fun j v hj => ?_, hb2.trans (hb3.mono hb2.size), h1, hgb⟩
  rw [List.getElem?_replicate] at hj
  split at hj
  · rw [← Option.some.inj hj]; exact nil_IV _ _
  · cases hj
set_option maxRecDepth 100000 in
set_option maxHeartbeats 8000000 in
theorem rfree_in (L : List Tm) (A : Option Addr) (c n root : Nat) (w : World) (hr : root < L.length) (hn : n = root + 1) (hN : NV w w.heap.size (.slice A L.length c) L) :
    Calls Tryz.prog 5 #[.slice A L.length c, .int .i64 (root : Int)] w (GivesI w (freeOf prims L root)) := by
  obtain ⟨i0, hi0, hz0, hz1, hz2⟩ := info_parts infoIs
  obtain ⟨A', c', e, hc1, hc2⟩ := hN.len
  injection e with e1 e2 e3
  subst e1 e3
  have HBL := Lib.hid (fun w1 (h : NV w1 w1.heap.size (.slice A L.length c) L) => rbelow_any L A c root w1 hr h)
  have HPR := Lib.hid (prims_any w)
  have HN := Lib.hid hN
  have HALL := Lib.hid (fun i j => all_in small_prims (below L root).1 L i j)
  have hnr : n ≤ L.length := by omega
  have hn1 : n ≤ root + 1 := by omega
  have hn2 : root + 1 ≤ n := by omega
  have hrl : (root : Int) < (L.length : Int) := by omega
  have hLn : L.length ≤ 1300000000000 := by omega
  have HFO := Lib.hid (show freeAll prims (below L root).1 L (root + 1) root = freeOf prims L root from rfl)
  obtain ⟨R0, hR0⟩ : ∃ R0, freeOf prims L root = R0 := ⟨_, rfl⟩
  rw [hR0] at HFO ⊢
  unfold BelowPost at HBL
  obtain ⟨inb, hinb⟩ : ∃ b, (below L root).1 = b := ⟨_, rfl⟩
  rw [hinb] at HBL HFO HALL
  generalize (below L root).2 = ok at HBL
  have HAN := Lib.hid (fun i t (h : L[i]? = some t) (hb : inb i = true) => all_node (prims := prims) h hb)
  have HAS := Lib.hid (fun i t (h : L[i]? = some t) (hb : inb i = false) => all_skip (prims := prims) h hb)
  have HA0 := Lib.hid (show freeAll prims inb L 0 = fun _ => [] from rfl)
  have HAB := Lib.hid (fun i => all_beyond (prims := prims) (inb := inb) (L := L) (Nat.le_refl i))
  obtain ⟨FF, hFF⟩ : ∃ F, freeAll prims inb L = F := ⟨_, rfl⟩
  rw [hFF] at HFO HALL HAN HAS HA0 HAB
  clear hN hn hR0 hinb hFF
  go_enter Tryz.func5, Tryz.ntmps5
  go_wp2_with fail
  go_at_call 10
  (with_reducible refine (HPR.out).mono ?_)
  rintro e w1 ⟨pv, rfl, hpv, hb1⟩
  obtain ⟨PA, pc, hpe, hpc1, hpc2⟩ := hpv.len
  rw [primTab_len] at hpe
  subst hpe
  have HPV := Lib.hid hpv
  have HB1 := Lib.hid hb1
  have HBL1 := Lib.hid (HBL.out w1 (NV.below HN.out hb1))
  clear hpv hb1 HPR HBL
  go_wp2_with fail
  go_at_call 16
  (with_reducible refine (HBL1.out).mono ?_)
  rintro e w2 ⟨gb, rfl, hgb, hob, hb2⟩
  have HOB := Lib.hid hob
  have HPV2 := Lib.hid (PV.below HPV.out hb2)
  have HB2 := Lib.hid (HB1.out.trans (hb2.mono HB1.out.size))
  have hgb2 : w.heap.size ≤ gb := Nat.le_trans HB1.out.size hgb
  clear hob hb2 hgb HBL1 HPV HB1
  go_wp2_with (refine wpList_make_full _ rfl _ _ _ rfl w2.heap.size 25 i0 (.slice none 0 0) 1 undIs hi0 hz0 hz1 _ _ _ _ n rfl rfl (by omega) (by omega) (by rw [hz2]; omega) (by unfold maxLen; omega) (Nat.le_refl _) ?_)
  intro w3 hown3 hgrow3
  rw [toList_madeCells_one] at hown3
  have HS0 := Lib.hid (FrS.start2 HOB.out HB2.out HPV2.out hgb2 hown3 hgrow3)
  obtain ⟨g, hg⟩ : ∃ g, w2.heap.size = g := ⟨_, rfl⟩
  rw [hg] at HS0 ⊢
  clear hown3 hgrow3 HOB HB2 HPV2 hg hgb2
  generalize List.replicate n (Value.slice none 0 0) = vs0 at HS0
  go_wp2_with fail
  go_loopw [9] (fun ix wr => ∃ (k : Nat) (vs : List Value), k ≤ n ∧ ix = .int .i64 (k : Int) ∧ Hid (FrS 25 w n L.length g gb (.slice (some PA) 61 pc) inb (FF k) vs wr)) (fun ix _ => n - (intOf ix).toNat)
  case atStart => exact ⟨0, vs0, Nat.zero_le _, rfl, by rw [HA0.out]; exact HS0⟩
  case round =>
    obtain ⟨k, vs, hk, rfl, HS⟩ := hrel
    obtain ⟨wo, rfl⟩ : ∃ wo : World, wo = wr := ⟨_, rfl⟩
    rcases Nat.lt_or_ge k n with hlt | hge
    · obtain ⟨t, ht⟩ : ∃ t, L[k]? = some t := ⟨_, List.getElem?_eq_getElem (by omega)⟩
      have HNr := HN.out.keep (fun p hp => HS.out.bel.cell hp)
      obtain ⟨ad, vv, kv, av, rfl, had, htv, a0, a1, a2, a3, a4, a5, a6, a7⟩ := HNr.at8 ht
      obtain ⟨VA, vc, rfl, _, _⟩ := htv.v.len
      obtain ⟨KA, kc, rfl, _, _⟩ := htv.k.len
      obtain ⟨AA, ac, rfl, ha1, ha2⟩ := htv.a.len
      have lv := htv.lv
      have lk := htv.lk
      have la := htv.la
      have HTV := Lib.hid htv
      obtain ⟨W1, hW⟩ : ∃ W1, wo.alloc (BoxT t (.slice VA t.vars.length vc) (.slice KA t.keys.length kc) (.slice AA t.args.length ac)) = W1 := ⟨_, rfl⟩
      have hbw : Below wo.heap.size wo W1 := by rw [← hW]; exact (Below.refl _ _).alloc (Nat.le_refl _) _
      have HBX := Lib.hid (show Blk W1 wo.heap.size 42 #[.int .i64 t.k, .int .i64 t.n, .int .i64 t.i, .int .u64 t.b, .string ⟨t.t.toArray⟩, .slice VA t.vars.length vc, .slice KA t.keys.length kc, .slice AA t.args.length ac] by rw [← hW]; exact Blk.new _ _ _)
      have HS1 := Lib.hid (HS.out.below hbw)
      have cin := HS1.out.made (i := k) (by omega)
      unfold BoxT at hW
      have hkL : (k : Int) < (L.length : Int) := by omega
      have hkn : (k : Int) < (n : Int) := by omega
      have hkr : (k : Int) ≤ (root : Int) := by omega
      clear htv HNr hbw
      cases hin : inb k
      · rw [hin] at cin
        have HE := Lib.hid (HAS.out k t ht hin)
        clear ht hin
        go_wp2_with fail
        go_roundw
        case rel => exact ⟨k + 1, vs, by omega, by go_num, by rw [HE.out]; exact HS1⟩
        case measure => simp [intOf]; omega
      · rw [hin] at cin
        have HE := Lib.hid (HAN.out k t ht hin)
        obtain ⟨RR, hRR⟩ : ∃ RR, freeArgs (FF k) t k 0 t.args (freeHead prims t) = RR := ⟨_, rfl⟩
        rw [hRR] at HE
        have HMT := Lib.hid (List.mem_of_getElem? ht)
        have HHI := Lib.hid (head_in small_prims HMT.out)
        have HQ := Lib.hid (show freeArgs (FF k) t k 0 (t.args.drop 0) (freeHead prims t) = RR from hRR)
        have HZ := Lib.hid (HAB.out k)
        have hgS : g < wo.heap.size := HS.out.lt
        have c0 : W1.cell? ⟨wo.heap.size, 0, none⟩ = some (.int .i64 t.k) := HBX.out.cell 0
        have c1 : W1.cell? ⟨wo.heap.size, 1, none⟩ = some (.int .i64 t.n) := HBX.out.cell 1
        clear ht hin hRR
        go_upto_if 50 with fail
        go_cut [9] from 34 to 159 (fun ix wx => ix = .int .i64 (k : Int) ∧ ∃ vs1 : List Value, Hid (FrS 25 w n L.length g gb (.slice (some PA) 61 pc) inb (updL (FF k) k (if t.k = 1 then [t.n] else [])) vs1 wx) ∧ Hid (Blk wx wo.heap.size 42 #[.int .i64 t.k, .int .i64 t.n, .int .i64 t.i, .int .u64 t.b, .string ⟨t.t.toArray⟩, .slice VA t.vars.length vc, .slice KA t.keys.length kc, .slice AA t.args.length ac]))
        case first =>
          by_cases k1 : t.k = 1
          · have q1 := b_true k1
            obtain ⟨vi, ki, ci, fi, hvi⟩ := HS1.out.at_ (i := k) hlt
            rw [HZ.out] at hvi
            obtain ⟨IA, un, uc, rfl⟩ := hvi.shape
            have HPU := Lib.hid (rput_any [] _ t.n W1.drew (by simp [SS]) (by simp) hvi.drew)
            rw [ins_nil] at HPU
            have HS1D := Lib.hid HS1.out.drew
            have HXD := Lib.hid HBX.out.drew
            have HK1 := Lib.hid k1
            clear k1 hvi ki
            go_wp2_with fail
            go_region_with
              (first
                | (go_at_call 17; ((with_reducible refine (HPU.out).mono ?_); rintro e w5 ⟨uv, rfl, huv, hb5⟩; obtain ⟨UA, un5, uc5, rfl⟩ := huv.shape; have HS5 := Lib.hid (HS1D.out.below hb5); have HX5 := Lib.hid (HXD.out.below hb5 HXD.out.lt); obtain ⟨v5, _, c5, f5, _⟩ := HS5.out.at_ (i := k) hlt; have HS6 := Lib.hid (HS5.out.store hlt huv); have HX6 := Lib.hid (HX5.out.far (p := ⟨g, k, none⟩) (by show wo.heap.size ≠ g; omega) (.slice UA un5 uc5)); clear huv hb5)))
            all_goals
              go_wp2_with fail
              go_meet
              case rel => exact ⟨rfl, _, by rw [if_pos HK1.out]; exact HS6, HX6⟩
          · have q1 := b_false k1
            have HK1 := Lib.hid k1
            clear k1
            go_wp2_with fail
            go_meet
            case rel => exact ⟨rfl, vs, by rw [if_neg HK1.out]; exact HS1.out.cast (updL_id HZ.out).symm, HBX⟩
        case rest =>
          obtain ⟨rfl, vs1, HS4, HX4⟩ := hcut
          clear cin c0 c1
          have c0 : wc.cell? ⟨wo.heap.size, 0, none⟩ = some (.int .i64 t.k) := HX4.out.cell 0
          have c1 : wc.cell? ⟨wo.heap.size, 1, none⟩ = some (.int .i64 t.n) := HX4.out.cell 1
          go_upto_region 13 with fail
          obtain ⟨wd, hwd⟩ : ∃ wd, wd = wc := ⟨_, rfl⟩
          go_cut [9, 75] from 34 to 159 (fun ix bx wx => ix = .int .i64 (k : Int) ∧ (∃ bb : Bool, bx = .bool bb ∧ Hid (decide (t.k = 15 ∧ 0 ≤ t.n ∧ t.n < 61) = bb)) ∧ wx = wd)
          case first =>
            have HWD := Lib.hid hwd
            clear hwd
            by_cases k15 : t.k = 15
            · have q15 := b_true k15
              by_cases n0 : 0 ≤ t.n
              · have r0 := decide_eq_true n0
                by_cases n61 : t.n < 61
                · have r1 := decide_eq_true n61
                  have HD := Lib.hid (decide_eq_true (show t.k = 15 ∧ 0 ≤ t.n ∧ t.n < 61 from ⟨k15, n0, n61⟩))
                  clear k15 n0 n61
                  go_wp2_with fail
                  go_meet
                  case rel => exact ⟨rfl, ⟨_, rfl, HD⟩, HWD.out.symm⟩
                · have r1 := decide_eq_false n61
                  have HD := Lib.hid (decide_eq_false (show ¬ (t.k = 15 ∧ 0 ≤ t.n ∧ t.n < 61) from fun h => n61 h.2.2))
                  clear k15 n0 n61
                  go_wp2_with fail
                  go_meet
                  case rel => exact ⟨rfl, ⟨_, rfl, HD⟩, HWD.out.symm⟩
              · have r0 := decide_eq_false n0
                have HD := Lib.hid (decide_eq_false (show ¬ (t.k = 15 ∧ 0 ≤ t.n ∧ t.n < 61) from fun h => n0 h.2.1))
                clear k15 n0
                go_wp2_with fail
                go_meet
                case rel => exact ⟨rfl, ⟨_, rfl, HD⟩, HWD.out.symm⟩
            · have q15 := b_false k15
              have HD := Lib.hid (decide_eq_false (show ¬ (t.k = 15 ∧ 0 ≤ t.n ∧ t.n < 61) from fun h => k15 h.1))
              clear k15
              go_wp2_with fail
              go_meet
              case rel => exact ⟨rfl, ⟨_, rfl, HD⟩, HWD.out.symm⟩
          case rest =>
            obtain ⟨rfl, ⟨bb, rfl, HBB⟩, hwe⟩ := hcut
            subst hwd
            subst hwe
            go_upto_if 75 with fail
            go_cut [9] from 34 to 159 (fun ix wx => ix = .int .i64 (k : Int) ∧ ∃ vs2 : List Value, Hid (FrS 25 w n L.length g gb (.slice (some PA) 61 pc) inb (updL (FF k) k (freeHead prims t)) vs2 wx) ∧ Hid (Blk wx wo.heap.size 42 #[.int .i64 t.k, .int .i64 t.n, .int .i64 t.i, .int .u64 t.b, .string ⟨t.t.toArray⟩, .slice VA t.vars.length vc, .slice KA t.keys.length kc, .slice AA t.args.length ac]))
            case first =>
              by_cases hp : t.k = 15 ∧ 0 ≤ t.n ∧ t.n < 61
              · obtain rfl : bb = true := by rw [← HBB.out]; exact decide_eq_true hp
                clear HBB
                obtain ⟨hk15, hn0, hn61⟩ := hp
                obtain ⟨y, hy⟩ : ∃ y : Nat, t.n = (y : Int) := ⟨t.n.toNat, by omega⟩
                obtain ⟨p, hpt⟩ : ∃ p, primTab[y]? = some p := ⟨_, List.getElem?_eq_getElem (by rw [primTab_len]; omega)⟩
                have HHP := Lib.hid (show freeHead prims t = p.raises from head_prim small_prims hk15 hn0 (by rw [hy, Int.toNat_natCast]; exact prims_at hpt))
                have HSM := Lib.hid (HHI.out)
                rw [HHP.out] at HSM
                have HRY := Lib.hid HSM.out.len
                have hrb : p.raises.length ≤ 9223372036854775807 := by have := HRY.out; omega
                have HS5 := Lib.hid (show FrS 25 w n L.length g gb (.slice (some PA) 61 pc) inb (updL (FF k) k (p.raises.take 0)) vs1 wc by have := HS4.out; rw [if_neg (by omega)] at this; exact this)
                have HPT := Lib.hid hpt
                have HYN := Lib.hid hy
                have hy0 : (y : Int) < 61 := by omega
                have HX4Y := HX4
                rw [hy] at HX4Y
                clear hk15 hn0 hn61 hy hpt HS4 HX4 c0 c1
                go_wp2_with fail
                go_loopw [11] (fun jx wr => ∃ (j : Nat) (vs2 : List Value), j ≤ p.raises.length ∧ jx = .int .i64 (j : Int) ∧ Hid (FrS 25 w n L.length g gb (.slice (some PA) 61 pc) inb (updL (FF k) k (p.raises.take j)) vs2 wr) ∧ Hid (Blk wr wo.heap.size 42 #[.int .i64 t.k, .int .i64 (y : Int), .int .i64 t.i, .int .u64 t.b, .string ⟨t.t.toArray⟩, .slice VA t.vars.length vc, .slice KA t.keys.length kc, .slice AA t.args.length ac])) (fun jx _ => p.raises.length - (intOf jx).toNat)
                case atStart => exact ⟨0, _, Nat.zero_le _, rfl, HS5, HX4Y⟩
                case round =>
                  obtain ⟨j, vs2, hj, rfl, HS6, HX6⟩ := hrel
                  obtain ⟨ty, rv, _, hrv, _, _, _, _, cr⟩ := HS6.out.prv.at_ HPT.out
                  replace cr := spell8 (j := 3) cr
                  obtain ⟨RA, rc, rfl, hr1, hr2⟩ := hrv.len
                  have c1 : wr.cell? ⟨wo.heap.size, 1, none⟩ = some (.int .i64 (y : Int)) := HX6.out.cell 1
                  rcases Nat.lt_or_ge j p.raises.length with hjl | hjg
                  · obtain ⟨a, ha⟩ : ∃ a, p.raises[j]? = some a := ⟨_, List.getElem?_eq_getElem hjl⟩
                    obtain ⟨aa, rfl, haa, ca⟩ := hrv.at_ ha
                    have hj1 : (j : Int) < (p.raises.length : Int) := by omega
                    have hlt2 := ss_take_lt HSM.out.ss ha
                    have HTK := Lib.hid (show p.raises.take (j + 1) = ins a (p.raises.take j) by rw [List.take_add_one, ha, ins_end hlt2]; rfl)
                    have hst := ss_take HSM.out.ss j
                    obtain ⟨vi, _, ci, fi, hvi⟩ := HS6.out.at_ (i := k) hlt
                    rw [updL_at] at hvi
                    obtain ⟨IA, un, uc, rfl⟩ := hvi.shape
                    have HPU := Lib.hid (rput_any (p.raises.take j) _ a wr.drew hst (by have := List.length_take_le j p.raises; have := HRY.out; omega) hvi.drew)
                    have HS6D := Lib.hid HS6.out.drew
                    have HX6D := Lib.hid HX6.out.drew
                    clear ha hlt2 hst hvi hr1 hr2 hrv
                    generalize p.raises.take j = lj at HS6 HS6D HTK HPU ⊢
                    go_wp2_with fail
                    go_region_with
                      (first
                        | (go_at_call 17; ((with_reducible refine (HPU.out).mono ?_); rintro e w7 ⟨uv, rfl, huv, hb7⟩; obtain ⟨UA, un7, uc7, rfl⟩ := huv.shape; have HS7 := Lib.hid (HS6D.out.below hb7); have HX7 := Lib.hid (HX6D.out.below hb7 HX6D.out.lt); obtain ⟨v7, _, c7, f7, _⟩ := HS7.out.at_ (i := k) hlt; have HS8 := Lib.hid ((HS7.out.store hlt huv).cast updL_two); have HX8 := Lib.hid (HX7.out.far (p := ⟨g, k, none⟩) (by show wo.heap.size ≠ g; omega) (.slice UA un7 uc7)); clear huv hb7)))
                    all_goals
                      go_wp2_with fail
                      go_roundw
                      case rel => exact ⟨j + 1, _, by omega, by go_num, by rw [HTK.out]; exact HS8, HX8⟩
                      case measure => simp [intOf]; omega
                  · obtain rfl : j = p.raises.length := by omega
                    have q0 : (p.raises.length : Int) ≤ (p.raises.length : Int) := Int.le_refl _
                    have HS7 := Lib.hid (show FrS 25 w n L.length g gb (.slice (some PA) 61 pc) inb (updL (FF k) k p.raises) vs2 wr by have := HS6.out; rw [List.take_length] at this; exact this)
                    rw [← HYN.out] at HX6
                    clear hjg hj hr1 hr2 hrv
                    go_wp2_with fail
                    go_meet
                    case rel => exact ⟨rfl, vs2, by rw [HHP.out]; exact HS7, HX6⟩
              · obtain rfl : bb = false := by rw [← HBB.out]; exact decide_eq_false hp
                clear HBB
                have HHE := Lib.hid (head_no hp)
                have HS5 := Lib.hid (HS4.out.cast (F' := updL (FF k) k (freeHead prims t)) (by rw [HHE.out]))
                clear hp
                go_wp2_with fail
                go_meet
                case rel => exact ⟨rfl, vs1, HS5, HX4⟩
            case rest =>
              obtain ⟨rfl, vs2, HS5, HX5⟩ := hcut
              clear c0 c1 HS4 HX4 HBB
              go_wp2_with fail
              go_loopw [12] (fun jx wr => ∃ (m : Nat) (vs2 : List Value) (acc : List Int), m ≤ t.args.length ∧ jx = .int .i64 (m : Int) ∧ Hid (In L acc) ∧ Hid (freeArgs (FF k) t k m (t.args.drop m) acc = RR) ∧ Hid (FrS 25 w n L.length g gb (.slice (some PA) 61 pc) inb (updL (FF k) k acc) vs2 wr) ∧ Hid (Blk wr wo.heap.size 42 #[.int .i64 t.k, .int .i64 t.n, .int .i64 t.i, .int .u64 t.b, .string ⟨t.t.toArray⟩, .slice VA t.vars.length vc, .slice KA t.keys.length kc, .slice AA t.args.length ac])) (fun jx _ => t.args.length - (intOf jx).toNat)
              case atStart => exact ⟨0, _, freeHead prims t, Nat.zero_le _, rfl, HHI, HQ, HS5, HX5⟩
              case round =>
                obtain ⟨m, vs2, acc, hm, rfl, HI2, HQ2, HS2, HX2⟩ := hrel
                obtain ⟨wp, rfl⟩ : ∃ wp : World, wp = wr := ⟨_, rfl⟩
                have b7 : wp.cell? ⟨wo.heap.size, 7, none⟩ = some (.slice AA t.args.length ac) := HX2.out.cell 7
                rcases Nat.lt_or_ge m t.args.length with hmlt | hmge
                · obtain ⟨a, ha⟩ : ∃ a, t.args[m]? = some a := ⟨_, List.getElem?_eq_getElem hmlt⟩
                  have htv2 := HTV.out.keep (w' := wp) (fun p hp => (HS2.out.bel.cell hp).trans (HS.out.bel.cell hp).symm)
                  obtain ⟨aa, rfl, haa, ca2⟩ := htv2.a.at_ ha
                  have hra := HTV.out.ra a (List.mem_of_getElem? ha)
                  have hq2 := HQ2.out
                  rw [drop_at ha, args_step] at hq2
                  have hm1 : (m : Int) < (t.args.length : Int) := by omega
                  clear ha
                  by_cases h1 : a < 0
                  · rw [if_pos (.inl h1)] at hq2
                    have HQ3 := Lib.hid hq2
                    have q1 : decide (a < 0) = true := decide_eq_true h1
                    clear hq2 h1 htv2
                    go_wp2_with fail
                    go_roundw
                    case rel => exact ⟨m + 1, vs2, acc, by omega, by go_num, HI2, HQ3, HS2, HX2⟩
                    case measure => simp [intOf]; omega
                  · by_cases h2 : (k : Int) ≤ a
                    · rw [if_pos (.inr h2)] at hq2
                      have HQ3 := Lib.hid hq2
                      have q1 : decide (a < 0) = false := decide_eq_false h1
                      have q2 : decide ((k : Int) ≤ a) = true := decide_eq_true h2
                      clear hq2 h1 h2 htv2
                      go_wp2_with fail
                      go_roundw
                      case rel => exact ⟨m + 1, vs2, acc, by omega, by go_num, HI2, HQ3, HS2, HX2⟩
                      case measure => simp [intOf]; omega
                    · rw [if_neg (by rintro (h | h) <;> omega)] at hq2
                      obtain ⟨x, rfl⟩ : ∃ x : Nat, a = (x : Int) := ⟨a.toNat, by omega⟩
                      rw [Int.toNat_natCast] at hq2
                      have q1 : decide ((x : Int) < 0) = false := decide_eq_false (by omega)
                      have q2 : decide ((k : Int) ≤ (x : Int)) = false := decide_eq_false (by omega)
                      have hxk : x < k := by omega
                      have hxn0 : x < n := by omega
                      have hxn : (x : Int) < (n : Int) := by omega
                      have HIX := Lib.hid (HALL.out k x)
                      have hla := HI2.out.len
                      have hlx := HIX.out.len
                      have HBD := Lib.hid (rbinds_any t _ _ _ m wp (htv2.more (B' := wp.heap.size) (by have := HS2.out.bel.size; omega)))
                      obtain ⟨bl, hbl⟩ : ∃ b, boundAt t m = b := ⟨_, rfl⟩
                      rw [hbl] at HBD hq2
                      unfold tmVals at HBD
                      have HQ3 := Lib.hid hq2
                      obtain ⟨M, hM⟩ : ∃ M, mrg acc (wout (FF k x) bl) = M := ⟨_, rfl⟩
                      have HIM := Lib.hid (HI2.out.mrg (HIX.out.wout bl).sub)
                      rw [hM] at HQ3 HIM
                      have HM := Lib.hid (show mrg acc (wout ((FF k x).drop 0) bl) = M from hM)
                      obtain ⟨Fx, hFx⟩ : ∃ l, FF k x = l := ⟨_, rfl⟩
                      have HFX := Lib.hid hFx
                      rw [hFx] at HM HIX hlx
                      have b0 : wp.cell? ⟨wo.heap.size, 0, none⟩ = some (.int .i64 t.k) := HX2.out.cell 0
                      have b1 : wp.cell? ⟨wo.heap.size, 1, none⟩ = some (.int .i64 t.n) := HX2.out.cell 1
                      have b2 : wp.cell? ⟨wo.heap.size, 2, none⟩ = some (.int .i64 t.i) := HX2.out.cell 2
                      have b3 : wp.cell? ⟨wo.heap.size, 3, none⟩ = some (.int .u64 t.b) := HX2.out.cell 3
                      have b4 : wp.cell? ⟨wo.heap.size, 4, none⟩ = some (.string ⟨t.t.toArray⟩) := HX2.out.cell 4
                      have b5 : wp.cell? ⟨wo.heap.size, 5, none⟩ = some (.slice VA t.vars.length vc) := HX2.out.cell 5
                      have b6 : wp.cell? ⟨wo.heap.size, 6, none⟩ = some (.slice KA t.keys.length kc) := HX2.out.cell 6
                      clear hq2 h1 h2 htv2 hbl hM hFx
                      go_wp2_with (go_at_call 18; ((with_reducible refine (HBD.out).mono ?_); rintro e w3 ⟨bv, rfl, hbv, hb3⟩; obtain ⟨BA, bn, bc, rfl⟩ := hbv.shape; have HBV := Lib.hid hbv; have HS3 := Lib.hid (HS2.out.below hb3); have HX3 := Lib.hid (HX2.out.below hb3 HX2.out.lt); clear hbv hb3))
                      go_loopw [15] (fun jx wr => ∃ (j : Nat) (vs3 : List Value) (acc3 : List Int), j ≤ Fx.length ∧ jx = .int .i64 (j : Int) ∧ Hid (In L acc3) ∧ Hid (mrg acc3 (wout (Fx.drop j) bl) = M) ∧ Hid (FrS 25 w n L.length g gb (.slice (some PA) 61 pc) inb (updL (FF k) k acc3) vs3 wr) ∧ Hid (Blk wr wo.heap.size 42 #[.int .i64 t.k, .int .i64 t.n, .int .i64 t.i, .int .u64 t.b, .string ⟨t.t.toArray⟩, .slice VA t.vars.length vc, .slice KA t.keys.length kc, .slice (some aa) t.args.length ac]) ∧ Hid (IV wr wr.heap.size (.slice BA bn bc) bl)) (fun jx _ => Fx.length - (intOf jx).toNat)
                      case atStart => exact ⟨0, vs2, acc, Nat.zero_le _, rfl, HI2, HM, HS3, HX3, HBV⟩
                      case round =>
                        obtain ⟨j, vs3, acc3, hj, rfl, HI4, HM4, HS4, HX4, HB4⟩ := hrel
                        obtain ⟨vx, _, cx, _, hvx⟩ := HS4.out.at_ (i := x) hxn0
                        rw [updL_ne (by omega), HFX.out] at hvx
                        obtain ⟨XA, xc, rfl, hx1, hx2⟩ := hvx.len
                        have hlb : Fx.length ≤ 9223372036854775807 := by omega
                        rcases Nat.lt_or_ge j Fx.length with hjl | hjg
                        · obtain ⟨v, hv⟩ : ∃ v, Fx[j]? = some v := ⟨_, List.getElem?_eq_getElem hjl⟩
                          obtain ⟨xa, rfl, _, cv⟩ := hvx.at_ hv
                          have hj1 : (j : Int) < (Fx.length : Int) := by omega
                          have hm4 := HM4.out
                          rw [drop_at hv, mrgw_step] at hm4
                          have HIN := Lib.hid (rin_any bl (.slice BA bn bc) v wr.heap.size wr HB4.out)
                          have HVP := Lib.hid (HIX.out.sub v (List.mem_of_getElem? hv))
                          obtain ⟨vi, _, ci, fi, hvi⟩ := HS4.out.at_ (i := k) hlt
                          rw [updL_at] at hvi
                          obtain ⟨IA, un, uc, rfl⟩ := hvi.shape
                          cases hc : bl.contains v
                          · rw [hc, if_neg (by decide)] at hm4
                            rw [hc] at HIN
                            have HM5 := Lib.hid hm4
                            have HI5 := Lib.hid (HI4.out.ins HVP.out)
                            have HPU := Lib.hid (rput_any acc3 _ v wr.drew HI4.out.ss (by have := HI4.out.len; omega) hvi.drew)
                            have HS4D := Lib.hid HS4.out.drew
                            have HX4D := Lib.hid HX4.out.drew
                            have HB4D := Lib.hid HB4.out.drew
                            clear hm4 hc hv hvx hvi hx1 hx2
                            go_wp2_with (go_at_call 19; ((with_reducible refine (HIN.out).mono ?_); rintro e w' ⟨rfl, rfl⟩))
                            go_region_with
                              (first
                                | (go_at_call 17; ((with_reducible refine (HPU.out).mono ?_); rintro e w7 ⟨uv, rfl, huv, hb7⟩; obtain ⟨UA, un7, uc7, rfl⟩ := huv.shape; have HS7 := Lib.hid (HS4D.out.below hb7); have HX7 := Lib.hid (HX4D.out.below hb7 HX4D.out.lt); have HB7 := Lib.hid (HB4D.out.below hb7); obtain ⟨v7, _, c7, f7, h7⟩ := HS7.out.at_ (i := k) hlt; obtain ⟨A7, n7, cc7, rfl⟩ := h7.shape; have HB8 := Lib.hid (HB7.out.store c7 (.slice UA un7 uc7)); have HS8 := Lib.hid ((HS7.out.store hlt huv).cast updL_two); have HX8 := Lib.hid (HX7.out.far (p := ⟨g, k, none⟩) (by show wo.heap.size ≠ g; omega) (.slice UA un7 uc7)); clear huv hb7 h7)))
                            all_goals
                              go_wp2_with fail
                              go_roundw
                              case rel => exact ⟨j + 1, _, _, by omega, by go_num, HI5, HM5, HS8, HX8, by simpa using HB8⟩
                              case measure => simp [intOf]; omega
                          · rw [hc, if_pos rfl] at hm4
                            rw [hc] at HIN
                            have HM5 := Lib.hid hm4
                            clear hm4 hc hv hvx hvi hx1 hx2
                            go_wp2_with (go_at_call 19; ((with_reducible refine (HIN.out).mono ?_); rintro e w' ⟨rfl, rfl⟩))
                            go_roundw
                            case rel => exact ⟨j + 1, vs3, acc3, by omega, by go_num, HI4, HM5, HS4, HX4, HB4⟩
                            case measure => simp [intOf]; omega
                        · obtain rfl : j = Fx.length := by omega
                          have HAM := Lib.hid (show acc3 = M by have := HM4.out; rw [List.drop_length] at this; exact this)
                          have q0 : (Fx.length : Int) ≤ (Fx.length : Int) := Int.le_refl _
                          have HS5' := Lib.hid (show FrS 25 w n L.length g gb (.slice (some PA) 61 pc) inb (updL (FF k) k M) vs3 wr by have := HS4.out; rw [HAM.out] at this; exact this)
                          clear hjg hj hvx hx1 hx2
                          go_wp2_with fail
                          go_roundw
                          case rel => exact ⟨m + 1, vs3, M, by omega, by go_num, HIM, HQ3, HS5', HX4⟩
                          case measure => simp [intOf]; omega
                · obtain rfl : m = t.args.length := by omega
                  have HRR := Lib.hid (show acc = RR by have := HQ2.out; rw [List.drop_length] at this; exact this)
                  have q0 : (t.args.length : Int) ≤ (t.args.length : Int) := Int.le_refl _
                  clear hmge hm
                  go_wp2_with fail
                  go_roundw
                  case rel => exact ⟨k + 1, vs2, by omega, by go_num, by rw [HE.out, ← HRR.out]; exact HS2⟩
                  case measure => simp [intOf]; omega
    · obtain rfl : k = root + 1 := by omega
      obtain ⟨v0, _, c0, _, hv0⟩ := HS.out.at_ (i := root) (by omega)
      rw [HFO.out] at hv0
      have HV0 := Lib.hid hv0
      have HSO := Lib.hid HS.out.bel
      have hrn : (root : Int) < (n : Int) := by omega
      have q0 : decide (((root + 1 : Nat) : Int) ≤ (root : Int)) = false := decide_eq_false (by omega)
      clear hv0 hge hk
      go_wp2_with fail
      go_ret
      exact ⟨_, rfl, HV0.out, HSO.out⟩
end Go.Proofs.YtmedfpejfpdpdaaGreatDoor
