/- Close: Check, the program's way. -/
import Derived.Test.YtjhdlnllhjffkaaGreatDoorCloMr
import Derived.Test.YtjhdlnllhjffkaaGreatDoorCloF
import Derived.Test.YtjhdlnllhjffkaaGreatDoorCloMj
import Derived.Test.YtjhdlnllhjffkaaGreatDoorCloMk
namespace Go.Proofs.YtjhdlnllhjffkaaGreatDoor
open Go.RowKit LamM CpsM CloM

def restF (L : List Fl) (fs : List FnD) : Int :=
  if (inC L fs).2 = false then 150
  else if allC (formedG prims L) (inC L fs).1 L L.length = false then 150
  else if allC (fitsC prims) (inC L fs).1 L L.length = false then 112
  else if 262144 < L.length ∨ 262144 < fs.length then 3
  else if (fs.all fun f => (freeAllC (inC L fs).1 L L.length f.body.toNat).all f.params.contains) = false then 111
  else 0
theorem bodiesF_cases (L : List Fl) (fs : List FnD) (entry : Int) : (bodiesF L fs entry = 150 ∧ checkF prims L fs entry = 150) ∨ (bodiesF L fs entry = 0 ∧ checkF prims L fs entry = restF L fs ∧ 0 < fs.length ∧ ∀ f ∈ fs, bodyOk L f = true) := by
  unfold bodiesF checkF restF
  by_cases h0 : entry < 0 ∨ (fs.length : Int) ≤ entry
  · rw [if_pos h0, if_pos h0]; exact .inl ⟨rfl, rfl⟩
  rw [if_neg h0, if_neg h0]
  by_cases h1 : paramsAt fs entry ≠ []
  · rw [if_pos h1, if_pos h1]; exact .inl ⟨rfl, rfl⟩
  rw [if_neg h1, if_neg h1]
  by_cases h2 : fs.all (bodyOk L) = false
  · rw [if_pos h2, if_pos h2]; exact .inl ⟨rfl, rfl⟩
  rw [if_neg h2, if_neg h2]
  exact .inr ⟨rfl, rfl, by omega, List.all_eq_true.1 (by simpa using h2)⟩
theorem rootsOf_snoc {fs : List FnD} {k : Nat} {f : FnD} (h : fs[k]? = some f) : rootsOf (fs.take k) ++ [f.body] = rootsOf (fs.take (k + 1)) := by
  unfold rootsOf
  rw [← take_snoc h, List.map_append]; rfl
def badF (inb : Nat → Bool) (L : List Fl) (k : Nat) : Int := if allC (fitsC prims) inb L k = false then 112 else 0
theorem badF_same {inb : Nat → Bool} {L : List Fl} {k : Nat} (h : allC (fitsC prims) inb L (k + 1) = allC (fitsC prims) inb L k) : badF inb L (k + 1) = badF inb L k := by unfold badF; rw [h]
theorem badF_no {inb : Nat → Bool} {L : List Fl} {k : Nat} (h : allC (fitsC prims) inb L k = false) : badF inb L k = 112 := if_pos h
set_option maxRecDepth 100000 in
set_option maxHeartbeats 16000000 in
theorem fcheck_any (L : List Fl) (fs : List FnD) (vl fv : Value) (entry : Int) (w : World) (hN : NF w w.heap.size vl L) (hF : FnV w w.heap.size fv fs) (hla : ∀ t ∈ L, t.args.length ≤ 1048576) :
    Calls Tryz.prog 4 #[.agg #[vl, fv, .int .i64 entry]] w (CkPost (checkF prims L fs entry) w) := by
  obtain ⟨i0, hi0, hz0, hz1, hz2⟩ := info_parts infoI
  obtain ⟨NA, nc, rfl, hn1, hn2⟩ := hN.len
  obtain ⟨FA, fc, rfl, hf1, hf2⟩ := hF.len
  obtain ⟨W, hW⟩ : ∃ W, w.alloc (.cells #[.slice NA L.length nc, .slice FA fs.length fc, .int .i64 entry] 25) = W := ⟨_, rfl⟩
  have hb1 : Below w.heap.size w W := by rw [← hW]; exact (Below.refl _ _).alloc (Nat.le_refl _) _
  have HB := Lib.hid hb1
  have HX := Lib.hid (show Blk W w.heap.size 25 #[.slice NA L.length nc, .slice FA fs.length fc, .int .i64 entry] by rw [← hW]; exact Blk.new _ _ _)
  have HN := Lib.hid (hN.below hb1)
  have HF := Lib.hid (hF.below hb1)
  have HLA := Lib.hid hla
  have HBO := Lib.hid (bodies_any L fs _ _ entry W HN.out HF.out)
  have c0 : W.cell? ⟨w.heap.size, 0, none⟩ = some (.slice NA L.length nc) := HX.out.cell 0
  have c1 : W.cell? ⟨w.heap.size, 1, none⟩ = some (.slice FA fs.length fc) := HX.out.cell 1
  have c2 : W.cell? ⟨w.heap.size, 2, none⟩ = some (.int .i64 entry) := HX.out.cell 2
  unfold CkPost
  obtain ⟨R, hR⟩ : ∃ R, checkF prims L fs entry = R := ⟨_, rfl⟩
  rw [hR]
  clear hN hF hb1 hla
  rcases bodiesF_cases L fs entry with ⟨hbo, hck⟩ | ⟨hbo, hck, hfp, hbok⟩
  · rw [hbo] at HBO
    obtain rfl : R = 150 := hR.symm.trans hck
    clear hR hbo hck
    go_enter Tryz.func4, Tryz.ntmps4
    go_wp2_with (go_at_call 7; ((with_reducible refine (HBO.out).mono ?_); rintro e w1 ⟨rfl, hb1⟩; have HB1 := Lib.hid (HB.out.trans (hb1.mono HB.out.size)); clear hb1))
    go_ret
    exact ⟨rfl, HB1.out⟩
  rw [hbo] at HBO
  rw [hck] at hR
  have HBK := Lib.hid hbok
  have HFP := Lib.hid hfp
  have HR := Lib.hid hR
  clear hR hbo hck hbok hfp
  go_enter Tryz.func4, Tryz.ntmps4
  go_upto_region 5 with (go_at_call 7; ((with_reducible refine (HBO.out).mono ?_); rintro e w1 ⟨rfl, hb1⟩; have HB1 := Lib.hid hb1; clear hb1; clear c0 c1 c2))
  have HX1 := Lib.hid (HX.out.below HB1.out HX.out.lt)
  have c1 : w1.cell? ⟨w.heap.size, 1, none⟩ = some (.slice FA fs.length fc) := HX1.out.cell 1
  have HO0 := Lib.hid (show OI w1.heap.size w1 (.slice none 0 0) (rootsOf (fs.take 0)) from World.ownsRow_nil _ _ _ _)
  go_wp2_with fail
  clear c1 hW
  go_loopw [24, 4] (fun ix rx wr => ∃ (k : Nat) (rv : Value), k ≤ fs.length ∧ ix = .int .i64 (k : Int) ∧ rv = rx ∧ Hid (OI w1.heap.size wr rv (rootsOf (fs.take k))) ∧ Hid (Below w1.heap.size w1 wr)) (fun ix _ _ => fs.length - (intOf ix).toNat)
  case atStart => exact ⟨0, _, Nat.zero_le _, rfl, rfl, HO0, Lib.hid (Below.refl _ _)⟩
  case round =>
    obtain ⟨k, rv, hk, rfl, rfl, HO, HW1⟩ := hrel
    obtain ⟨wo, rfl⟩ : ∃ wo : World, wo = wr := ⟨_, rfl⟩
    have HW := Lib.hid (HB1.out.trans (HW1.out.mono HB1.out.size))
    rcases Nat.lt_or_ge k fs.length with hlt | hge
    · obtain ⟨f, hf⟩ : ∃ f, fs[k]? = some f := ⟨_, List.getElem?_eq_getElem hlt⟩
      obtain ⟨adx, PA, pc, rfl, hfb, hfp, hrg, hfl, d0, d1⟩ := (HF.out.below HW.out).at2 hf
      have hm : (k : Int) < (fs.length : Int) := by omega
      obtain ⟨W2, hW2⟩ : ∃ W2, wo.alloc (.cells #[.slice PA f.params.length pc, .int .i64 f.body] 33) = W2 := ⟨_, rfl⟩
      have HW2 := Lib.hid (show Below w1.heap.size w1 W2 by rw [← hW2]; exact HW1.out.alloc HW1.out.size _)
      have HY2 := Lib.hid (show Blk W2 wo.heap.size 33 #[.slice PA f.params.length pc, .int .i64 f.body] by rw [← hW2]; exact Blk.new _ _ _)
      have HO2 := Lib.hid (show OI w1.heap.size W2 rv (rootsOf (fs.take k)) by rw [← hW2]; exact World.ownsRow.alloc HO.out _)
      have e1 : W2.cell? ⟨wo.heap.size, 1, none⟩ = some (.int .i64 f.body) := HY2.out.cell 1
      have HRS := Lib.hid (rootsOf_snoc hf)
      have hrl : (rootsOf (fs.take k)).length ≤ 1300000000000 := by unfold rootsOf; rw [List.length_map, List.length_take]; omega
      have hzz : w1.heap.size ≤ W2.heap.size := HW2.out.size
      have HRP := Lib.hid ((one_IV W2 f.body).reads)
      have HOW := Lib.hid (World.ownsRow.alloc HO2.out (.cells #[.int .i64 f.body] 3))
      generalize rootsOf (fs.take k) = rs at *
      clear hf hfb hfp hrg hfl HO
      go_wp2_with (at_builtin; refine wpList_append_any _ rfl _ _ 31 rfl w1.heap.size 3 i0 (.int .i64 0) 1 8 undI hi0 hz0 hz1 hz2 rfl (by decide) _ _ _ rfl HOW.out (W2.heap.size + 1) _ _ _ _ rfl HRP.out (intVals_one _) (by have := (List.length_cons : ([f.body] : List Int).length = 0 + 1); unfold maxLen; omega) (by have := (List.length_cons : ([f.body] : List Int).length = 0 + 1); omega) (by simp; omega) ?_)
      intro v2 w5 hown5 hgrow5 hor5
      have HO5 := Lib.hid (show OI w1.heap.size w5 v2 (rootsOf (fs.take (k + 1))) by rw [← HRS.out]; exact OI.one hown5)
      have HB5 := Lib.hid (show Below w1.heap.size w1 w5 from (HW2.out.alloc hzz _).grown hgrow5 (by simp; omega) (fun k hk => (World.ownsRow.lt HO2.out k hk).1))
      clear hown5 hgrow5 hor5 hzz hrl e1 hW2 d0 d1
      go_wp2_with fail
      go_roundw
      case rel => exact ⟨k + 1, _, by omega, by go_num, rfl, HO5, HB5⟩
      case measure => simp [intOf]; omega
    · obtain rfl : k = fs.length := by omega
      have q0 : (fs.length : Int) ≤ (fs.length : Int) := Int.le_refl _
      have HO6 := Lib.hid (show OI w1.heap.size wo rv (rootsOf fs) by have := HO.out; rwa [List.take_of_length_le (Nat.le_refl _)] at this)
      have HX6 := Lib.hid (HX.out.below HW.out HX.out.lt)
      have hroot : ∀ r ∈ rootsOf fs, 0 ≤ r ∧ r < (L.length : Int) := fun r hr => by
        obtain ⟨f, hf, rfl⟩ := List.mem_map.1 hr
        have := HBK.out f hf
        unfold bodyOk at this
        rw [Bool.and_eq_true, decide_eq_true_eq] at this
        exact this.1
      have hL0 : 0 < L.length := by
        obtain ⟨f, hf⟩ : ∃ f, fs[0]? = some f := ⟨_, List.getElem?_eq_getElem HFP.out⟩
        have := hroot f.body (List.mem_map.2 ⟨f, List.mem_of_getElem? hf, rfl⟩)
        omega
      have HBE := Lib.hid (fbelow_any L NA nc L.length (rootsOf fs) rv wo rfl hL0 (HN.out.below HW.out) HO6.out.iv hroot)
      unfold BelowM at HBE
      have HL0 := Lib.hid hL0
      have HRT := Lib.hid hroot
      have c0 : wo.cell? ⟨w.heap.size, 0, none⟩ = some (.slice NA L.length nc) := HX6.out.cell 0
      clear hge hk HO hroot hL0
      go_upto_region 11 with (go_at_call 8; ((with_reducible refine (HBE.out).mono ?_); rintro e w3 ⟨bv, rfl, hok, hb3⟩; have HOK := Lib.hid hok; have HB3 := Lib.hid (HW.out.trans (hb3.mono HW.out.size)); clear hok hb3; clear c0))
      cases h2 : (belowM (tms L) (rootsOf fs)).2
      · have hRR := HR.out
        unfold restF inC at hRR
        rw [if_pos h2] at hRR
        subst hRR
        clear h2
        go_wp2_with fail
        go_ret
        exact ⟨rfl, HB.out.trans (HB3.out.mono HB.out.size)⟩
      · obtain ⟨gb, rfl, hgb, hob⟩ := HOK.out h2
        have HOB := Lib.hid hob
        have hinE : inC L fs = belowM (tms L) (rootsOf fs) := rfl
        have HAR := Lib.hid (show ∀ i t, (inC L fs).1 i = true → L[i]? = some t → ∀ a ∈ t.args, 0 ≤ a ∧ a < (i : Int) from fun i t hi ht a ha => by
          have := belowF_ok (tms L) (tms L).length (rootsB (rootsOf fs), true) h2 i (by rw [tms_len]; exact (List.getElem?_eq_some_iff.1 ht).1) hi a
          rw [argsC_at ht] at this
          exact this ha)
        have hRR := HR.out
        unfold restF at hRR
        rw [hinE] at hRR HAR
        rw [if_neg (by rw [h2]; simp)] at hRR
        obtain ⟨inb, hinb⟩ : ∃ inb, (belowM (tms L) (rootsOf fs)).1 = inb := ⟨_, rfl⟩
        rw [hinb] at hRR HAR HOB
        have HRR := Lib.hid hRR
        clear hRR hinE hgb hob h2 HOK HBE HR hinb HO6 HO0
        go_upto_region 14 with (go_at_call 9; ((with_reducible refine (prims_any _).mono ?_); rintro e w4 ⟨pv, rfl, hpv, hb4⟩; obtain ⟨PV4, pvc, hpe, hpc1, hpc2⟩ := hpv.len; rw [primTab_len] at hpe; subst hpe; have HPV := Lib.hid hpv; have HB4 := Lib.hid (HB3.out.trans (hb4.mono HB3.out.size)); have HOB4 := Lib.hid (ownsRow_below HOB.out hb4); clear hpv hb4 hpc1 hpc2))
        have HX4 := Lib.hid (HX.out.below HB4.out HX.out.lt)
        have c0 : w4.cell? ⟨w.heap.size, 0, none⟩ = some (.slice NA L.length nc) := HX4.out.cell 0
        clear HOB HX6 HW HW1
        obtain ⟨n, hn⟩ : ∃ n, L.length = n := ⟨_, rfl⟩
        have HNL := Lib.hid hn
        have hnl : n ≤ 1300000000000 := by omega
        rw [hn] at HOB4 c0 ⊢
        clear hn
        go_wp2_with fail
        clear c0
        go_loopw [47, 10] (fun ix bx wr => ∃ (k : Nat), k ≤ n ∧ ix = .int .i64 (k : Int) ∧ bx = .int .i64 (badF inb L k) ∧ Hid (allC (formedG prims L) inb L k = true) ∧ Hid (Below w4.heap.size w4 wr)) (fun ix _ _ => n - (intOf ix).toNat)
        case atStart => exact ⟨0, Nat.zero_le _, rfl, rfl, Lib.hid rfl, Lib.hid (Below.refl _ _)⟩
        case round =>
          obtain ⟨k, hk, rfl, rfl, HFA, HW4⟩ := hrel
          obtain ⟨wo2, rfl⟩ : ∃ wo2 : World, wo2 = wr := ⟨_, rfl⟩
          have HBW := Lib.hid (HB4.out.trans (HW4.out.mono HB4.out.size))
          rcases Nat.lt_or_ge k n with hlt | hge
          · obtain ⟨t, ht⟩ : ∃ t, L[k]? = some t := ⟨_, List.getElem?_eq_getElem (by have := HNL.out; omega)⟩
            have HNr := HN.out.below HBW.out
            obtain ⟨ad, vv, kv, av, rfl, had, htv, a0, a1, a2, a3, a4, a5, a6, a7, a8⟩ := HNr.at9 ht
            obtain ⟨VA, vc, rfl, _, _⟩ := htv.v.len
            obtain ⟨KA, kc, rfl, _, _⟩ := htv.k.len
            obtain ⟨AA, ac, rfl, _, _⟩ := htv.a.len
            obtain ⟨W1, hW1⟩ : ∃ W1, wo2.alloc (BoxF t (.slice VA t.vars.length vc) (.slice KA t.keys.length kc) (.slice AA t.args.length ac)) = W1 := ⟨_, rfl⟩
            have hbw : Below wo2.heap.size wo2 W1 := by rw [← hW1]; exact (Below.refl _ _).alloc (Nat.le_refl _) _
            have HW5 := Lib.hid (HW4.out.trans (hbw.mono HW4.out.size))
            have HBX := Lib.hid (show Blk W1 wo2.heap.size 43 #[.int .i64 t.k, .int .i64 t.n, .int .i64 t.m, .int .i64 t.i, .int .u64 t.b, .string ⟨t.t.toArray⟩, .slice VA t.vars.length vc, .slice KA t.keys.length kc, .slice AA t.args.length ac] by rw [← hW1]; exact Blk.new _ _ _)
            have HX5 := Lib.hid (HX4.out.below HW5.out HX4.out.lt)
            have HOB5 := Lib.hid (ownsRow_below HOB4.out HW5.out)
            have cin := World.ownsRow.cellAt HOB5.out k (by omega)
            rw [boolVals_get hlt] at cin
            have HT5 := Lib.hid (htv.below hbw)
            have HN5 := Lib.hid (HNr.below hbw)
            have HP5 := Lib.hid (HPV.out.below HW5.out)
            have hkn : (k : Int) < (n : Int) := by omega
            unfold BoxF at hW1
            have HTT := Lib.hid ht
            clear HNr htv had hbw ht
            cases hin : inb k
            · rw [hin] at cin
              have HFA2 := Lib.hid (show allC (formedG prims L) inb L (k + 1) = true by rw [all_skip hin]; exact HFA.out)
              have HBF := Lib.hid (badF_same (all_skip (P := fitsC prims) (L := L) hin))
              clear hin
              go_wp2_with fail
              go_roundw
              case rel => exact ⟨k + 1, by omega, by go_num, by rw [HBF.out], HFA2, HW5⟩
              case measure => simp [intOf]; omega
            · rw [hin] at cin
              have c0 : W1.cell? ⟨w.heap.size, 0, none⟩ = some (.slice (some ad) n nc) := by have := HX5.out.cell 0; rw [← HNL.out]; exact this
              have p0 : W1.cell? ⟨wo2.heap.size, 0, none⟩ = some (.int .i64 t.k) := HBX.out.cell 0
              have p1 : W1.cell? ⟨wo2.heap.size, 1, none⟩ = some (.int .i64 t.n) := HBX.out.cell 1
              have p2 : W1.cell? ⟨wo2.heap.size, 2, none⟩ = some (.int .i64 t.m) := HBX.out.cell 2
              have p3 : W1.cell? ⟨wo2.heap.size, 3, none⟩ = some (.int .i64 t.i) := HBX.out.cell 3
              have p4 : W1.cell? ⟨wo2.heap.size, 4, none⟩ = some (.int .u64 t.b) := HBX.out.cell 4
              have p5 : W1.cell? ⟨wo2.heap.size, 5, none⟩ = some (.string ⟨t.t.toArray⟩) := HBX.out.cell 5
              have p6 : W1.cell? ⟨wo2.heap.size, 6, none⟩ = some (.slice VA t.vars.length vc) := HBX.out.cell 6
              have p7 : W1.cell? ⟨wo2.heap.size, 7, none⟩ = some (.slice KA t.keys.length kc) := HBX.out.cell 7
              have p8 : W1.cell? ⟨wo2.heap.size, 8, none⟩ = some (.slice AA t.args.length ac) := HBX.out.cell 8
              have HFM := Lib.hid (fformed_any L t _ _ _ _ _ W1 HN5.out HT5.out (fun a ha => by have := HAR.out k t hin HTT.out a ha; have := (List.getElem?_eq_some_iff.1 HTT.out).1; omega) HP5.out (HLA.out t (List.mem_of_getElem? HTT.out)))
              rw [HNL.out] at HFM
              unfold flVals at HFM
              have hmk : ∀ P, allC P inb L (k + 1) = (allC P inb L k && P t) := fun P => all_made hin HTT.out
              cases hfm : formedG prims L t
              · rw [hfm] at HFM
                have hfa : allC (formedG prims L) inb L L.length = false := allC_false (i := k + 1) (by have := HNL.out; omega) (by rw [hmk, hfm, Bool.and_false])
                have hrr := HRR.out
                rw [if_pos hfa] at hrr
                subst hrr
                clear hin hmk hfm hfa
                go_wp2_with (go_at_call 10; ((with_reducible refine (HFM.out).mono ?_); rintro e w6 ⟨rfl, hb6⟩; have HW6 := Lib.hid (HW5.out.trans (hb6.mono HW5.out.size)); clear hb6))
                go_ret
                exact ⟨rfl, HB.out.trans ((HB4.out.trans (HW6.out.mono HB4.out.size)).mono HB.out.size)⟩
              · rw [hfm] at HFM
                have HFA2 := Lib.hid (show allC (formedG prims L) inb L (k + 1) = true by rw [hmk, hfm, HFA.out]; rfl)
                by_cases h8 : t.k = 8
                · have q8 := b_true h8
                  cases hpo : primOkC prims t
                  · have HBF := Lib.hid (show badF inb L (k + 1) = 112 from badF_no (by rw [hmk]; unfold fitsC; rw [hpo, decide_eq_false (fun h => h h8)]; simp))
                    clear hin hmk hfm h8
                    go_wp2_with (first
                      | (go_at_call 10; ((with_reducible refine (HFM.out).mono ?_); rintro e w6 ⟨rfl, hb6⟩; have HW6 := Lib.hid (HW5.out.trans (hb6.mono HW5.out.size)); have b0 : w6.cell? ⟨wo2.heap.size, 0, none⟩ = some (.int .i64 t.k) := (HBX.out.below hb6 HBX.out.lt).cell 0; have b1 : w6.cell? ⟨wo2.heap.size, 1, none⟩ = some (.int .i64 t.n) := (HBX.out.below hb6 HBX.out.lt).cell 1; have b2 : w6.cell? ⟨wo2.heap.size, 2, none⟩ = some (.int .i64 t.m) := (HBX.out.below hb6 HBX.out.lt).cell 2; have b3 : w6.cell? ⟨wo2.heap.size, 3, none⟩ = some (.int .i64 t.i) := (HBX.out.below hb6 HBX.out.lt).cell 3; have b4 : w6.cell? ⟨wo2.heap.size, 4, none⟩ = some (.int .u64 t.b) := (HBX.out.below hb6 HBX.out.lt).cell 4; have b5 : w6.cell? ⟨wo2.heap.size, 5, none⟩ = some (.string ⟨t.t.toArray⟩) := (HBX.out.below hb6 HBX.out.lt).cell 5; have b6 : w6.cell? ⟨wo2.heap.size, 6, none⟩ = some (.slice VA t.vars.length vc) := (HBX.out.below hb6 HBX.out.lt).cell 6; have b7 : w6.cell? ⟨wo2.heap.size, 7, none⟩ = some (.slice KA t.keys.length kc) := (HBX.out.below hb6 HBX.out.lt).cell 7; have b8 : w6.cell? ⟨wo2.heap.size, 8, none⟩ = some (.slice AA t.args.length ac) := (HBX.out.below hb6 HBX.out.lt).cell 8; have HPR := Lib.hid (cprim_any t _ _ _ _ w6 (HP5.out.below hb6) (HT5.out.below hb6)); rw [hpo] at HPR; unfold flVals at HPR; clear hpo; clear hb6))
                      | (go_at_call 11; ((with_reducible refine (HPR.out).mono ?_); rintro e w7 ⟨rfl, hb7⟩; have HW7 := Lib.hid (HW6.out.trans (hb7.mono HW6.out.size)); clear hb7)))
                    go_roundw
                    case rel => exact ⟨k + 1, by omega, by go_num, by rw [HBF.out], HFA2, HW7⟩
                    case measure => simp [intOf]; omega
                  · have HBF := Lib.hid (badF_same (inb := inb) (L := L) (k := k) (by rw [hmk]; unfold fitsC; rw [hpo]; simp))
                    clear hin hmk hfm h8
                    go_wp2_with (first
                      | (go_at_call 10; ((with_reducible refine (HFM.out).mono ?_); rintro e w6 ⟨rfl, hb6⟩; have HW6 := Lib.hid (HW5.out.trans (hb6.mono HW5.out.size)); have b0 : w6.cell? ⟨wo2.heap.size, 0, none⟩ = some (.int .i64 t.k) := (HBX.out.below hb6 HBX.out.lt).cell 0; have b1 : w6.cell? ⟨wo2.heap.size, 1, none⟩ = some (.int .i64 t.n) := (HBX.out.below hb6 HBX.out.lt).cell 1; have b2 : w6.cell? ⟨wo2.heap.size, 2, none⟩ = some (.int .i64 t.m) := (HBX.out.below hb6 HBX.out.lt).cell 2; have b3 : w6.cell? ⟨wo2.heap.size, 3, none⟩ = some (.int .i64 t.i) := (HBX.out.below hb6 HBX.out.lt).cell 3; have b4 : w6.cell? ⟨wo2.heap.size, 4, none⟩ = some (.int .u64 t.b) := (HBX.out.below hb6 HBX.out.lt).cell 4; have b5 : w6.cell? ⟨wo2.heap.size, 5, none⟩ = some (.string ⟨t.t.toArray⟩) := (HBX.out.below hb6 HBX.out.lt).cell 5; have b6 : w6.cell? ⟨wo2.heap.size, 6, none⟩ = some (.slice VA t.vars.length vc) := (HBX.out.below hb6 HBX.out.lt).cell 6; have b7 : w6.cell? ⟨wo2.heap.size, 7, none⟩ = some (.slice KA t.keys.length kc) := (HBX.out.below hb6 HBX.out.lt).cell 7; have b8 : w6.cell? ⟨wo2.heap.size, 8, none⟩ = some (.slice AA t.args.length ac) := (HBX.out.below hb6 HBX.out.lt).cell 8; have HPR := Lib.hid (cprim_any t _ _ _ _ w6 (HP5.out.below hb6) (HT5.out.below hb6)); rw [hpo] at HPR; unfold flVals at HPR; clear hpo; clear hb6))
                      | (go_at_call 11; ((with_reducible refine (HPR.out).mono ?_); rintro e w7 ⟨rfl, hb7⟩; have HW7 := Lib.hid (HW6.out.trans (hb7.mono HW6.out.size)); clear hb7)))
                    go_roundw
                    case rel => exact ⟨k + 1, by omega, by go_num, by rw [HBF.out], HFA2, HW7⟩
                    case measure => simp [intOf]; omega
                · have q8 := b_false h8
                  have HBF := Lib.hid (badF_same (inb := inb) (L := L) (k := k) (by rw [hmk]; unfold fitsC; rw [decide_eq_true h8]; simp))
                  clear hin hmk hfm h8
                  go_wp2_with (go_at_call 10; ((with_reducible refine (HFM.out).mono ?_); rintro e w6 ⟨rfl, hb6⟩; have HW6 := Lib.hid (HW5.out.trans (hb6.mono HW5.out.size)); have b0 : w6.cell? ⟨wo2.heap.size, 0, none⟩ = some (.int .i64 t.k) := (HBX.out.below hb6 HBX.out.lt).cell 0; have b1 : w6.cell? ⟨wo2.heap.size, 1, none⟩ = some (.int .i64 t.n) := (HBX.out.below hb6 HBX.out.lt).cell 1; have b2 : w6.cell? ⟨wo2.heap.size, 2, none⟩ = some (.int .i64 t.m) := (HBX.out.below hb6 HBX.out.lt).cell 2; have b3 : w6.cell? ⟨wo2.heap.size, 3, none⟩ = some (.int .i64 t.i) := (HBX.out.below hb6 HBX.out.lt).cell 3; have b4 : w6.cell? ⟨wo2.heap.size, 4, none⟩ = some (.int .u64 t.b) := (HBX.out.below hb6 HBX.out.lt).cell 4; have b5 : w6.cell? ⟨wo2.heap.size, 5, none⟩ = some (.string ⟨t.t.toArray⟩) := (HBX.out.below hb6 HBX.out.lt).cell 5; have b6 : w6.cell? ⟨wo2.heap.size, 6, none⟩ = some (.slice VA t.vars.length vc) := (HBX.out.below hb6 HBX.out.lt).cell 6; have b7 : w6.cell? ⟨wo2.heap.size, 7, none⟩ = some (.slice KA t.keys.length kc) := (HBX.out.below hb6 HBX.out.lt).cell 7; have b8 : w6.cell? ⟨wo2.heap.size, 8, none⟩ = some (.slice AA t.args.length ac) := (HBX.out.below hb6 HBX.out.lt).cell 8; clear hb6))
                  go_roundw
                  case rel => exact ⟨k + 1, by omega, by go_num, by rw [HBF.out], HFA2, HW6⟩
                  case measure => simp [intOf]; omega
          · obtain rfl : k = n := by omega
            have q0 : (k : Int) ≤ (k : Int) := Int.le_refl _
            have HX8 := Lib.hid (HX4.out.below HW4.out HX4.out.lt)
            have c0 : wo2.cell? ⟨w.heap.size, 0, none⟩ = some (.slice NA k nc) := by have := HX8.out.cell 0; rw [← HNL.out]; exact this
            have c1 : wo2.cell? ⟨w.heap.size, 1, none⟩ = some (.slice FA fs.length fc) := HX8.out.cell 1
            have hrr := HRR.out
            rw [HNL.out, HFA.out, if_neg (by simp)] at hrr
            clear hge hk HFA
            by_cases h5 : allC (fitsC prims) inb L k = false
            · rw [badF_no h5]
              rw [if_pos h5] at hrr
              subst hrr
              clear h5
              go_wp2_with fail
              go_ret
              exact ⟨rfl, HB.out.trans (HBW.out.mono HB.out.size)⟩
            · rw [show badF inb L k = 0 from if_neg h5]
              rw [if_neg h5] at hrr
              clear h5
              by_cases h6 : 262144 < k
              · rw [if_pos (.inl h6)] at hrr
                subst hrr
                have q1 := decide_eq_true (show (262144 : Int) < (k : Int) by omega)
                clear h6
                go_wp2_with fail
                go_ret
                exact ⟨rfl, HB.out.trans (HBW.out.mono HB.out.size)⟩
              · have q1 := decide_eq_false (show ¬ (262144 : Int) < (k : Int) by omega)
                by_cases h7 : 262144 < fs.length
                · rw [if_pos (.inr h7)] at hrr
                  subst hrr
                  have q2 := decide_eq_true (show (262144 : Int) < (fs.length : Int) by omega)
                  clear h6 h7
                  go_wp2_with fail
                  go_ret
                  exact ⟨rfl, HB.out.trans (HBW.out.mono HB.out.size)⟩
                · have q2 := decide_eq_false (show ¬ (262144 : Int) < (fs.length : Int) by omega)
                  rw [if_neg (by omega)] at hrr
                  have HRR2 := Lib.hid hrr
                  have HFS := Lib.hid (ffrees_any L NA nc k gb inb W wo2 HNL.out.symm (by have := HL0.out; have := HNL.out; omega) HN.out (ownsRow_below HOB4.out HW4.out) HBW.out HAR.out)
                  rw [HNL.out] at HFS
                  clear h6 h7 hrr
                  go_upto_region 29 with (go_at_call 12; ((with_reducible refine (HFS.out).mono ?_); rintro e w7 ⟨g, vs, rfl, hfr⟩; have HFR := Lib.hid hfr; clear hfr; clear c0 c1 q0 q1 q2))
                  have HX9 := Lib.hid (HX.out.below HFR.out.bel HX.out.lt)
                  have c1 : w7.cell? ⟨w.heap.size, 1, none⟩ = some (.slice FA fs.length fc) := HX9.out.cell 1
                  have HYE := Lib.hid (fun (h : ∀ j f, j < fs.length → fs[j]? = some f → ((freeAllC inb L k f.body.toNat).all f.params.contains) = true) => show (fs.all fun f => (freeAllC inb L k f.body.toNat).all f.params.contains) = true from List.all_eq_true.2 fun f hf => by
                    obtain ⟨j, hj⟩ := List.mem_iff_getElem?.1 hf
                    exact h j f (List.getElem?_eq_some_iff.1 hj).1 hj)
                  have HNO := Lib.hid (fun (j : Nat) (f : FnD) (h : fs[j]? = some f) (hf : ((freeAllC inb L k f.body.toNat).all f.params.contains) = false) => show (fs.all fun f => (freeAllC inb L k f.body.toNat).all f.params.contains) = false from all_false.2 ⟨f, List.mem_of_getElem? h, hf⟩)
                  go_wp2_with fail
                  clear c1
                  obtain ⟨wo3, rfl⟩ : ∃ wo3, wo3 = w7 := ⟨_, rfl⟩
                  go_loopw [93] (fun ix wr => ∃ (m : Nat), m ≤ fs.length ∧ ix = .int .i64 (m : Int) ∧ Hid (∀ j f, j < m → fs[j]? = some f → ((freeAllC inb L k f.body.toNat).all f.params.contains) = true) ∧ Hid (FrD 49 W k k g gb inb (freeAllC inb L k) vs wr)) (fun ix _ => fs.length - (intOf ix).toNat)
                  case atStart => exact ⟨0, Nat.zero_le _, rfl, Lib.hid (fun j f h => by omega), HFR⟩
                  case round =>
                    obtain ⟨m, hm, rfl, HK, HS⟩ := hrel
                    obtain ⟨wo4, rfl⟩ : ∃ wo4 : World, wo4 = wr := ⟨_, rfl⟩
                    rcases Nat.lt_or_ge m fs.length with hlt | hge
                    · obtain ⟨f, hf⟩ : ∃ f, fs[m]? = some f := ⟨_, List.getElem?_eq_getElem hlt⟩
                      obtain ⟨adx, PA, pc, rfl, hfb, hfp, hrg, hfl, d0, d1⟩ := (HF.out.below HS.out.bel).at2 hf
                      have hmm : (m : Int) < (fs.length : Int) := by omega
                      obtain ⟨W2, hW2⟩ : ∃ W2, wo4.alloc (.cells #[.slice PA f.params.length pc, .int .i64 f.body] 33) = W2 := ⟨_, rfl⟩
                      have hbw : Below wo4.heap.size wo4 W2 := by rw [← hW2]; exact (Below.refl _ _).alloc (Nat.le_refl _) _
                      have HS2 := Lib.hid (HS.out.below hbw)
                      have HY2 := Lib.hid (show Blk W2 wo4.heap.size 33 #[.slice PA f.params.length pc, .int .i64 f.body] by rw [← hW2]; exact Blk.new _ _ _)
                      have hbk := HBK.out f (List.mem_of_getElem? hf)
                      unfold bodyOk at hbk
                      rw [Bool.and_eq_true, decide_eq_true_eq, HNL.out] at hbk
                      obtain ⟨x, hx⟩ : ∃ x : Nat, f.body = (x : Int) := ⟨f.body.toNat, by omega⟩
                      have hxk : x < k := by omega
                      have hxI : (x : Int) < (k : Int) := by omega
                      obtain ⟨v, _, cv, _, hiv⟩ := HS2.out.at_ (i := x) hxk
                      obtain ⟨IA, ic, rfl, _, _⟩ := hiv.len
                      have e0 : W2.cell? ⟨wo4.heap.size, 0, none⟩ = some (.slice PA f.params.length pc) := HY2.out.cell 0
                      have e1 : W2.cell? ⟨wo4.heap.size, 1, none⟩ = some (.int .i64 f.body) := HY2.out.cell 1
                      have HCC := Lib.hid (fparcon_any f.params (freeAllC inb L k x) _ _ wo4.heap.size _ _ W2 (hfp.below hbw) hiv e0)
                      rw [hx] at e1 d1 hW2
                      obtain ⟨b, hb⟩ : ∃ b, ((freeAllC inb L k x).any fun a => !f.params.contains a) = b := ⟨_, rfl⟩
                      have hb2 : ((freeAllC inb L k f.body.toNat).all f.params.contains) = !b := by rw [hx, Int.toNat_natCast, ← hb, all_any]
                      rw [hb] at HCC
                      have hmf := mk_func
                      cases b
                      · have HK2 := Lib.hid (show ∀ j g, j < m + 1 → fs[j]? = some g → ((freeAllC inb L k g.body.toNat).all g.params.contains) = true from fun j g hj hg => by
                          rcases Nat.lt_or_ge j m with h3 | h3
                          · exact HK.out j g h3 hg
                          · obtain rfl : j = m := by omega
                            rw [hf] at hg; rw [← Option.some.inj hg]; exact hb2)
                        clear hf hfb hfp hrg hfl hbw hbk hiv hb hb2 hx
                        go_wp2_with (go_at_call 13; ((with_reducible refine (HCC.out).mono ?_); rintro e w' ⟨rfl, rfl⟩))
                        go_roundw
                        case rel => exact ⟨m + 1, by omega, by go_num, HK2, HS2⟩
                        case measure => simp [intOf]; omega
                      · have hrr := HRR2.out
                        rw [if_pos (HNO.out m f hf hb2)] at hrr
                        subst hrr
                        clear hf hfb hfp hrg hfl hbw hbk hiv hb hb2 hx
                        go_wp2_with (go_at_call 13; ((with_reducible refine (HCC.out).mono ?_); rintro e w' ⟨rfl, rfl⟩))
                        go_ret
                        exact ⟨rfl, HB.out.trans (HS2.out.bel.mono HB.out.size)⟩
                    · have q : ¬ (m : Int) < (fs.length : Int) := by omega
                      have hrr := HRR2.out
                      rw [if_neg (by rw [HYE.out (fun j f hj hf => HK.out j f (by omega) hf)]; simp)] at hrr
                      subst hrr
                      clear hge hm
                      go_wp2_with fail
                      go_ret
                      exact ⟨rfl, HB.out.trans (HS.out.bel.mono HB.out.size)⟩
end Go.Proofs.YtjhdlnllhjffkaaGreatDoor
