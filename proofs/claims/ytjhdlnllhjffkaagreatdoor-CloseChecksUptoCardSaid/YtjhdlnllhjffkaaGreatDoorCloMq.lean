/- Close: the reference's nodes. Close: the reference's function. -/
import Derived.Test.YtjhdlnllhjffkaaGreatDoorCloR
import Derived.Test.YtjhdlnllhjffkaaGreatDoorCpsFo
import Derived.Test.YtjhdlnllhjffkaaGreatDoorCloMk
import Derived.Test.YtjhdlnllhjffkaaGreatDoorCloMn
import Derived.Test.YtjhdlnllhjffkaaGreatDoorCloMg
import Derived.Test.YtjhdlnllhjffkaaGreatDoorCpsA
namespace Go.Proofs.YtjhdlnllhjffkaaGreatDoor
open Go.RowKit LamM CpsM CloM

/-- The state of Check's rounds. -/
structure CkF (w0 : World) (n' gb : Nat) (pv : Value) (inb : Nat → Bool) (bx : Array Value) (wr : World) : Prop where
  own : wr.ownsRow gb 4 1 (.slice (some ⟨gb, 0, none⟩) n' n') n' (boolVals n' inb)
  prv : PV wr wr.heap.size pv primTab
  bel : Below w0.heap.size w0 wr
  box : Blk wr w0.heap.size 25 bx
section
variable {w0 wr w' : World} {n' gb : Nat} {pv : Value} {inb : Nat → Bool} {bx : Array Value}
theorem CkF.below (H : CkF w0 n' gb pv inb bx wr) (hb : Below wr.heap.size wr w') : CkF w0 n' gb pv inb bx w' :=
  ⟨ownsRow_below H.own hb, H.prv.below hb, H.bel.trans (hb.mono H.bel.size), H.box.below hb H.box.lt⟩
theorem CkF.drewN (H : CkF w0 n' gb pv inb bx wr) (k : Nat) : CkF w0 n' gb pv inb bx (wr.drewN k) := H.below ⟨rfl, rfl, rfl, Nat.le_refl _, fun _ _ => rfl⟩
theorem CkF.drew (H : CkF w0 n' gb pv inb bx wr) : CkF w0 n' gb pv inb bx wr.drew := H.below (Below.drew (Below.refl _ _))
theorem CkF.made (H : CkF w0 n' gb pv inb bx wr) {i : Nat} (hi : i < n') : wr.cell? ⟨gb, i, none⟩ = some (.bool (inb i)) := by
  rw [World.ownsRow.cellAt H.own i (by omega), boolVals_get hi]
end
theorem orderS_other {L : List Fl} {t : Fl} (h : t.k ≠ 8) : orderS prims L t = true := by unfold orderS; rw [decide_eq_true h]; rfl
theorem orderS_unfit {L : List Fl} {t : Fl} (h : primOkC prims t = false) : orderS prims L t = true := by unfold orderS; rw [h]; simp
theorem orderS_fit {L : List Fl} {t : Fl} {y a : Nat} {p : Pr} (hk : t.k = 8) (h : primOkC prims t = true) (hy : t.m = (y : Int)) (hp : primTab[y]? = some p) (ha : p.args = (a : Int)) :
    orderS prims L t = (atomsB L (t.args.take a) && movesG L (t.args.drop a)) := by
  unfold orderS
  rw [decide_eq_false (by omega), h, hy, Int.toNat_natCast, show prims[y]? = some ⟨p.args, p.raises⟩ by unfold prims; rw [List.getElem?_map, hp]; rfl]
  show (false || !true || (atomsB L (t.args.take p.args.toNat) && movesG L (t.args.drop p.args.toNat))) = _
  rw [ha, Int.toNat_natCast]; rfl
set_option maxRecDepth 100000 in
set_option maxHeartbeats 8000000 in
theorem nodes_any (L : List Fl) (A FA : Option Addr) (c fn fcp gb : Nat) (entry : Int) (pv : Value) (inb : Nat → Bool) (w : World) (hL0 : 0 < L.length) (hN : NF w w.heap.size (.slice A L.length c) L) (hob : w.ownsRow gb 4 1 (.slice (some ⟨gb, 0, none⟩) L.length L.length) L.length (boolVals L.length inb)) (hP : PV w w.heap.size pv primTab)
    (hA : ∀ i, inb i = true → ∀ a ∈ argsAt (tms L) i, 0 ≤ a ∧ a < (i : Int)) :
    Calls Tryz.prog 17 #[.agg #[.slice A L.length c, .slice FA fn fcp, .int .i64 entry], .slice (some ⟨gb, 0, none⟩) L.length L.length, pv] w fun e w' => e = .returned (.bool (allC (formedRS prims L) inb L L.length)) ∧ Below w.heap.size w w' := by
  obtain ⟨A', c', e, hc1, hc2⟩ := hN.len
  injection e with e1 e2 e3
  subst e1 e3
  obtain ⟨t0, ht0⟩ : ∃ t0, L[0]? = some t0 := ⟨_, List.getElem?_eq_getElem hL0⟩
  obtain ⟨ad0, _, _, _, rfl, _⟩ := hN.at_ ht0
  obtain ⟨PA, pc, hpe, hpc1, hpc2⟩ := hP.len
  rw [primTab_len] at hpe
  subst hpe
  obtain ⟨W0, hW0⟩ : ∃ W0, w.alloc (.cells #[.slice (some ad0) L.length c, .slice FA fn fcp, .int .i64 entry] 25) = W0 := ⟨_, rfl⟩
  have hbw : Below w.heap.size w W0 := by rw [← hW0]; exact (Below.refl _ _).alloc (Nat.le_refl _) _
  have HN := Lib.hid hN
  have HS0 := Lib.hid (show CkF w L.length gb (.slice (some PA) 61 pc) inb #[.slice (some ad0) L.length c, .slice FA fn fcp, .int .i64 entry] W0 from ⟨ownsRow_below hob hbw, hP.below hbw, hbw, by rw [← hW0]; exact Blk.new _ _ _⟩)
  have HRG2 := Lib.hid hA
  have hLn : L.length ≤ 1300000000000 := by omega
  obtain ⟨RC, hRC⟩ : ∃ RC, allC (formedRS prims L) inb L L.length = RC := ⟨_, rfl⟩
  have HRC := Lib.hid hRC
  rw [hRC]
  clear hN hob hP hA hRC ht0 hbw hL0
  go_enter Tryz.func17, Tryz.ntmps17
  go_wp2_with fail
  clear hW0
  go_loopw [7] (fun ix wr => ∃ (k : Nat), k ≤ L.length ∧ ix = .int .i64 (k : Int) ∧ Hid (allC (formedRS prims L) inb L k = true) ∧ Hid (CkF w L.length gb (.slice (some PA) 61 pc) inb #[.slice (some ad0) L.length c, .slice FA fn fcp, .int .i64 entry] wr)) (fun ix _ => L.length - (intOf ix).toNat)
  case atStart => exact ⟨0, Nat.zero_le _, rfl, rfl, HS0⟩
  case round =>
    obtain ⟨k, hk, rfl, HF, HS⟩ := hrel
    obtain ⟨wo, rfl⟩ : ∃ wo : World, wo = wr := ⟨_, rfl⟩
    rcases Nat.lt_or_ge k L.length with hlt | hge
    · obtain ⟨t, ht⟩ : ∃ t, L[k]? = some t := ⟨_, List.getElem?_eq_getElem (by omega)⟩
      have HNr := NF.below HN.out HS.out.bel
      obtain ⟨adx, vv, kv, av, hadE, had, htv, a0, a1, a2, a3, a4, a5, a6, a7, a8⟩ := HNr.at9 ht
      obtain rfl := Option.some.inj hadE
      obtain ⟨VA, vc, rfl, _, _⟩ := htv.v.len
      obtain ⟨KA, kc, rfl, _, _⟩ := htv.k.len
      obtain ⟨AA, ac, rfl, ha1, ha2⟩ := htv.a.len
      have lv := htv.lv
      have lk := htv.lk
      have la := htv.la
      obtain ⟨W1, hW⟩ : ∃ W1, wo.alloc (BoxF t (.slice VA t.vars.length vc) (.slice KA t.keys.length kc) (.slice AA t.args.length ac)) = W1 := ⟨_, rfl⟩
      have hbw : Below wo.heap.size wo W1 := by rw [← hW]; exact (Below.refl _ _).alloc (Nat.le_refl _) _
      have HBX := Lib.hid (show Blk W1 wo.heap.size 43 #[.int .i64 t.k, .int .i64 t.n, .int .i64 t.m, .int .i64 t.i, .int .u64 t.b, .string ⟨t.t.toArray⟩, .slice VA t.vars.length vc, .slice KA t.keys.length kc, .slice AA t.args.length ac] by rw [← hW]; exact Blk.new _ _ _)
      have HS1 := Lib.hid (HS.out.below hbw)
      have cin := HS1.out.made hlt
      have HNW := Lib.hid (NF.below HNr hbw)
      have HTW := Lib.hid (htv.below hbw)
      have e0 : wo.cell? ⟨w.heap.size, 0, none⟩ = some (.slice (some ad0) L.length c) := HS.out.box.cell 0
      unfold BoxF at hW
      have hkL : (k : Int) < (L.length : Int) := by omega
      clear HNr
      cases hin : inb k
      · rw [hin] at cin
        have HF2 := Lib.hid (show allC (formedRS prims L) inb L (k + 1) = true by rw [all_skip hin]; exact HF.out)
        clear ht hin htv hbw
        go_wp2_with fail
        go_roundw
        case rel => exact ⟨k + 1, by omega, by go_num, HF2, HS1⟩
        case measure => simp [intOf]; omega
      · rw [hin] at cin
        have b0 : W1.cell? ⟨w.heap.size, 0, none⟩ = some (.slice (some ad0) L.length c) := HS1.out.box.cell 0
        have hfn := all_made (P := formedRS prims L) (L := L) hin ht
        rw [HF.out, Bool.true_and] at hfn
        have harg : ∀ a ∈ t.args, 0 ≤ a ∧ a < (L.length : Int) := fun a ha => by
          have := HRG2.out k hin a (by rw [argsC_at ht]; exact ha)
          omega
        have hc0 : W1.cell? ⟨wo.heap.size, 0, none⟩ = some (.int .i64 t.k) := HBX.out.cell 0
        have hc1 : W1.cell? ⟨wo.heap.size, 1, none⟩ = some (.int .i64 t.n) := HBX.out.cell 1
        have hc2 : W1.cell? ⟨wo.heap.size, 2, none⟩ = some (.int .i64 t.m) := HBX.out.cell 2
        have hc3 : W1.cell? ⟨wo.heap.size, 3, none⟩ = some (.int .i64 t.i) := HBX.out.cell 3
        have hc4 : W1.cell? ⟨wo.heap.size, 4, none⟩ = some (.int .u64 t.b) := HBX.out.cell 4
        have hc5 : W1.cell? ⟨wo.heap.size, 5, none⟩ = some (.string ⟨t.t.toArray⟩) := HBX.out.cell 5
        have hc6 : W1.cell? ⟨wo.heap.size, 6, none⟩ = some (.slice VA t.vars.length vc) := HBX.out.cell 6
        have hc7 : W1.cell? ⟨wo.heap.size, 7, none⟩ = some (.slice KA t.keys.length kc) := HBX.out.cell 7
        have hc8 : W1.cell? ⟨wo.heap.size, 8, none⟩ = some (.slice AA t.args.length ac) := HBX.out.cell 8
        have HFM := Lib.hid (sformed_any L t _ _ _ _ W1 HNW.out HTW.out harg)
        have HPM := Lib.hid (fun w2 (h1 : NF w2 w2.heap.size (.slice (some ad0) L.length c) L) h2 h3 => sprim_any t (.slice (some ad0) L.length c) (.slice VA t.vars.length vc) (.slice KA t.keys.length kc) (.slice AA t.args.length ac) (.slice (some PA) 61 pc) w2 h3 h2)
        have HIN := Lib.hid hin
        have HARG := Lib.hid harg
        unfold flVals at HFM HPM
        rw [show formedRS prims L t = (formedS L t && orderS prims L t) from rfl] at hfn
        clear ht hin htv hbw harg
        cases hfo : formedS L t
        · rw [hfo] at hfn HFM
          have HR2 := Lib.hid (show RC = false from HRC.out.symm.trans (allC_false (i := k + 1) (by omega) hfn))
          clear hfo hfn
          go_wp2_with (go_at_call 38; ((with_reducible refine (HFM.out).mono ?_); rintro e w4 ⟨rfl, hb4⟩; have HS4 := Lib.hid (HS1.out.below hb4); have HX4 := Lib.hid (HBX.out.below hb4 HBX.out.lt); have HT4 := Lib.hid (HTW.out.below hb4); have HN4 := Lib.hid (HNW.out.below hb4); have d40 : w4.cell? ⟨wo.heap.size, 0, none⟩ = some (.int .i64 t.k) := HX4.out.cell 0; have d41 : w4.cell? ⟨wo.heap.size, 1, none⟩ = some (.int .i64 t.n) := HX4.out.cell 1; have d42 : w4.cell? ⟨wo.heap.size, 2, none⟩ = some (.int .i64 t.m) := HX4.out.cell 2; have d43 : w4.cell? ⟨wo.heap.size, 3, none⟩ = some (.int .i64 t.i) := HX4.out.cell 3; have d44 : w4.cell? ⟨wo.heap.size, 4, none⟩ = some (.int .u64 t.b) := HX4.out.cell 4; have d45 : w4.cell? ⟨wo.heap.size, 5, none⟩ = some (.string ⟨t.t.toArray⟩) := HX4.out.cell 5; have d46 : w4.cell? ⟨wo.heap.size, 6, none⟩ = some (.slice VA t.vars.length vc) := HX4.out.cell 6; have d47 : w4.cell? ⟨wo.heap.size, 7, none⟩ = some (.slice KA t.keys.length kc) := HX4.out.cell 7; have d48 : w4.cell? ⟨wo.heap.size, 8, none⟩ = some (.slice AA t.args.length ac) := HX4.out.cell 8; have f40 : w4.cell? ⟨w.heap.size, 0, none⟩ = some (.slice (some ad0) L.length c) := HS4.out.box.cell 0; have f41 := HS4.out.made hlt; rw [HIN.out] at f41; clear hb4))
          go_ret
          exact ⟨by rw [HR2.out]; rfl, HS4.out.bel⟩
        · rw [hfo, Bool.true_and] at hfn
          rw [hfo] at HFM
          clear hfo
          by_cases k8 : t.k = 8
          · have q8 := b_true k8
            cases hpo : primOkC prims t
            · rw [hpo] at HPM
              have HF2 := Lib.hid (show allC (formedRS prims L) inb L (k + 1) = true by rw [hfn]; exact orderS_unfit hpo)
              clear k8 hpo hfn
              go_wp2_with (first
                | (go_at_call 38; ((with_reducible refine (HFM.out).mono ?_); rintro e w4 ⟨rfl, hb4⟩; have HS4 := Lib.hid (HS1.out.below hb4); have HX4 := Lib.hid (HBX.out.below hb4 HBX.out.lt); have HT4 := Lib.hid (HTW.out.below hb4); have HN4 := Lib.hid (HNW.out.below hb4); have d40 : w4.cell? ⟨wo.heap.size, 0, none⟩ = some (.int .i64 t.k) := HX4.out.cell 0; have d41 : w4.cell? ⟨wo.heap.size, 1, none⟩ = some (.int .i64 t.n) := HX4.out.cell 1; have d42 : w4.cell? ⟨wo.heap.size, 2, none⟩ = some (.int .i64 t.m) := HX4.out.cell 2; have d43 : w4.cell? ⟨wo.heap.size, 3, none⟩ = some (.int .i64 t.i) := HX4.out.cell 3; have d44 : w4.cell? ⟨wo.heap.size, 4, none⟩ = some (.int .u64 t.b) := HX4.out.cell 4; have d45 : w4.cell? ⟨wo.heap.size, 5, none⟩ = some (.string ⟨t.t.toArray⟩) := HX4.out.cell 5; have d46 : w4.cell? ⟨wo.heap.size, 6, none⟩ = some (.slice VA t.vars.length vc) := HX4.out.cell 6; have d47 : w4.cell? ⟨wo.heap.size, 7, none⟩ = some (.slice KA t.keys.length kc) := HX4.out.cell 7; have d48 : w4.cell? ⟨wo.heap.size, 8, none⟩ = some (.slice AA t.args.length ac) := HX4.out.cell 8; have f40 : w4.cell? ⟨w.heap.size, 0, none⟩ = some (.slice (some ad0) L.length c) := HS4.out.box.cell 0; have f41 := HS4.out.made hlt; rw [HIN.out] at f41; clear hb4))
                | (go_at_call 18; ((with_reducible refine (HPM.out _ HN4.out HT4.out HS4.out.prv).mono ?_); rintro e w5 ⟨rfl, hb5⟩; have HS5 := Lib.hid (HS4.out.below hb5); have HX5 := Lib.hid (HX4.out.below hb5 HX4.out.lt); have HT5 := Lib.hid (HT4.out.below hb5); have HN5 := Lib.hid (HN4.out.below hb5); have d50 : w5.cell? ⟨wo.heap.size, 0, none⟩ = some (.int .i64 t.k) := HX5.out.cell 0; have d51 : w5.cell? ⟨wo.heap.size, 1, none⟩ = some (.int .i64 t.n) := HX5.out.cell 1; have d52 : w5.cell? ⟨wo.heap.size, 2, none⟩ = some (.int .i64 t.m) := HX5.out.cell 2; have d53 : w5.cell? ⟨wo.heap.size, 3, none⟩ = some (.int .i64 t.i) := HX5.out.cell 3; have d54 : w5.cell? ⟨wo.heap.size, 4, none⟩ = some (.int .u64 t.b) := HX5.out.cell 4; have d55 : w5.cell? ⟨wo.heap.size, 5, none⟩ = some (.string ⟨t.t.toArray⟩) := HX5.out.cell 5; have d56 : w5.cell? ⟨wo.heap.size, 6, none⟩ = some (.slice VA t.vars.length vc) := HX5.out.cell 6; have d57 : w5.cell? ⟨wo.heap.size, 7, none⟩ = some (.slice KA t.keys.length kc) := HX5.out.cell 7; have d58 : w5.cell? ⟨wo.heap.size, 8, none⟩ = some (.slice AA t.args.length ac) := HX5.out.cell 8; have f50 : w5.cell? ⟨w.heap.size, 0, none⟩ = some (.slice (some ad0) L.length c) := HS5.out.box.cell 0; clear hb5)))
              go_roundw
              case rel => exact ⟨k + 1, by omega, by go_num, HF2, HS5⟩
              case measure => simp [intOf]; omega
            · rw [hpo] at HPM
              have m0 : ¬ t.m < 0 := fun h => by rw [primC_low h] at hpo; cases hpo
              have m61 : ¬ 61 ≤ t.m := fun h => by rw [primC_high h] at hpo; cases hpo
              obtain ⟨y, hy⟩ : ∃ y : Nat, t.m = (y : Int) := ⟨t.m.toNat, by omega⟩
              obtain ⟨p, hpt⟩ : ∃ p, primTab[y]? = some p := ⟨_, List.getElem?_eq_getElem (by rw [primTab_len]; omega)⟩
              obtain ⟨hs1, hs2, hs3⟩ := args_small p (List.mem_of_getElem? hpt)
              obtain ⟨a, ha⟩ : ∃ a : Nat, p.args = (a : Int) := ⟨p.args.toNat, by omega⟩
              have hwl : (t.args.length : Int) = wantsOf ⟨p.args, p.raises⟩ := by rw [primC_at hy hpt] at hpo; exact of_decide_eq_true hpo
              have hwg := wants_ge p
              rw [orderS_fit k8 hpo hy hpt ha] at hfn
              have hy0 : (y : Int) < 61 := by omega
              have hy1 : (0 : Int) ≤ (y : Int) := by omega
              have HKA := Lib.hid (fun w2 (h1 : NF w2 w2.heap.size (.slice (some ad0) L.length c) L) (h2 : FV w2 w2.heap.size t (.slice VA t.vars.length vc) (.slice KA t.keys.length kc) (.slice AA t.args.length ac)) => skindsA_any L t _ _ _ _ 0 a w2 h1 h2 HARG.out (by omega) (by omega))
              have HKM := Lib.hid (fun w2 (h1 : NF w2 w2.heap.size (.slice (some ad0) L.length c) L) (h2 : FV w2 w2.heap.size t (.slice VA t.vars.length vc) (.slice KA t.keys.length kc) (.slice AA t.args.length ac)) => skindsM_any L t _ _ _ _ a t.args.length w2 h1 h2 HARG.out (by omega) (by omega))
              rw [List.drop_zero, Nat.sub_zero, show ((0 : Nat) : Int) = 0 from rfl] at HKA
              rw [drop_whole rfl] at HKM
              unfold flVals at HKA HKM
              have HY := Lib.hid hy
              rw [HY.out] at HKA HKM
              have HPT := Lib.hid hpt
              have HAE := Lib.hid ha
              clear m0 m61 hs1 hs2 hs3 hwl hwg hpo k8 hy hpt ha
              cases hx1 : atomsB L (t.args.take a)
              · rw [hx1] at hfn HKA
                have HR2 := Lib.hid (show RC = false from HRC.out.symm.trans (allC_false (i := k + 1) (by omega) hfn))
                clear hfn hx1
                go_wp2_with (first
                  | (go_at_call 38; ((with_reducible refine (HFM.out).mono ?_); rintro e w4 ⟨rfl, hb4⟩; have HS4 := Lib.hid (HS1.out.below hb4); have HX4 := Lib.hid (HBX.out.below hb4 HBX.out.lt); have HT4 := Lib.hid (HTW.out.below hb4); have HN4 := Lib.hid (HNW.out.below hb4); have d40 : w4.cell? ⟨wo.heap.size, 0, none⟩ = some (.int .i64 t.k) := HX4.out.cell 0; have d41 : w4.cell? ⟨wo.heap.size, 1, none⟩ = some (.int .i64 t.n) := HX4.out.cell 1; have d42 : w4.cell? ⟨wo.heap.size, 2, none⟩ = some (.int .i64 t.m) := HX4.out.cell 2; have d43 : w4.cell? ⟨wo.heap.size, 3, none⟩ = some (.int .i64 t.i) := HX4.out.cell 3; have d44 : w4.cell? ⟨wo.heap.size, 4, none⟩ = some (.int .u64 t.b) := HX4.out.cell 4; have d45 : w4.cell? ⟨wo.heap.size, 5, none⟩ = some (.string ⟨t.t.toArray⟩) := HX4.out.cell 5; have d46 : w4.cell? ⟨wo.heap.size, 6, none⟩ = some (.slice VA t.vars.length vc) := HX4.out.cell 6; have d47 : w4.cell? ⟨wo.heap.size, 7, none⟩ = some (.slice KA t.keys.length kc) := HX4.out.cell 7; have d48 : w4.cell? ⟨wo.heap.size, 8, none⟩ = some (.slice AA t.args.length ac) := HX4.out.cell 8; have f40 : w4.cell? ⟨w.heap.size, 0, none⟩ = some (.slice (some ad0) L.length c) := HS4.out.box.cell 0; have f41 := HS4.out.made hlt; rw [HIN.out] at f41; clear hb4))
                  | (go_at_call 18; ((with_reducible refine (HPM.out _ HN4.out HT4.out HS4.out.prv).mono ?_); rintro e w5 ⟨rfl, hb5⟩; have HS5 := Lib.hid (HS4.out.below hb5); have HX5 := Lib.hid (HX4.out.below hb5 HX4.out.lt); have HT5 := Lib.hid (HT4.out.below hb5); have HN5 := Lib.hid (HN4.out.below hb5); have d50 : w5.cell? ⟨wo.heap.size, 0, none⟩ = some (.int .i64 t.k) := HX5.out.cell 0; have d51 : w5.cell? ⟨wo.heap.size, 1, none⟩ = some (.int .i64 t.n) := HX5.out.cell 1; have d52 : w5.cell? ⟨wo.heap.size, 2, none⟩ = some (.int .i64 t.m) := HX5.out.cell 2; have d53 : w5.cell? ⟨wo.heap.size, 3, none⟩ = some (.int .i64 t.i) := HX5.out.cell 3; have d54 : w5.cell? ⟨wo.heap.size, 4, none⟩ = some (.int .u64 t.b) := HX5.out.cell 4; have d55 : w5.cell? ⟨wo.heap.size, 5, none⟩ = some (.string ⟨t.t.toArray⟩) := HX5.out.cell 5; have d56 : w5.cell? ⟨wo.heap.size, 6, none⟩ = some (.slice VA t.vars.length vc) := HX5.out.cell 6; have d57 : w5.cell? ⟨wo.heap.size, 7, none⟩ = some (.slice KA t.keys.length kc) := HX5.out.cell 7; have d58 : w5.cell? ⟨wo.heap.size, 8, none⟩ = some (.slice AA t.args.length ac) := HX5.out.cell 8; have f50 : w5.cell? ⟨w.heap.size, 0, none⟩ = some (.slice (some ad0) L.length c) := HS5.out.box.cell 0; rw [HY.out] at d52; obtain ⟨ty, rv, _, _, _, _, ca, _, _⟩ := HS5.out.prv.at_ HPT.out; replace ca := spell9 (j := 1) ca; rw [HAE.out] at ca; have HTY := Lib.hid HT5.out; clear hb5))
                  | (go_at_call 39; ((with_reducible refine (HKA.out _ HN5.out HT5.out).mono ?_); rintro e w6 ⟨rfl, hb6⟩; have HS6 := Lib.hid (HS5.out.below hb6); have HX6 := Lib.hid (HX5.out.below hb6 HX5.out.lt); have HT6 := Lib.hid (HT5.out.below hb6); have HN6 := Lib.hid (HN5.out.below hb6); have d60 : w6.cell? ⟨wo.heap.size, 0, none⟩ = some (.int .i64 t.k) := HX6.out.cell 0; have d61 : w6.cell? ⟨wo.heap.size, 1, none⟩ = some (.int .i64 t.n) := HX6.out.cell 1; have d62 : w6.cell? ⟨wo.heap.size, 2, none⟩ = some (.int .i64 t.m) := HX6.out.cell 2; have d63 : w6.cell? ⟨wo.heap.size, 3, none⟩ = some (.int .i64 t.i) := HX6.out.cell 3; have d64 : w6.cell? ⟨wo.heap.size, 4, none⟩ = some (.int .u64 t.b) := HX6.out.cell 4; have d65 : w6.cell? ⟨wo.heap.size, 5, none⟩ = some (.string ⟨t.t.toArray⟩) := HX6.out.cell 5; have d66 : w6.cell? ⟨wo.heap.size, 6, none⟩ = some (.slice VA t.vars.length vc) := HX6.out.cell 6; have d67 : w6.cell? ⟨wo.heap.size, 7, none⟩ = some (.slice KA t.keys.length kc) := HX6.out.cell 7; have d68 : w6.cell? ⟨wo.heap.size, 8, none⟩ = some (.slice AA t.args.length ac) := HX6.out.cell 8; rw [HY.out] at d62; have f60 : w6.cell? ⟨w.heap.size, 0, none⟩ = some (.slice (some ad0) L.length c) := HS6.out.box.cell 0; clear hb6)))
                go_ret
                exact ⟨by rw [HR2.out]; rfl, HS6.out.bel⟩
              · rw [hx1, Bool.true_and] at hfn
                rw [hx1] at HKA
                clear hx1
                cases hx2 : movesG L (t.args.drop a)
                · rw [hx2] at hfn HKM
                  have HR2 := Lib.hid (show RC = false from HRC.out.symm.trans (allC_false (i := k + 1) (by omega) hfn))
                  clear hfn hx2
                  go_wp2_with (first
                    | (go_at_call 38; ((with_reducible refine (HFM.out).mono ?_); rintro e w4 ⟨rfl, hb4⟩; have HS4 := Lib.hid (HS1.out.below hb4); have HX4 := Lib.hid (HBX.out.below hb4 HBX.out.lt); have HT4 := Lib.hid (HTW.out.below hb4); have HN4 := Lib.hid (HNW.out.below hb4); have d40 : w4.cell? ⟨wo.heap.size, 0, none⟩ = some (.int .i64 t.k) := HX4.out.cell 0; have d41 : w4.cell? ⟨wo.heap.size, 1, none⟩ = some (.int .i64 t.n) := HX4.out.cell 1; have d42 : w4.cell? ⟨wo.heap.size, 2, none⟩ = some (.int .i64 t.m) := HX4.out.cell 2; have d43 : w4.cell? ⟨wo.heap.size, 3, none⟩ = some (.int .i64 t.i) := HX4.out.cell 3; have d44 : w4.cell? ⟨wo.heap.size, 4, none⟩ = some (.int .u64 t.b) := HX4.out.cell 4; have d45 : w4.cell? ⟨wo.heap.size, 5, none⟩ = some (.string ⟨t.t.toArray⟩) := HX4.out.cell 5; have d46 : w4.cell? ⟨wo.heap.size, 6, none⟩ = some (.slice VA t.vars.length vc) := HX4.out.cell 6; have d47 : w4.cell? ⟨wo.heap.size, 7, none⟩ = some (.slice KA t.keys.length kc) := HX4.out.cell 7; have d48 : w4.cell? ⟨wo.heap.size, 8, none⟩ = some (.slice AA t.args.length ac) := HX4.out.cell 8; have f40 : w4.cell? ⟨w.heap.size, 0, none⟩ = some (.slice (some ad0) L.length c) := HS4.out.box.cell 0; have f41 := HS4.out.made hlt; rw [HIN.out] at f41; clear hb4))
                    | (go_at_call 18; ((with_reducible refine (HPM.out _ HN4.out HT4.out HS4.out.prv).mono ?_); rintro e w5 ⟨rfl, hb5⟩; have HS5 := Lib.hid (HS4.out.below hb5); have HX5 := Lib.hid (HX4.out.below hb5 HX4.out.lt); have HT5 := Lib.hid (HT4.out.below hb5); have HN5 := Lib.hid (HN4.out.below hb5); have d50 : w5.cell? ⟨wo.heap.size, 0, none⟩ = some (.int .i64 t.k) := HX5.out.cell 0; have d51 : w5.cell? ⟨wo.heap.size, 1, none⟩ = some (.int .i64 t.n) := HX5.out.cell 1; have d52 : w5.cell? ⟨wo.heap.size, 2, none⟩ = some (.int .i64 t.m) := HX5.out.cell 2; have d53 : w5.cell? ⟨wo.heap.size, 3, none⟩ = some (.int .i64 t.i) := HX5.out.cell 3; have d54 : w5.cell? ⟨wo.heap.size, 4, none⟩ = some (.int .u64 t.b) := HX5.out.cell 4; have d55 : w5.cell? ⟨wo.heap.size, 5, none⟩ = some (.string ⟨t.t.toArray⟩) := HX5.out.cell 5; have d56 : w5.cell? ⟨wo.heap.size, 6, none⟩ = some (.slice VA t.vars.length vc) := HX5.out.cell 6; have d57 : w5.cell? ⟨wo.heap.size, 7, none⟩ = some (.slice KA t.keys.length kc) := HX5.out.cell 7; have d58 : w5.cell? ⟨wo.heap.size, 8, none⟩ = some (.slice AA t.args.length ac) := HX5.out.cell 8; have f50 : w5.cell? ⟨w.heap.size, 0, none⟩ = some (.slice (some ad0) L.length c) := HS5.out.box.cell 0; rw [HY.out] at d52; obtain ⟨ty, rv, _, _, _, _, ca, _, _⟩ := HS5.out.prv.at_ HPT.out; replace ca := spell9 (j := 1) ca; rw [HAE.out] at ca; have HTY := Lib.hid HT5.out; clear hb5))
                    | (go_at_call 39; ((with_reducible refine (HKA.out _ HN5.out HT5.out).mono ?_); rintro e w6 ⟨rfl, hb6⟩; have HS6 := Lib.hid (HS5.out.below hb6); have HX6 := Lib.hid (HX5.out.below hb6 HX5.out.lt); have HT6 := Lib.hid (HT5.out.below hb6); have HN6 := Lib.hid (HN5.out.below hb6); have d60 : w6.cell? ⟨wo.heap.size, 0, none⟩ = some (.int .i64 t.k) := HX6.out.cell 0; have d61 : w6.cell? ⟨wo.heap.size, 1, none⟩ = some (.int .i64 t.n) := HX6.out.cell 1; have d62 : w6.cell? ⟨wo.heap.size, 2, none⟩ = some (.int .i64 t.m) := HX6.out.cell 2; have d63 : w6.cell? ⟨wo.heap.size, 3, none⟩ = some (.int .i64 t.i) := HX6.out.cell 3; have d64 : w6.cell? ⟨wo.heap.size, 4, none⟩ = some (.int .u64 t.b) := HX6.out.cell 4; have d65 : w6.cell? ⟨wo.heap.size, 5, none⟩ = some (.string ⟨t.t.toArray⟩) := HX6.out.cell 5; have d66 : w6.cell? ⟨wo.heap.size, 6, none⟩ = some (.slice VA t.vars.length vc) := HX6.out.cell 6; have d67 : w6.cell? ⟨wo.heap.size, 7, none⟩ = some (.slice KA t.keys.length kc) := HX6.out.cell 7; have d68 : w6.cell? ⟨wo.heap.size, 8, none⟩ = some (.slice AA t.args.length ac) := HX6.out.cell 8; rw [HY.out] at d62; have f60 : w6.cell? ⟨w.heap.size, 0, none⟩ = some (.slice (some ad0) L.length c) := HS6.out.box.cell 0; clear hb6))
                    | (go_at_call 39; ((with_reducible refine (HKM.out _ HN6.out HT6.out).mono ?_); rintro e w7 ⟨rfl, hb7⟩; have HS7 := Lib.hid (HS6.out.below hb7); clear hb7)))
                  go_ret
                  exact ⟨by rw [HR2.out]; rfl, HS7.out.bel⟩
                · rw [hx2] at hfn HKM
                  have HF2 := Lib.hid hfn
                  clear hfn hx2
                  go_wp2_with (first
                    | (go_at_call 38; ((with_reducible refine (HFM.out).mono ?_); rintro e w4 ⟨rfl, hb4⟩; have HS4 := Lib.hid (HS1.out.below hb4); have HX4 := Lib.hid (HBX.out.below hb4 HBX.out.lt); have HT4 := Lib.hid (HTW.out.below hb4); have HN4 := Lib.hid (HNW.out.below hb4); have d40 : w4.cell? ⟨wo.heap.size, 0, none⟩ = some (.int .i64 t.k) := HX4.out.cell 0; have d41 : w4.cell? ⟨wo.heap.size, 1, none⟩ = some (.int .i64 t.n) := HX4.out.cell 1; have d42 : w4.cell? ⟨wo.heap.size, 2, none⟩ = some (.int .i64 t.m) := HX4.out.cell 2; have d43 : w4.cell? ⟨wo.heap.size, 3, none⟩ = some (.int .i64 t.i) := HX4.out.cell 3; have d44 : w4.cell? ⟨wo.heap.size, 4, none⟩ = some (.int .u64 t.b) := HX4.out.cell 4; have d45 : w4.cell? ⟨wo.heap.size, 5, none⟩ = some (.string ⟨t.t.toArray⟩) := HX4.out.cell 5; have d46 : w4.cell? ⟨wo.heap.size, 6, none⟩ = some (.slice VA t.vars.length vc) := HX4.out.cell 6; have d47 : w4.cell? ⟨wo.heap.size, 7, none⟩ = some (.slice KA t.keys.length kc) := HX4.out.cell 7; have d48 : w4.cell? ⟨wo.heap.size, 8, none⟩ = some (.slice AA t.args.length ac) := HX4.out.cell 8; have f40 : w4.cell? ⟨w.heap.size, 0, none⟩ = some (.slice (some ad0) L.length c) := HS4.out.box.cell 0; have f41 := HS4.out.made hlt; rw [HIN.out] at f41; clear hb4))
                    | (go_at_call 18; ((with_reducible refine (HPM.out _ HN4.out HT4.out HS4.out.prv).mono ?_); rintro e w5 ⟨rfl, hb5⟩; have HS5 := Lib.hid (HS4.out.below hb5); have HX5 := Lib.hid (HX4.out.below hb5 HX4.out.lt); have HT5 := Lib.hid (HT4.out.below hb5); have HN5 := Lib.hid (HN4.out.below hb5); have d50 : w5.cell? ⟨wo.heap.size, 0, none⟩ = some (.int .i64 t.k) := HX5.out.cell 0; have d51 : w5.cell? ⟨wo.heap.size, 1, none⟩ = some (.int .i64 t.n) := HX5.out.cell 1; have d52 : w5.cell? ⟨wo.heap.size, 2, none⟩ = some (.int .i64 t.m) := HX5.out.cell 2; have d53 : w5.cell? ⟨wo.heap.size, 3, none⟩ = some (.int .i64 t.i) := HX5.out.cell 3; have d54 : w5.cell? ⟨wo.heap.size, 4, none⟩ = some (.int .u64 t.b) := HX5.out.cell 4; have d55 : w5.cell? ⟨wo.heap.size, 5, none⟩ = some (.string ⟨t.t.toArray⟩) := HX5.out.cell 5; have d56 : w5.cell? ⟨wo.heap.size, 6, none⟩ = some (.slice VA t.vars.length vc) := HX5.out.cell 6; have d57 : w5.cell? ⟨wo.heap.size, 7, none⟩ = some (.slice KA t.keys.length kc) := HX5.out.cell 7; have d58 : w5.cell? ⟨wo.heap.size, 8, none⟩ = some (.slice AA t.args.length ac) := HX5.out.cell 8; have f50 : w5.cell? ⟨w.heap.size, 0, none⟩ = some (.slice (some ad0) L.length c) := HS5.out.box.cell 0; rw [HY.out] at d52; obtain ⟨ty, rv, _, _, _, _, ca, _, _⟩ := HS5.out.prv.at_ HPT.out; replace ca := spell9 (j := 1) ca; rw [HAE.out] at ca; have HTY := Lib.hid HT5.out; clear hb5))
                    | (go_at_call 39; ((with_reducible refine (HKA.out _ HN5.out HT5.out).mono ?_); rintro e w6 ⟨rfl, hb6⟩; have HS6 := Lib.hid (HS5.out.below hb6); have HX6 := Lib.hid (HX5.out.below hb6 HX5.out.lt); have HT6 := Lib.hid (HT5.out.below hb6); have HN6 := Lib.hid (HN5.out.below hb6); have d60 : w6.cell? ⟨wo.heap.size, 0, none⟩ = some (.int .i64 t.k) := HX6.out.cell 0; have d61 : w6.cell? ⟨wo.heap.size, 1, none⟩ = some (.int .i64 t.n) := HX6.out.cell 1; have d62 : w6.cell? ⟨wo.heap.size, 2, none⟩ = some (.int .i64 t.m) := HX6.out.cell 2; have d63 : w6.cell? ⟨wo.heap.size, 3, none⟩ = some (.int .i64 t.i) := HX6.out.cell 3; have d64 : w6.cell? ⟨wo.heap.size, 4, none⟩ = some (.int .u64 t.b) := HX6.out.cell 4; have d65 : w6.cell? ⟨wo.heap.size, 5, none⟩ = some (.string ⟨t.t.toArray⟩) := HX6.out.cell 5; have d66 : w6.cell? ⟨wo.heap.size, 6, none⟩ = some (.slice VA t.vars.length vc) := HX6.out.cell 6; have d67 : w6.cell? ⟨wo.heap.size, 7, none⟩ = some (.slice KA t.keys.length kc) := HX6.out.cell 7; have d68 : w6.cell? ⟨wo.heap.size, 8, none⟩ = some (.slice AA t.args.length ac) := HX6.out.cell 8; rw [HY.out] at d62; have f60 : w6.cell? ⟨w.heap.size, 0, none⟩ = some (.slice (some ad0) L.length c) := HS6.out.box.cell 0; clear hb6))
                    | (go_at_call 39; ((with_reducible refine (HKM.out _ HN6.out HT6.out).mono ?_); rintro e w7 ⟨rfl, hb7⟩; have HS7 := Lib.hid (HS6.out.below hb7); clear hb7)))
                  go_roundw
                  case rel => exact ⟨k + 1, by omega, by go_num, HF2, HS7⟩
                  case measure => simp [intOf]; omega
          · have q8 := b_false k8
            have HF2 := Lib.hid (show allC (formedRS prims L) inb L (k + 1) = true by rw [hfn]; exact orderS_other k8)
            clear k8 hfn
            go_wp2_with (go_at_call 38; ((with_reducible refine (HFM.out).mono ?_); rintro e w4 ⟨rfl, hb4⟩; have HS4 := Lib.hid (HS1.out.below hb4); have HX4 := Lib.hid (HBX.out.below hb4 HBX.out.lt); have HT4 := Lib.hid (HTW.out.below hb4); have HN4 := Lib.hid (HNW.out.below hb4); have d40 : w4.cell? ⟨wo.heap.size, 0, none⟩ = some (.int .i64 t.k) := HX4.out.cell 0; have d41 : w4.cell? ⟨wo.heap.size, 1, none⟩ = some (.int .i64 t.n) := HX4.out.cell 1; have d42 : w4.cell? ⟨wo.heap.size, 2, none⟩ = some (.int .i64 t.m) := HX4.out.cell 2; have d43 : w4.cell? ⟨wo.heap.size, 3, none⟩ = some (.int .i64 t.i) := HX4.out.cell 3; have d44 : w4.cell? ⟨wo.heap.size, 4, none⟩ = some (.int .u64 t.b) := HX4.out.cell 4; have d45 : w4.cell? ⟨wo.heap.size, 5, none⟩ = some (.string ⟨t.t.toArray⟩) := HX4.out.cell 5; have d46 : w4.cell? ⟨wo.heap.size, 6, none⟩ = some (.slice VA t.vars.length vc) := HX4.out.cell 6; have d47 : w4.cell? ⟨wo.heap.size, 7, none⟩ = some (.slice KA t.keys.length kc) := HX4.out.cell 7; have d48 : w4.cell? ⟨wo.heap.size, 8, none⟩ = some (.slice AA t.args.length ac) := HX4.out.cell 8; have f40 : w4.cell? ⟨w.heap.size, 0, none⟩ = some (.slice (some ad0) L.length c) := HS4.out.box.cell 0; have f41 := HS4.out.made hlt; rw [HIN.out] at f41; clear hb4))
            go_roundw
            case rel => exact ⟨k + 1, by omega, by go_num, HF2, HS4⟩
            case measure => simp [intOf]; omega
    · obtain rfl : k = L.length := by omega
      have q0 : (L.length : Int) ≤ (L.length : Int) := Int.le_refl _
      have HRT := Lib.hid (show RC = true from HRC.out.symm.trans HF.out)
      have HSA := Lib.hid HS.out
      clear hge hk HF HS HS0
      go_wp2_with fail
      go_ret
      exact ⟨by rw [HRT.out]; rfl, HSA.out.bel⟩
end Go.Proofs.YtjhdlnllhjffkaaGreatDoor

namespace Go.Proofs.YtjhdlnllhjffkaaGreatDoor
open Go.RowKit LamM CpsM CloM

/-- What the reference's function hands back. -/
def FunP (L : List Fl) (f : FnD) (w : World) (e : Ending) (w' : World) : Prop :=
  ∃ v, e = .returned (.tuple #[v, .bool (funOk L f)]) ∧ (funOk L f = true → ∃ g, v = .slice (some ⟨g, 0, none⟩) L.length L.length ∧ w.heap.size ≤ g ∧ w'.ownsRow g 4 1 (.slice (some ⟨g, 0, none⟩) L.length L.length) L.length (boolVals L.length (belowC L f.body.toNat).1)) ∧ Below w.heap.size w w'
theorem FunP.no {L : List Fl} {f : FnD} {w w' : World} {e : Ending} {v : Value} (hk : funOk L f = false) (he : e = .returned (.tuple #[v, .bool false])) (hb : Below w.heap.size w w') : FunP L f w e w' :=
  ⟨v, by rw [hk]; exact he, fun h => (by rw [hk] at h; cases h), hb⟩
set_option maxRecDepth 100000 in
set_option maxHeartbeats 4000000 in
theorem function_any (L : List Fl) (f : FnD) (A FA PA : Option Addr) (c fn fcp pc : Nat) (entry : Int) (w : World) (hN : NF w w.heap.size (.slice A L.length c) L) (hP : IV w w.heap.size (.slice PA f.params.length pc) f.params) (hpl : f.params.length ≤ 17592186044416) :
    Calls Tryz.prog 16 #[.agg #[.slice A L.length c, .slice FA fn fcp, .int .i64 entry], .agg #[.slice PA f.params.length pc, .int .i64 f.body]] w (FunP L f w) := by
  obtain ⟨W, hW⟩ : ∃ W, (w.alloc (.cells #[.slice A L.length c, .slice FA fn fcp, .int .i64 entry] 25)).alloc (.cells #[.slice PA f.params.length pc, .int .i64 f.body] 33) = W := ⟨_, rfl⟩
  have hbw : Below w.heap.size w W := by rw [← hW]; exact ((Below.refl _ _).alloc (Nat.le_refl _) _).alloc (by simp) _
  have HB := Lib.hid hbw
  have HX := Lib.hid (show Blk W w.heap.size 25 #[.slice A L.length c, .slice FA fn fcp, .int .i64 entry] by rw [← hW]; exact (Blk.new _ _ _).alloc _)
  have HY := Lib.hid (show Blk W (w.heap.size + 1) 33 #[.slice PA f.params.length pc, .int .i64 f.body] by rw [← hW]; have := Blk.new (w.alloc (.cells #[.slice A L.length c, .slice FA fn fcp, .int .i64 entry] 25)) 33 #[.slice PA f.params.length pc, .int .i64 f.body]; rwa [show (w.alloc (.cells #[.slice A L.length c, .slice FA fn fcp, .int .i64 entry] 25)).heap.size = w.heap.size + 1 by simp] at this)
  have HN := Lib.hid (hN.below hbw)
  have HU := Lib.hid (sunlike1_any f.params _ _ W (hP.below hbw))
  have c0 : W.cell? ⟨w.heap.size, 0, none⟩ = some (.slice A L.length c) := HX.out.cell 0
  have d0 : W.cell? ⟨w.heap.size + 1, 0, none⟩ = some (.slice PA f.params.length pc) := HY.out.cell 0
  have d1 : W.cell? ⟨w.heap.size + 1, 1, none⟩ = some (.int .i64 f.body) := HY.out.cell 1
  have hfo : funOk L f = (decide (0 ≤ f.body ∧ f.body < (L.length : Int)) && (parS f.params && ((belowC L f.body.toNat).2 && moveG (kindC L f.body)))) := rfl
  have HFO := Lib.hid hfo
  clear hN hP hbw hfo
  by_cases h0 : f.body < 0
  · have q0 := decide_eq_true h0
    have HNO := Lib.hid (show funOk L f = false by rw [HFO.out, decide_eq_false (by omega)]; rfl)
    clear h0
    go_enter Tryz.func16, Tryz.ntmps16
    go_wp2_with fail
    go_ret2
    exact FunP.no HNO.out rfl HB.out
  have q0 := decide_eq_false h0
  by_cases h1 : (L.length : Int) ≤ f.body
  · have q1 := decide_eq_true h1
    have HNO := Lib.hid (show funOk L f = false by rw [HFO.out, decide_eq_false (by omega)]; rfl)
    clear h0 h1
    go_enter Tryz.func16, Tryz.ntmps16
    go_wp2_with fail
    go_ret2
    exact FunP.no HNO.out rfl HB.out
  have q1 := decide_eq_false h1
  by_cases h65 : f.params.length ≤ 65
  · have q2 := decide_eq_false (show ¬ (65 : Int) < (f.params.length : Int) by omega)
    cases hu : parGo [] f.params
    · rw [hu] at HU
      have HNO := Lib.hid (show funOk L f = false by rw [HFO.out]; unfold parS; rw [hu]; simp)
      clear h0 h1 h65 hu
      go_enter Tryz.func16, Tryz.ntmps16
      go_wp2_with (go_at_call 35; ((with_reducible refine (HU.out).mono ?_); rintro e w2 ⟨rfl, ho⟩; have HB2 := Lib.hid (below_only HB.out ho (fun k h => by cases h) HB.out.size); clear ho))
      go_ret2
      exact FunP.no HNO.out rfl HB2.out
    · rw [hu] at HU
      obtain ⟨x, hx⟩ : ∃ x : Nat, f.body = (x : Int) := ⟨f.body.toNat, by omega⟩
      have hxL : x < L.length := by omega
      obtain ⟨t, ht⟩ : ∃ t, L[x]? = some t := ⟨_, List.getElem?_eq_getElem hxL⟩
      have hk : kindC L f.body = t.k := kindC_at (by rw [hx, Int.toNat_natCast]; exact ht)
      have hfo : funOk L f = ((belowC L x).2 && moveG t.k) := by rw [HFO.out]; unfold parS; rw [hu, hk, decide_eq_true (by omega), decide_eq_true h65, hx, Int.toNat_natCast]; rfl
      have HMV := Lib.hid (fun w' => smove_any t.k w')
      have hxI : (x : Int) < (L.length : Int) := by omega
      have HHX := Lib.hid hx
      have HHT := Lib.hid ht
      have HBL := Lib.hid (fun w2 (h : NF w2 w2.heap.size (.slice A L.length c) L) => sbelow_any L A c x w2 hxL h)
      unfold BelowPost at HBL
      rw [show below (tms L) x = belowC L x from rfl] at HBL
      rw [hx] at q0 q1 d1 hW
      have HY2 := HY
      rw [hx] at HY2
      clear h0 h1 h65 hu HFO HY
      cases hok : (belowC L x).2
      · rw [hok] at HBL hfo
        have HNO := Lib.hid (show funOk L f = false by rw [hfo]; rfl)
        clear hok hfo hx ht hk
        rw [HHX.out]
        go_enter Tryz.func16, Tryz.ntmps16
        go_wp2_with (first
          | (go_at_call 35; ((with_reducible refine (HU.out).mono ?_); rintro e w2 ⟨rfl, ho⟩; have HB2 := Lib.hid (below_only (Below.refl W.heap.size W) ho (fun k h => by cases h) (Nat.le_refl _)); have e0 : w2.cell? ⟨w.heap.size, 0, none⟩ = some (.slice A L.length c) := (HX.out.below HB2.out HX.out.lt).cell 0; have e1 : w2.cell? ⟨w.heap.size + 1, 1, none⟩ = some (.int .i64 (x : Int)) := (HY2.out.below HB2.out HY2.out.lt).cell 1; clear ho))
          | (go_at_call 36; ((with_reducible refine (HBL.out _ (HN.out.below HB2.out)).mono ?_); rintro e w3 ⟨g, rfl, hg, hown, hb3⟩; have HB3 := Lib.hid (HB2.out.trans (hb3.mono HB2.out.size)); clear hg hown hb3)))
        go_ret2
        exact FunP.no HNO.out rfl (HB.out.trans (HB3.out.mono HB.out.size))
      · rw [hok] at HBL hfo
        rw [Bool.true_and] at hfo
        obtain ⟨b, hb⟩ : ∃ b, moveG t.k = b := ⟨_, rfl⟩
        rw [hb] at HMV hfo
        have HFO2 := Lib.hid hfo
        clear hok hfo hx ht hk hb
        rw [HHX.out]
        go_enter Tryz.func16, Tryz.ntmps16
        go_wp2_with (first
          | (go_at_call 35; ((with_reducible refine (HU.out).mono ?_); rintro e w2 ⟨rfl, ho⟩; have HB2 := Lib.hid (below_only (Below.refl W.heap.size W) ho (fun k h => by cases h) (Nat.le_refl _)); have e0 : w2.cell? ⟨w.heap.size, 0, none⟩ = some (.slice A L.length c) := (HX.out.below HB2.out HX.out.lt).cell 0; have e1 : w2.cell? ⟨w.heap.size + 1, 1, none⟩ = some (.int .i64 (x : Int)) := (HY2.out.below HB2.out HY2.out.lt).cell 1; clear ho))
          | (go_at_call 36; ((with_reducible refine (HBL.out _ (HN.out.below HB2.out)).mono ?_); rintro e w3 ⟨g, rfl, hg, hown, hb3⟩; have HB3 := Lib.hid (HB2.out.trans (hb3.mono HB2.out.size)); have HG := Lib.hid (show w.heap.size ≤ g from Nat.le_trans (Nat.le_trans HB.out.size HB2.out.size) hg); have HOW := Lib.hid hown; have h0 : w3.cell? ⟨w.heap.size, 0, none⟩ = some (.slice A L.length c) := (HX.out.below HB3.out HX.out.lt).cell 0; have h1 : w3.cell? ⟨w.heap.size + 1, 1, none⟩ = some (.int .i64 (x : Int)) := (HY2.out.below HB3.out HY2.out.lt).cell 1; obtain ⟨ad, vv, kv, av, hadE, hadb, _, k0, _⟩ := (HN.out.below HB3.out).at9 HHT.out; subst hadE; clear hg hown hb3))
          | (go_at_call 37; ((with_reducible refine (HMV.out _).mono ?_); rintro e w' ⟨rfl, rfl⟩)))
        go_ret2
        exact ⟨_, by rw [HFO2.out]; rfl, fun _ => ⟨g, rfl, HG.out, by rw [HHX.out, Int.toNat_natCast]; exact HOW.out⟩, HB.out.trans (HB3.out.mono HB.out.size)⟩
  · have q2 := decide_eq_true (show (65 : Int) < (f.params.length : Int) by omega)
    have HNO := Lib.hid (show funOk L f = false by rw [HFO.out]; unfold parS; rw [decide_eq_false h65]; simp)
    clear h0 h1 h65
    go_enter Tryz.func16, Tryz.ntmps16
    go_wp2_with fail
    go_ret2
    exact FunP.no HNO.out rfl HB.out
end Go.Proofs.YtjhdlnllhjffkaaGreatDoor
