/- Cps: has a node its form, and a primitive's arguments in their order: the program's Formed. -/
import Derived.Test.YtjhdlnllhjffkaaGreatDoorCloMi
import Derived.Test.YtjhdlnllhjffkaaGreatDoorCpsQ
namespace Go.Proofs.YtjhdlnllhjffkaaGreatDoor
open Go.RowKit LamM CpsM

theorem order_other {L : List Fl} {t : Fl} (h : t.k ≠ 8) : orderC prims L t = true := by unfold orderC; rw [decide_eq_true h]; rfl
theorem order_unfit {L : List Fl} {t : Fl} (h : primOkC prims t = false) : orderC prims L t = true := by unfold orderC; rw [h]; simp
theorem order_fit {L : List Fl} {t : Fl} {y a : Nat} {p : Pr} (hk : t.k = 8) (h : primOkC prims t = true) (hy : t.m = (y : Int)) (hp : primTab[y]? = some p) (ha : p.args = (a : Int)) :
    orderC prims L t = (atomsB L (t.args.take a) && movesB L (t.args.drop a)) := by
  unfold orderC
  rw [decide_eq_false (by omega), h, hy, Int.toNat_natCast, show prims[y]? = some ⟨p.args, p.raises⟩ by unfold prims; rw [List.getElem?_map, hp]; rfl]
  show (false || !true || (atomsB L (t.args.take p.args.toNat) && movesB L (t.args.drop p.args.toNat))) = _
  rw [ha, Int.toNat_natCast]; rfl
theorem wants_ge (p : Pr) : p.args + 1 ≤ wantsOf ⟨p.args, p.raises⟩ := by
  show p.args + 1 ≤ p.args + 1 + (if p.raises.length = 0 then 0 else 1)
  split <;> omega
set_option maxRecDepth 100000 in
set_option maxHeartbeats 4000000 in
theorem cFormed_any (L : List Fl) (t : Fl) (vl vv kv av pv : Value) (w : World) (hN : NF w w.heap.size vl L) (hT : FV w w.heap.size t vv kv av) (hA : ∀ a ∈ t.args, 0 ≤ a ∧ a < (L.length : Int)) (hP : PV w w.heap.size pv primTab) :
    Calls Tryz.prog 56 #[vl, .agg (flVals t vv kv av).toArray, pv] w fun e w' => e = .returned (.bool (formedP prims L t)) ∧ Below w.heap.size w w' := by
  obtain ⟨NA, nc, rfl, hn1, hn2⟩ := hN.len
  obtain ⟨VA, vc, rfl, hv1, hv2⟩ := hT.v.len
  obtain ⟨KA, kc, rfl, hk1, hk2⟩ := hT.k.len
  obtain ⟨AA, ac, rfl, ha1, ha2⟩ := hT.a.len
  obtain ⟨PA, pc, hpe, hpc1, hpc2⟩ := hP.len
  rw [primTab_len] at hpe
  subst hpe
  have la := hT.la
  obtain ⟨W, hW⟩ : ∃ W, w.alloc (BoxF t (.slice VA t.vars.length vc) (.slice KA t.keys.length kc) (.slice AA t.args.length ac)) = W := ⟨_, rfl⟩
  have hbw : Below w.heap.size w W := by rw [← hW]; exact (Below.refl _ _).alloc (Nat.le_refl _) _
  have HB := Lib.hid hbw
  have HX := Lib.hid (show Blk W w.heap.size 43 #[.int .i64 t.k, .int .i64 t.n, .int .i64 t.m, .int .i64 t.i, .int .u64 t.b, .string ⟨t.t.toArray⟩, .slice VA t.vars.length vc, .slice KA t.keys.length kc, .slice AA t.args.length ac] by rw [← hW]; exact Blk.new _ _ _)
  have HN := Lib.hid (hN.below hbw)
  have HT := Lib.hid (hT.below hbw)
  have HA := Lib.hid (hT.a.below hbw)
  have HP := Lib.hid (hP.below hbw)
  have HR := Lib.hid hA
  have HF := Lib.hid (cformed_any L t _ _ _ _ W HN.out HT.out hA)
  have HPM := Lib.hid (fun w2 (hb : Below W.heap.size W w2) => cprim_any t _ _ _ _ w2 (HP.out.below hb) (HT.out.below hb))
  clear hN hT hA hP hbw
  have c0 : W.cell? ⟨w.heap.size, 0, none⟩ = some (.int .i64 t.k) := HX.out.cell 0
  have c1 : W.cell? ⟨w.heap.size, 1, none⟩ = some (.int .i64 t.n) := HX.out.cell 1
  have c2 : W.cell? ⟨w.heap.size, 2, none⟩ = some (.int .i64 t.m) := HX.out.cell 2
  have c3 : W.cell? ⟨w.heap.size, 3, none⟩ = some (.int .i64 t.i) := HX.out.cell 3
  have c4 : W.cell? ⟨w.heap.size, 4, none⟩ = some (.int .u64 t.b) := HX.out.cell 4
  have c5 : W.cell? ⟨w.heap.size, 5, none⟩ = some (.string ⟨t.t.toArray⟩) := HX.out.cell 5
  have c6 : W.cell? ⟨w.heap.size, 6, none⟩ = some (.slice VA t.vars.length vc) := HX.out.cell 6
  have c7 : W.cell? ⟨w.heap.size, 7, none⟩ = some (.slice KA t.keys.length kc) := HX.out.cell 7
  have c8 : W.cell? ⟨w.heap.size, 8, none⟩ = some (.slice AA t.args.length ac) := HX.out.cell 8
  unfold BoxF at hW
  unfold flVals at HF HPM ⊢
  obtain ⟨R, hR⟩ : ∃ R, formedP prims L t = R := ⟨_, rfl⟩
  rw [hR]
  unfold formedP at hR
  cases hf : formedC L t
  · rw [hf] at hR HF
    obtain rfl : R = false := by rw [← hR]; rfl
    clear hR hf
    go_enter Tryz.func56, Tryz.ntmps56
    go_wp2_with (go_at_call 81; ((with_reducible refine (HF.out).mono ?_); rintro e w2 ⟨rfl, hb⟩; have HW1 := Lib.hid hb; clear hb; have d10 : w2.cell? ⟨w.heap.size, 0, none⟩ = some (.int .i64 t.k) := (HX.out.below HW1.out HX.out.lt).cell 0; have d11 : w2.cell? ⟨w.heap.size, 1, none⟩ = some (.int .i64 t.n) := (HX.out.below HW1.out HX.out.lt).cell 1; have d12 : w2.cell? ⟨w.heap.size, 2, none⟩ = some (.int .i64 t.m) := (HX.out.below HW1.out HX.out.lt).cell 2; have d13 : w2.cell? ⟨w.heap.size, 3, none⟩ = some (.int .i64 t.i) := (HX.out.below HW1.out HX.out.lt).cell 3; have d14 : w2.cell? ⟨w.heap.size, 4, none⟩ = some (.int .u64 t.b) := (HX.out.below HW1.out HX.out.lt).cell 4; have d15 : w2.cell? ⟨w.heap.size, 5, none⟩ = some (.string ⟨t.t.toArray⟩) := (HX.out.below HW1.out HX.out.lt).cell 5; have d16 : w2.cell? ⟨w.heap.size, 6, none⟩ = some (.slice VA t.vars.length vc) := (HX.out.below HW1.out HX.out.lt).cell 6; have d17 : w2.cell? ⟨w.heap.size, 7, none⟩ = some (.slice KA t.keys.length kc) := (HX.out.below HW1.out HX.out.lt).cell 7; have d18 : w2.cell? ⟨w.heap.size, 8, none⟩ = some (.slice AA t.args.length ac) := (HX.out.below HW1.out HX.out.lt).cell 8))
    go_ret
    exact ⟨rfl, HB.out.trans (HW1.out.mono HB.out.size)⟩
  · rw [hf, Bool.true_and] at hR
    rw [hf] at HF
    clear hf
    by_cases k8 : t.k = 8
    · have q8 := n_false k8
      cases hpo : primOkC prims t
      · rw [hpo] at HPM
        obtain rfl : R = true := by rw [← hR]; exact order_unfit hpo
        clear hR hpo k8
        go_enter Tryz.func56, Tryz.ntmps56
        go_wp2_with (first
          | (go_at_call 81; ((with_reducible refine (HF.out).mono ?_); rintro e w2 ⟨rfl, hb⟩; have HW1 := Lib.hid hb; clear hb; have d10 : w2.cell? ⟨w.heap.size, 0, none⟩ = some (.int .i64 t.k) := (HX.out.below HW1.out HX.out.lt).cell 0; have d11 : w2.cell? ⟨w.heap.size, 1, none⟩ = some (.int .i64 t.n) := (HX.out.below HW1.out HX.out.lt).cell 1; have d12 : w2.cell? ⟨w.heap.size, 2, none⟩ = some (.int .i64 t.m) := (HX.out.below HW1.out HX.out.lt).cell 2; have d13 : w2.cell? ⟨w.heap.size, 3, none⟩ = some (.int .i64 t.i) := (HX.out.below HW1.out HX.out.lt).cell 3; have d14 : w2.cell? ⟨w.heap.size, 4, none⟩ = some (.int .u64 t.b) := (HX.out.below HW1.out HX.out.lt).cell 4; have d15 : w2.cell? ⟨w.heap.size, 5, none⟩ = some (.string ⟨t.t.toArray⟩) := (HX.out.below HW1.out HX.out.lt).cell 5; have d16 : w2.cell? ⟨w.heap.size, 6, none⟩ = some (.slice VA t.vars.length vc) := (HX.out.below HW1.out HX.out.lt).cell 6; have d17 : w2.cell? ⟨w.heap.size, 7, none⟩ = some (.slice KA t.keys.length kc) := (HX.out.below HW1.out HX.out.lt).cell 7; have d18 : w2.cell? ⟨w.heap.size, 8, none⟩ = some (.slice AA t.args.length ac) := (HX.out.below HW1.out HX.out.lt).cell 8))
          | (go_at_call 11; ((with_reducible refine (HPM.out _ HW1.out).mono ?_); rintro e w3 ⟨rfl, hb⟩; have HW2 := Lib.hid (HW1.out.trans (hb.mono HW1.out.size)); clear hb)))
        go_ret
        exact ⟨rfl, HB.out.trans (HW2.out.mono HB.out.size)⟩
      · rw [hpo] at HPM
        have m0 : ¬ t.m < 0 := fun h => by rw [primC_low h] at hpo; cases hpo
        have m61 : ¬ 61 ≤ t.m := fun h => by rw [primC_high h] at hpo; cases hpo
        obtain ⟨y, hy⟩ : ∃ y : Nat, t.m = (y : Int) := ⟨t.m.toNat, by omega⟩
        obtain ⟨p, hpt⟩ : ∃ p, primTab[y]? = some p := ⟨_, List.getElem?_eq_getElem (by rw [primTab_len]; omega)⟩
        obtain ⟨hs1, hs2, hs3⟩ := args_small p (List.mem_of_getElem? hpt)
        obtain ⟨a, ha⟩ : ∃ a : Nat, p.args = (a : Int) := ⟨p.args.toNat, by omega⟩
        have hwl : (t.args.length : Int) = wantsOf ⟨p.args, p.raises⟩ := by rw [primC_at hy hpt] at hpo; exact of_decide_eq_true hpo
        have hwg := wants_ge p
        rw [order_fit k8 hpo hy hpt ha] at hR
        have hal : a + 1 ≤ t.args.length := by omega
        have hy0 : (y : Int) < 61 := by omega
        have hy1 : (0 : Int) ≤ (y : Int) := by omega
        obtain ⟨a0, ha0⟩ : ∃ a0, t.args[0]? = some a0 := ⟨_, List.getElem?_eq_getElem (by omega)⟩
        obtain ⟨aa, rfl, _, _⟩ := HA.out.at_ ha0
        have hne : ¬ ac = a := by omega
        have hac : ¬ ac = 0 := by omega
        have hcn : (a : Int) ≤ (ac : Int) := by omega
        have hcm : (a : Int) ≤ (t.args.length : Int) := by omega
        have hd := iv_drop HA.out (k := a) (by omega)
        have ht := iv_take HA.out (k := a) (by omega)
        rw [if_neg hne] at hd
        have HD := Lib.hid (show IV W W.heap.size (.slice (some (aa.add a)) (t.args.length - a) (ac - a)) (t.args.drop a) from hd)
        have HC1 := Lib.hid (fun w2 (hb : Below W.heap.size W w2) => catoms_any L (t.args.take a) _ (.slice (some aa) a ac) w2 (HN.out.below hb) (fun x hx => HR.out x (List.mem_of_mem_take hx)) (ht.below hb))
        have HC2 := Lib.hid (fun w2 (hb : Below W.heap.size W w2) => cmoves_any L (t.args.drop a) _ (.slice (some (aa.add a)) (t.args.length - a) (ac - a)) w2 (HN.out.below hb) (fun x hx => HR.out x (List.mem_of_mem_drop hx)) (HD.out.below hb))
        have HY := Lib.hid hy
        have HAE := Lib.hid ha
        have HPT := Lib.hid hpt
        clear k8 hpo m0 m61 hwl hwg ha0 hd ht hs1 hs2 hs3 hy ha hpt
        cases hx1 : atomsB L (t.args.take a)
        · rw [hx1] at hR HC1
          obtain rfl : R = false := by rw [← hR]; rfl
          clear hR hx1
          go_enter Tryz.func56, Tryz.ntmps56
          go_wp2_with (first
            | (go_at_call 81; ((with_reducible refine (HF.out).mono ?_); rintro e w2 ⟨rfl, hb⟩; have HW1 := Lib.hid hb; clear hb; have d10 : w2.cell? ⟨w.heap.size, 0, none⟩ = some (.int .i64 t.k) := (HX.out.below HW1.out HX.out.lt).cell 0; have d11 : w2.cell? ⟨w.heap.size, 1, none⟩ = some (.int .i64 t.n) := (HX.out.below HW1.out HX.out.lt).cell 1; have d12 : w2.cell? ⟨w.heap.size, 2, none⟩ = some (.int .i64 t.m) := (HX.out.below HW1.out HX.out.lt).cell 2; have d13 : w2.cell? ⟨w.heap.size, 3, none⟩ = some (.int .i64 t.i) := (HX.out.below HW1.out HX.out.lt).cell 3; have d14 : w2.cell? ⟨w.heap.size, 4, none⟩ = some (.int .u64 t.b) := (HX.out.below HW1.out HX.out.lt).cell 4; have d15 : w2.cell? ⟨w.heap.size, 5, none⟩ = some (.string ⟨t.t.toArray⟩) := (HX.out.below HW1.out HX.out.lt).cell 5; have d16 : w2.cell? ⟨w.heap.size, 6, none⟩ = some (.slice VA t.vars.length vc) := (HX.out.below HW1.out HX.out.lt).cell 6; have d17 : w2.cell? ⟨w.heap.size, 7, none⟩ = some (.slice KA t.keys.length kc) := (HX.out.below HW1.out HX.out.lt).cell 7; have d18 : w2.cell? ⟨w.heap.size, 8, none⟩ = some (.slice (some aa) t.args.length ac) := (HX.out.below HW1.out HX.out.lt).cell 8))
            | (go_at_call 11; ((with_reducible refine (HPM.out _ HW1.out).mono ?_); rintro e w3 ⟨rfl, hb⟩; have HW2 := Lib.hid (HW1.out.trans (hb.mono HW1.out.size)); clear hb; have d20 : w3.cell? ⟨w.heap.size, 0, none⟩ = some (.int .i64 t.k) := (HX.out.below HW2.out HX.out.lt).cell 0; have d21 : w3.cell? ⟨w.heap.size, 1, none⟩ = some (.int .i64 t.n) := (HX.out.below HW2.out HX.out.lt).cell 1; have d22 : w3.cell? ⟨w.heap.size, 2, none⟩ = some (.int .i64 t.m) := (HX.out.below HW2.out HX.out.lt).cell 2; rw [HY.out] at d22; have d23 : w3.cell? ⟨w.heap.size, 3, none⟩ = some (.int .i64 t.i) := (HX.out.below HW2.out HX.out.lt).cell 3; have d24 : w3.cell? ⟨w.heap.size, 4, none⟩ = some (.int .u64 t.b) := (HX.out.below HW2.out HX.out.lt).cell 4; have d25 : w3.cell? ⟨w.heap.size, 5, none⟩ = some (.string ⟨t.t.toArray⟩) := (HX.out.below HW2.out HX.out.lt).cell 5; have d26 : w3.cell? ⟨w.heap.size, 6, none⟩ = some (.slice VA t.vars.length vc) := (HX.out.below HW2.out HX.out.lt).cell 6; have d27 : w3.cell? ⟨w.heap.size, 7, none⟩ = some (.slice KA t.keys.length kc) := (HX.out.below HW2.out HX.out.lt).cell 7; have d28 : w3.cell? ⟨w.heap.size, 8, none⟩ = some (.slice (some aa) t.args.length ac) := (HX.out.below HW2.out HX.out.lt).cell 8; have HP3 := HP.out.below HW2.out; obtain ⟨ty, rv, _, _, _, _, ca, _, _⟩ := HP3.at_ HPT.out; replace ca := spell9 (j := 1) ca; rw [HAE.out] at ca))
            | (go_at_call 82; ((with_reducible refine (HC1.out _ HW2.out).mono ?_); rintro e w4 ⟨rfl, hb⟩; have HW3 := Lib.hid (HW2.out.trans (hb.mono HW2.out.size)); clear hb; have d38 : w4.cell? ⟨w.heap.size, 8, none⟩ = some (.slice (some aa) t.args.length ac) := (HX.out.below HW3.out HX.out.lt).cell 8)))
          go_ret
          exact ⟨rfl, HB.out.trans (HW3.out.mono HB.out.size)⟩
        · rw [hx1, Bool.true_and] at hR
          rw [hx1] at HC1
          clear hx1
          cases hx2 : movesB L (t.args.drop a)
          · rw [hx2] at hR HC2
            obtain rfl : R = false := hR.symm
            clear hR hx2
            go_enter Tryz.func56, Tryz.ntmps56
            go_wp2_with (first
              | (go_at_call 81; ((with_reducible refine (HF.out).mono ?_); rintro e w2 ⟨rfl, hb⟩; have HW1 := Lib.hid hb; clear hb; have d10 : w2.cell? ⟨w.heap.size, 0, none⟩ = some (.int .i64 t.k) := (HX.out.below HW1.out HX.out.lt).cell 0; have d11 : w2.cell? ⟨w.heap.size, 1, none⟩ = some (.int .i64 t.n) := (HX.out.below HW1.out HX.out.lt).cell 1; have d12 : w2.cell? ⟨w.heap.size, 2, none⟩ = some (.int .i64 t.m) := (HX.out.below HW1.out HX.out.lt).cell 2; have d13 : w2.cell? ⟨w.heap.size, 3, none⟩ = some (.int .i64 t.i) := (HX.out.below HW1.out HX.out.lt).cell 3; have d14 : w2.cell? ⟨w.heap.size, 4, none⟩ = some (.int .u64 t.b) := (HX.out.below HW1.out HX.out.lt).cell 4; have d15 : w2.cell? ⟨w.heap.size, 5, none⟩ = some (.string ⟨t.t.toArray⟩) := (HX.out.below HW1.out HX.out.lt).cell 5; have d16 : w2.cell? ⟨w.heap.size, 6, none⟩ = some (.slice VA t.vars.length vc) := (HX.out.below HW1.out HX.out.lt).cell 6; have d17 : w2.cell? ⟨w.heap.size, 7, none⟩ = some (.slice KA t.keys.length kc) := (HX.out.below HW1.out HX.out.lt).cell 7; have d18 : w2.cell? ⟨w.heap.size, 8, none⟩ = some (.slice (some aa) t.args.length ac) := (HX.out.below HW1.out HX.out.lt).cell 8))
              | (go_at_call 11; ((with_reducible refine (HPM.out _ HW1.out).mono ?_); rintro e w3 ⟨rfl, hb⟩; have HW2 := Lib.hid (HW1.out.trans (hb.mono HW1.out.size)); clear hb; have d20 : w3.cell? ⟨w.heap.size, 0, none⟩ = some (.int .i64 t.k) := (HX.out.below HW2.out HX.out.lt).cell 0; have d21 : w3.cell? ⟨w.heap.size, 1, none⟩ = some (.int .i64 t.n) := (HX.out.below HW2.out HX.out.lt).cell 1; have d22 : w3.cell? ⟨w.heap.size, 2, none⟩ = some (.int .i64 t.m) := (HX.out.below HW2.out HX.out.lt).cell 2; rw [HY.out] at d22; have d23 : w3.cell? ⟨w.heap.size, 3, none⟩ = some (.int .i64 t.i) := (HX.out.below HW2.out HX.out.lt).cell 3; have d24 : w3.cell? ⟨w.heap.size, 4, none⟩ = some (.int .u64 t.b) := (HX.out.below HW2.out HX.out.lt).cell 4; have d25 : w3.cell? ⟨w.heap.size, 5, none⟩ = some (.string ⟨t.t.toArray⟩) := (HX.out.below HW2.out HX.out.lt).cell 5; have d26 : w3.cell? ⟨w.heap.size, 6, none⟩ = some (.slice VA t.vars.length vc) := (HX.out.below HW2.out HX.out.lt).cell 6; have d27 : w3.cell? ⟨w.heap.size, 7, none⟩ = some (.slice KA t.keys.length kc) := (HX.out.below HW2.out HX.out.lt).cell 7; have d28 : w3.cell? ⟨w.heap.size, 8, none⟩ = some (.slice (some aa) t.args.length ac) := (HX.out.below HW2.out HX.out.lt).cell 8; have HP3 := HP.out.below HW2.out; obtain ⟨ty, rv, _, _, _, _, ca, _, _⟩ := HP3.at_ HPT.out; replace ca := spell9 (j := 1) ca; rw [HAE.out] at ca))
              | (go_at_call 82; ((with_reducible refine (HC1.out _ HW2.out).mono ?_); rintro e w4 ⟨rfl, hb⟩; have HW3 := Lib.hid (HW2.out.trans (hb.mono HW2.out.size)); clear hb; have d38 : w4.cell? ⟨w.heap.size, 8, none⟩ = some (.slice (some aa) t.args.length ac) := (HX.out.below HW3.out HX.out.lt).cell 8))
              | (go_at_call 83; ((with_reducible refine (HC2.out _ HW3.out).mono ?_); rintro e w5 ⟨rfl, hb⟩; have HW4 := Lib.hid (HW3.out.trans (hb.mono HW3.out.size)); clear hb)))
            go_ret
            exact ⟨rfl, HB.out.trans (HW4.out.mono HB.out.size)⟩
          · rw [hx2] at hR HC2
            obtain rfl : R = true := hR.symm
            clear hR hx2
            go_enter Tryz.func56, Tryz.ntmps56
            go_wp2_with (first
              | (go_at_call 81; ((with_reducible refine (HF.out).mono ?_); rintro e w2 ⟨rfl, hb⟩; have HW1 := Lib.hid hb; clear hb; have d10 : w2.cell? ⟨w.heap.size, 0, none⟩ = some (.int .i64 t.k) := (HX.out.below HW1.out HX.out.lt).cell 0; have d11 : w2.cell? ⟨w.heap.size, 1, none⟩ = some (.int .i64 t.n) := (HX.out.below HW1.out HX.out.lt).cell 1; have d12 : w2.cell? ⟨w.heap.size, 2, none⟩ = some (.int .i64 t.m) := (HX.out.below HW1.out HX.out.lt).cell 2; have d13 : w2.cell? ⟨w.heap.size, 3, none⟩ = some (.int .i64 t.i) := (HX.out.below HW1.out HX.out.lt).cell 3; have d14 : w2.cell? ⟨w.heap.size, 4, none⟩ = some (.int .u64 t.b) := (HX.out.below HW1.out HX.out.lt).cell 4; have d15 : w2.cell? ⟨w.heap.size, 5, none⟩ = some (.string ⟨t.t.toArray⟩) := (HX.out.below HW1.out HX.out.lt).cell 5; have d16 : w2.cell? ⟨w.heap.size, 6, none⟩ = some (.slice VA t.vars.length vc) := (HX.out.below HW1.out HX.out.lt).cell 6; have d17 : w2.cell? ⟨w.heap.size, 7, none⟩ = some (.slice KA t.keys.length kc) := (HX.out.below HW1.out HX.out.lt).cell 7; have d18 : w2.cell? ⟨w.heap.size, 8, none⟩ = some (.slice (some aa) t.args.length ac) := (HX.out.below HW1.out HX.out.lt).cell 8))
              | (go_at_call 11; ((with_reducible refine (HPM.out _ HW1.out).mono ?_); rintro e w3 ⟨rfl, hb⟩; have HW2 := Lib.hid (HW1.out.trans (hb.mono HW1.out.size)); clear hb; have d20 : w3.cell? ⟨w.heap.size, 0, none⟩ = some (.int .i64 t.k) := (HX.out.below HW2.out HX.out.lt).cell 0; have d21 : w3.cell? ⟨w.heap.size, 1, none⟩ = some (.int .i64 t.n) := (HX.out.below HW2.out HX.out.lt).cell 1; have d22 : w3.cell? ⟨w.heap.size, 2, none⟩ = some (.int .i64 t.m) := (HX.out.below HW2.out HX.out.lt).cell 2; rw [HY.out] at d22; have d23 : w3.cell? ⟨w.heap.size, 3, none⟩ = some (.int .i64 t.i) := (HX.out.below HW2.out HX.out.lt).cell 3; have d24 : w3.cell? ⟨w.heap.size, 4, none⟩ = some (.int .u64 t.b) := (HX.out.below HW2.out HX.out.lt).cell 4; have d25 : w3.cell? ⟨w.heap.size, 5, none⟩ = some (.string ⟨t.t.toArray⟩) := (HX.out.below HW2.out HX.out.lt).cell 5; have d26 : w3.cell? ⟨w.heap.size, 6, none⟩ = some (.slice VA t.vars.length vc) := (HX.out.below HW2.out HX.out.lt).cell 6; have d27 : w3.cell? ⟨w.heap.size, 7, none⟩ = some (.slice KA t.keys.length kc) := (HX.out.below HW2.out HX.out.lt).cell 7; have d28 : w3.cell? ⟨w.heap.size, 8, none⟩ = some (.slice (some aa) t.args.length ac) := (HX.out.below HW2.out HX.out.lt).cell 8; have HP3 := HP.out.below HW2.out; obtain ⟨ty, rv, _, _, _, _, ca, _, _⟩ := HP3.at_ HPT.out; replace ca := spell9 (j := 1) ca; rw [HAE.out] at ca))
              | (go_at_call 82; ((with_reducible refine (HC1.out _ HW2.out).mono ?_); rintro e w4 ⟨rfl, hb⟩; have HW3 := Lib.hid (HW2.out.trans (hb.mono HW2.out.size)); clear hb; have d38 : w4.cell? ⟨w.heap.size, 8, none⟩ = some (.slice (some aa) t.args.length ac) := (HX.out.below HW3.out HX.out.lt).cell 8))
              | (go_at_call 83; ((with_reducible refine (HC2.out _ HW3.out).mono ?_); rintro e w5 ⟨rfl, hb⟩; have HW4 := Lib.hid (HW3.out.trans (hb.mono HW3.out.size)); clear hb)))
            go_ret
            exact ⟨rfl, HB.out.trans (HW4.out.mono HB.out.size)⟩
    · have q8 := n_true k8
      obtain rfl : R = true := by rw [← hR]; exact order_other k8
      clear hR k8
      go_enter Tryz.func56, Tryz.ntmps56
      go_wp2_with (go_at_call 81; ((with_reducible refine (HF.out).mono ?_); rintro e w2 ⟨rfl, hb⟩; have HW1 := Lib.hid hb; clear hb; have d10 : w2.cell? ⟨w.heap.size, 0, none⟩ = some (.int .i64 t.k) := (HX.out.below HW1.out HX.out.lt).cell 0; have d11 : w2.cell? ⟨w.heap.size, 1, none⟩ = some (.int .i64 t.n) := (HX.out.below HW1.out HX.out.lt).cell 1; have d12 : w2.cell? ⟨w.heap.size, 2, none⟩ = some (.int .i64 t.m) := (HX.out.below HW1.out HX.out.lt).cell 2; have d13 : w2.cell? ⟨w.heap.size, 3, none⟩ = some (.int .i64 t.i) := (HX.out.below HW1.out HX.out.lt).cell 3; have d14 : w2.cell? ⟨w.heap.size, 4, none⟩ = some (.int .u64 t.b) := (HX.out.below HW1.out HX.out.lt).cell 4; have d15 : w2.cell? ⟨w.heap.size, 5, none⟩ = some (.string ⟨t.t.toArray⟩) := (HX.out.below HW1.out HX.out.lt).cell 5; have d16 : w2.cell? ⟨w.heap.size, 6, none⟩ = some (.slice VA t.vars.length vc) := (HX.out.below HW1.out HX.out.lt).cell 6; have d17 : w2.cell? ⟨w.heap.size, 7, none⟩ = some (.slice KA t.keys.length kc) := (HX.out.below HW1.out HX.out.lt).cell 7; have d18 : w2.cell? ⟨w.heap.size, 8, none⟩ = some (.slice AA t.args.length ac) := (HX.out.below HW1.out HX.out.lt).cell 8))
      go_ret
      exact ⟨rfl, HB.out.trans (HW1.out.mono HB.out.size)⟩
end Go.Proofs.YtjhdlnllhjffkaaGreatDoor
