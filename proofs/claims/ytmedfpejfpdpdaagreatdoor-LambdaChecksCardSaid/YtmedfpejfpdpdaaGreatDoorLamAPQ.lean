/- Lambda: begin at the end of fuel. Lambda: Run of the one program, out of fuel. -/
import Derived.Test.YtmedfpejfpdpdaaGreatDoorLamAO
namespace Go.Proofs.YtmedfpejfpdpdaaGreatDoor
open Go.RowKit LamM Go.Maps
set_option maxRecDepth 100000 in
set_option maxHeartbeats 2000000 in
theorem begin_over (R M : Nat) (lv stk sp val out dv : Value) (node : Int) (up : Bool) (steps fuel : Int) (w : World)
    (hR : Blk w R 83 (RC M lv stk node sp val up)) (hM : Blk w M 97 (MC out steps fuel dv)) (hst : fuel ≤ steps) :
    Calls Tryz.prog 43 #[runV R] w fun e w' => e = .panicked [{ v := overV, recovered := false }] ∧ Only [] w w' := by
  have HST := Lib.hid (step_over M out dv steps fuel w hst hM)
  have r0 : w.cell? ⟨R, 0, none⟩ = some (.pointer (some ⟨M, 0, none⟩)) := hR.cell 0
  clear hM hR hst
  go_enter Tryz.func43, Tryz.ntmps43
  go_wp2_with (go_at_call 55; ((with_reducible refine (HST.out).mono ?_); rintro e w1 ⟨rfl, ho1⟩))
  exact ⟨rfl, rfl, ho1⟩
end Go.Proofs.YtmedfpejfpdpdaaGreatDoor

namespace Go.Proofs.YtmedfpejfpdpdaaGreatDoor
open Go.RowKit LamM Go.Maps
set_option maxRecDepth 100000 in
set_option maxHeartbeats 8000000 in
theorem run_3 (ad : Addr) (nc : Nat) (w : World) (hN : NV w w.heap.size (.slice (some ad) 5 nc) L5) :
    Calls Tryz.prog 23 #[.agg #[.slice (some ad) 5 nc, .int .i64 4], .slice none 0 0, .int .i64 3] w fun e w' => e = .returned (.tuple #[.agg #[.slice none 0 0, .int .i64 3, .string ⟨#[]⟩, .int .i64 3], .int .i64 0]) ∧ Below w.heap.size w w' := by
  have hmf := mk_func
  obtain ⟨W1, hW⟩ : ∃ W1, (w.alloc (.cells #[.slice (some ad) 5 nc, .int .i64 4] 24)).alloc (.cells #[.slice none 0 0, .int .i64 0, .string ⟨#[]⟩, .int .i64 0] 59) = W1 := ⟨_, rfl⟩
  have hb1 : Below w.heap.size w W1 := by rw [← hW]; exact ((Below.refl _ _).alloc (Nat.le_refl _) _).alloc (by simp) _
  have HBP := Lib.hid (show Blk W1 w.heap.size 24 #[.slice (some ad) 5 nc, .int .i64 4] by rw [← hW]; exact (Blk.new _ _ _).alloc _)
  have HBO := Lib.hid (show Blk W1 (w.heap.size + 1) 59 #[.slice none 0 0, .int .i64 0, .string ⟨#[]⟩, .int .i64 0] by rw [← hW]; have := Blk.new (w.alloc (.cells #[.slice (some ad) 5 nc, .int .i64 4] 24)) 59 #[.slice none 0 0, .int .i64 0, .string ⟨#[]⟩, .int .i64 0]; rwa [show (w.alloc (.cells #[.slice (some ad) 5 nc, .int .i64 4] 24)).heap.size = w.heap.size + 1 by simp] at this)
  have HN1 := Lib.hid (NV.below hN hb1)
  have HB1 := Lib.hid hb1
  have HCK := Lib.hid (lcheck_any L5 (.slice (some ad) 5 nc) 4 W1 HN1.out)
  unfold CkPost at HCK
  rw [check_L5] at HCK
  have b0 : W1.cell? ⟨w.heap.size, 0, none⟩ = some (.slice (some ad) 5 nc) := HBP.out.cell 0
  have b1 : W1.cell? ⟨w.heap.size, 1, none⟩ = some (.int .i64 4) := HBP.out.cell 1
  clear hb1
  go_enter_defers Tryz.func23, Tryz.ntmps23
  go_upto_region 6 with (go_at_call 6; ((with_reducible refine (HCK.out).mono ?_); rintro e w2 ⟨rfl, hb2⟩))
  have HBP2 := Lib.hid (HBP.out.below hb2 HBP.out.lt)
  have HBO2 := Lib.hid (HBO.out.below hb2 HBO.out.lt)
  have HB2 := Lib.hid (HB1.out.trans (hb2.mono HB1.out.size))
  have HN2 := Lib.hid (NV.below HN1.out hb2)
  have HNW := Lib.hid (new_any 3 w2.drew)
  have HNA := Lib.hid (new_any 3 (w2.alloc (.cells #[.pointer none] 76)).drew)
  unfold NewPost at HNW HNA
  have d0 : w2.drew.cell? ⟨w.heap.size, 0, none⟩ = some (.slice (some ad) 5 nc) := HBP2.out.cell 0
  have d1 : w2.drew.cell? ⟨w.heap.size, 1, none⟩ = some (.int .i64 4) := HBP2.out.cell 1
  have K0 := Lib.hid (show w2.drew.cell? ⟨w.heap.size, 0, none⟩ = some (.slice (some ad) 5 nc) ∧ w2.drew.cell? ⟨w.heap.size, 1, none⟩ = some (.int .i64 4) from ⟨d0, d1⟩)
  have K1 := Lib.hid (fun o => show (w2.alloc o).drew.cell? ⟨w.heap.size, 0, none⟩ = some (.slice (some ad) 5 nc) ∧ (w2.alloc o).drew.cell? ⟨w.heap.size, 1, none⟩ = some (.int .i64 4) from ⟨(HBP2.out.alloc o).drew.cell 0, (HBP2.out.alloc o).drew.cell 1⟩)
  have hbl := HBP2.out.lt
  clear b0 b1 hb2 hW
  go_cut [9] from 23 to 31 (fun p9 wx => Hid (MadeR (.slice (some ad) 5 nc) 3 w2 p9 wx))
  case first =>
    go_region_held3 (fun w' => w'.cell? ⟨w.heap.size, 0, none⟩ = some (.slice (some ad) 5 nc) ∧ w'.cell? ⟨w.heap.size, 1, none⟩ = some (.int .i64 4)) (first | with_reducible exact K0.out | with_reducible exact K1.out _ | with_reducible exact K3.out | with_reducible exact K5.out _ _ | go_keep)
      (first
        | (go_at_call 40; ((with_reducible refine (HNW.out).mono ?_); rintro e w3 ⟨M, P0, pad, dv, B, vs, rfl, hnm⟩; have HNM := Lib.hid hnm; have d3 : w3.cell? ⟨w.heap.size, 0, none⟩ = some (.slice (some ad) 5 nc) := (hnm.bel.cell hbl).trans d0; have d4 : w3.cell? ⟨w.heap.size, 1, none⟩ = some (.int .i64 4) := (hnm.bel.cell hbl).trans d1; have K3 := Lib.hid (And.intro d3 d4); clear hnm))
        | (go_at_call 40; ((with_reducible refine (HNA.out).mono ?_); rintro e w3 ⟨M, P0, pad, dv, B, vs, rfl, hnm⟩; have HNM := Lib.hid hnm; have hb3 : w.heap.size < (w2.alloc (.cells #[.pointer none] 76)).drew.heap.size := Nat.lt_of_lt_of_le hbl (by show _ ≤ (w2.alloc _).heap.size; simp); have d3 : w3.cell? ⟨w.heap.size, 0, none⟩ = some (.slice (some ad) 5 nc) := (hnm.bel.cell hb3).trans ((HBP2.out.alloc _).drew.cell 0); have d4 : w3.cell? ⟨w.heap.size, 1, none⟩ = some (.int .i64 4) := (hnm.bel.cell hb3).trans ((HBP2.out.alloc _).drew.cell 1); have K3 := Lib.hid (And.intro d3 d4); have HRB := Lib.hid (((Blk.new w2 76 #[.pointer none]).drew).below hnm.bel (by show w2.heap.size < (w2.alloc _).heap.size; simp)); have rc3 : w3.cell? ⟨w2.heap.size, 0, none⟩ = some (.pointer none) := HRB.out.cell 0; have rf3 : w3.frozen? ⟨w2.heap.size, 0, none⟩ = false := HRB.out.frozen 0; have rc4 : ∀ o, (w3.alloc o).cell? ⟨w2.heap.size, 0, none⟩ = some (.pointer none) := fun o => (HRB.out.alloc o).cell 0; have rf4 : ∀ o, (w3.alloc o).frozen? ⟨w2.heap.size, 0, none⟩ = false := fun o => (HRB.out.alloc o).frozen 0; have K5 := Lib.hid (fun o u => show ((w3.alloc o).setCell ⟨w2.heap.size, 0, none⟩ u).cell? ⟨w.heap.size, 0, none⟩ = some (.slice (some ad) 5 nc) ∧ ((w3.alloc o).setCell ⟨w2.heap.size, 0, none⟩ u).cell? ⟨w.heap.size, 1, none⟩ = some (.int .i64 4) from ⟨(((Only.refl [w2.heap.size] w3).alloc o).one).cell (fun h => by have e : w.heap.size = w2.heap.size := List.mem_singleton.1 h; omega) d3, (((Only.refl [w2.heap.size] w3).alloc o).one).cell (fun h => by have e : w.heap.size = w2.heap.size := List.mem_singleton.1 h; omega) d4⟩); clear hnm)))
    all_goals
      go_wp2_with fail
      go_meet
    case rel =>
      have hz := HNM.out.bel.size
      have hz2 : w2.heap.size ≤ w3.heap.size := hz
      refine Lib.hid (MadeR.of HNM.out (Below.drew (Below.refl _ _)) (bs := []) (((Only.refl [] w3).alloc _).alloc _) (fun k h => by cases h) ?_ (((Blk.new w3 _ _)).alloc _) (by omega) (by omega))
      have := Blk.new (w3.alloc (.cells (RC M (.slice (some ad) 5 nc) (.slice none 0 0) 4 (.pointer none) .nilIface false) 83)) 76 #[.pointer (some ⟨w3.heap.size, 0, none⟩)]
      rwa [show (w3.alloc (.cells (RC M (.slice (some ad) 5 nc) (.slice none 0 0) 4 (.pointer none) .nilIface false) 83)).heap.size = w3.heap.size + 1 by simp] at this
    case rel =>
      have hz := HNM.out.bel.size
      have hz2 : w2.heap.size ≤ w3.heap.size := hz
      refine Lib.hid (MadeR.of HNM.out (Below.drew (Below.refl _ _)) (bs := []) (((Only.refl [] w3).alloc _).alloc _) (fun k h => by cases h) (((Blk.new w3 _ _)).alloc _) ?_ (by omega) (by omega))
      have := Blk.new (w3.alloc (.cells #[.pointer (some ⟨w3.heap.size + 1, 0, none⟩)] 76)) 83 (RC M (.slice (some ad) 5 nc) (.slice none 0 0) 4 (.pointer none) .nilIface false)
      rwa [show (w3.alloc (.cells #[.pointer (some ⟨w3.heap.size + 1, 0, none⟩)] 76)).heap.size = w3.heap.size + 1 by simp] at this
    case rel =>
      have hz2 : w2.heap.size < w3.heap.size := HRB.out.lt
      refine Lib.hid (MadeR.of HNM.out ((Below.drew ((Below.refl _ _).alloc (Nat.le_refl _) _))) (bs := [w2.heap.size]) ((((Only.refl [w2.heap.size] w3).alloc _).one)) (fun k h => by rw [List.mem_singleton.1 h]; exact ⟨Nat.le_refl _, _, HRB.out⟩) ((HRB.out.alloc _).set_ 0 _) (((Blk.new w3 _ _)).far (by show w3.heap.size ≠ w2.heap.size; omega) _) (by omega) (by omega))
  case rest =>
    obtain ⟨rb, R, M, dg, dc, rfl, hrb, hR, hM, hdg, h1, h2, h3, h4, n1, n2, n3, n4, n5, n6, hbx⟩ := hcut.out
    have HRB := Lib.hid hrb
    have HR := Lib.hid hR
    have HM := Lib.hid hM
    have HDG := Lib.hid hdg
    have HBX := Lib.hid hbx
    have HNO := Lib.hid (And.intro n1 (And.intro n2 (And.intro n3 (And.intro n4 (And.intro n5 n6)))))
    have HGE := Lib.hid (And.intro h1 (And.intro h2 (And.intro h3 h4)))
    have hbo : w.heap.size + 1 < w2.heap.size := HBO2.out.lt
    have HS0 := Lib.hid (show St w ad nc rb R M (w.heap.size + 1) dg wc from ⟨HRB.out, HBO2.out.below HBX.out hbo, hN.keep (fun p hp => (HB2.out.trans (HBX.out.mono HB2.out.size)).cell hp), HDG.out, HB2.out.trans (HBX.out.mono HB2.out.size), by have := HB2.out.size; have := HBX.out.size; omega⟩)
    have r9 : wc.cell? ⟨rb, 0, none⟩ = some (.pointer (some ⟨R, 0, none⟩)) := HS0.out.rbv.cell 0
    have r3 : wc.cell? ⟨R, 3, none⟩ = some (.int .i64 4) := HR.out.cell 3
    have r2 : wc.cell? ⟨R, 2, none⟩ = some (.slice none 0 0) := HR.out.cell 2
    clear hcut hrb hR hM hdg h1 h2 h3 h4 n1 n2 n3 n4 n5 n6 hbx K0 K1 d0 d1 HNW HNA
    obtain ⟨VA4, vc4, KA4, kc4, AA4, ac4, hn4, hadw4, ha4, hb4⟩ := HS0.out.node (j := 4) rfl
    obtain ⟨aA4, rfl, hbA4, hcA4⟩ := ha4 2 rfl
    have HC1 := Lib.hid (begin_push u4 VA4 _ vc4 KA4 _ kc4 (some aA4) _ ac4 R M 5 nc 4 ad (.slice none 0 0) .nilIface (.slice none 0 0) (.slice (some ⟨dg, 0, none⟩) 61 dc) false none 0 3 wc (by decide) HR.out HM.out (by decide) (by decide) (by decide) (by decide) (by decide) hn4 (by obtain ⟨n1, n2, n3, n4, n5, n6⟩ := HNO.out; obtain ⟨h1, h2, h3, h4⟩ := HGE.out; omega) (by obtain ⟨n1, n2, n3, n4, n5, n6⟩ := HNO.out; obtain ⟨h1, h2, h3, h4⟩ := HGE.out; omega) HNO.out.2.2.1
      w.heap.size wc.heap.size 0 0 none aA4 2 rfl (World.ownsRow_nil _ _ _ _) (fun k hk => by cases hk) (Nat.le_refl _) rfl (by decide) hcA4 (by obtain ⟨n1, n2, n3, n4, n5, n6⟩ := HNO.out; obtain ⟨h1, h2, h3, h4⟩ := HGE.out; simp only [List.mem_cons, List.not_mem_nil, or_false, not_or]; omega) (by obtain ⟨n1, n2, n3, n4, n5, n6⟩ := HNO.out; obtain ⟨h1, h2, h3, h4⟩ := HGE.out; omega) (by obtain ⟨n1, n2, n3, n4, n5, n6⟩ := HNO.out; obtain ⟨h1, h2, h3, h4⟩ := HGE.out; omega) (by have := HS0.out.obv.lt; omega) ⟨HR.out.lt, HM.out.lt, by have := HS0.out.obv.lt; omega⟩)
    have HPW := Lib.hid (show R < wc.heap.size ∧ M < wc.heap.size ∧ rb < wc.heap.size ∧ dg < wc.heap.size ∧ w.heap.size + 1 < wc.heap.size from ⟨HR.out.lt, HM.out.lt, HRB.out.lt, cell_lt HDG.out, HS0.out.obv.lt⟩)
    clear hn4 hadw4 ha4 hb4 hbA4 hcA4
    go_wp2_with fail
    refine wp_loop_rounds 9 ?_
    rw [rounds_succ]
    go_wp2_with (go_at_call 43; ((with_reducible refine (HC1.out).mono ?_); rintro e w3 ⟨rfl, g, c, hgP, ho3, hR3, hM3, o3⟩; have HGP := Lib.hid hgP; have HO3 := Lib.hid ho3; have HR3 := Lib.hid hR3; have HM3 := Lib.hid hM3; have HS3 := Lib.hid (HS0.out.only o3 (fun k hk => by obtain ⟨n1, n2, n3, n4, n5, n6⟩ := HNO.out; obtain ⟨h1, h2, h3, h4⟩ := HGE.out; simp only [List.mem_cons, List.not_mem_nil, or_false] at hk; rcases hk with rfl | rfl | rfl <;> omega)); have HZ3 := Lib.hid o3.size; clear hgP ho3 hR3 hM3 o3; clear r9 r3 r2))
    have r9 : w3.cell? ⟨rb, 0, none⟩ = some (.pointer (some ⟨R, 0, none⟩)) := HS3.out.rbv.cell 0
    have r3 : w3.cell? ⟨R, 3, none⟩ = some (.int .i64 2) := HR3.out.cell 3
    have r2 : w3.cell? ⟨R, 2, none⟩ = some (.slice (some ⟨g, 0, none⟩) 1 c) := HR3.out.cell 2
    obtain ⟨VA2, vc2, KA2, kc2, AA2, ac2, hn2, hadw2, ha2, hb2⟩ := HS3.out.node (j := 2) rfl
    have HC2 := Lib.hid (begin_fn u2 VA2 _ vc2 KA2 _ kc2 AA2 _ ac2 R M 5 nc 2 ad (.slice (some ⟨g, 0, none⟩) 1 c) .nilIface (.slice none 0 0) (.slice (some ⟨dg, 0, none⟩) 61 dc) false none 1 3 w3 (by decide) HR3.out HM3.out (by decide) (by decide) (by decide) (by decide) (by decide) hn2 (by obtain ⟨n1, n2, n3, n4, n5, n6⟩ := HNO.out; obtain ⟨h1, h2, h3, h4⟩ := HGE.out; omega) (by obtain ⟨n1, n2, n3, n4, n5, n6⟩ := HNO.out; obtain ⟨h1, h2, h3, h4⟩ := HGE.out; omega) HNO.out.2.2.1)
    clear hn2 hadw2 ha2 hb2
    rw [rounds_succ]
    go_wp2_with (go_at_call 43; ((with_reducible refine (HC2.out).mono ?_); rintro e w4 ⟨rfl, fb, hfb, hF4, hR4, hM4, o4⟩; have HFB := Lib.hid hfb; have HF4 := Lib.hid hF4; have HR4 := Lib.hid hR4; have HM4 := Lib.hid hM4; have HS4 := Lib.hid (HS3.out.only o4 (fun k hk => by obtain ⟨n1, n2, n3, n4, n5, n6⟩ := HNO.out; obtain ⟨h1, h2, h3, h4⟩ := HGE.out; simp only [List.mem_cons, List.not_mem_nil, or_false] at hk; rcases hk with rfl | rfl <;> omega)); have HO4 := Lib.hid (ownsRow_only HO3.out o4 (fun k hk h => by have hp := HPW.out; have hg := HGP.out; have hz := HZ3.out; have e : g = k := Option.some.inj hk; simp only [List.mem_cons, List.not_mem_nil, or_false] at h; omega)); have HZ4 := Lib.hid o4.size; have HGW := Lib.hid (World.ownsRow.lt HO3.out g rfl).2; clear hfb hF4 hR4 hM4 o4; clear r9 r3 r2))
    have r9 : w4.cell? ⟨rb, 0, none⟩ = some (.pointer (some ⟨R, 0, none⟩)) := HS4.out.rbv.cell 0
    have r3 : w4.cell? ⟨R, 3, none⟩ = some (.int .i64 (-1)) := HR4.out.cell 3
    have r2 : w4.cell? ⟨R, 2, none⟩ = some (.slice (some ⟨g, 0, none⟩) 1 c) := HR4.out.cell 2
    obtain ⟨VA4, vc4, KA4, kc4, AA4, ac4, hn4, hadw4, ha4, hb4⟩ := HS4.out.node (j := 4) rfl
    obtain ⟨aA4, rfl, hbA4, hcA4⟩ := ha4 2 rfl
    obtain ⟨aA4', e4, hc41⟩ := hb4 3 rfl
    obtain rfl := Option.some.inj e4
    have HC3 := Lib.hid (back_more u4 VA4 _ vc4 KA4 _ kc4 aA4 _ ac4 R M 5 nc 4 g c wc.heap.size w4.heap.size w.heap.size 0 0 ad none (.pointer none) (.pointer (some ⟨fb, 0, none⟩)) 110 (-1) none [] w4 (by decide) HR4.out (by decide) (by decide)
      HO4.out (World.ownsRow_nil _ _ _ _) (fun k hk => by cases hk) (by obtain ⟨n1, n2, n3, n4, n5, n6⟩ := HNO.out; obtain ⟨h1, h2, h3, h4⟩ := HGE.out; have hp := HPW.out; have hg := HGP.out; have hz := HZ3.out; have hz4 := HZ4.out; have hgw := HGW.out; have hfb := HFB.out; omega) (Nat.le_refl _) hn4 (by obtain ⟨n1, n2, n3, n4, n5, n6⟩ := HNO.out; obtain ⟨h1, h2, h3, h4⟩ := HGE.out; have hp := HPW.out; have hg := HGP.out; have hz := HZ3.out; have hz4 := HZ4.out; have hgw := HGW.out; have hfb := HFB.out; omega) (by obtain ⟨n1, n2, n3, n4, n5, n6⟩ := HNO.out; obtain ⟨h1, h2, h3, h4⟩ := HGE.out; have hp := HPW.out; have hg := HGP.out; have hz := HZ3.out; have hz4 := HZ4.out; have hgw := HGW.out; have hfb := HFB.out; omega) (by obtain ⟨n1, n2, n3, n4, n5, n6⟩ := HNO.out; obtain ⟨h1, h2, h3, h4⟩ := HGE.out; have hp := HPW.out; have hg := HGP.out; have hz := HZ3.out; have hz4 := HZ4.out; have hgw := HGW.out; have hfb := HFB.out; omega) (by obtain ⟨n1, n2, n3, n4, n5, n6⟩ := HNO.out; obtain ⟨h1, h2, h3, h4⟩ := HGE.out; have hp := HPW.out; have hg := HGP.out; have hz := HZ3.out; have hz4 := HZ4.out; have hgw := HGW.out; have hfb := HFB.out; omega) (by obtain ⟨n1, n2, n3, n4, n5, n6⟩ := HNO.out; obtain ⟨h1, h2, h3, h4⟩ := HGE.out; have hp := HPW.out; have hg := HGP.out; have hz := HZ3.out; have hz4 := HZ4.out; have hgw := HGW.out; have hfb := HFB.out; omega) (by obtain ⟨n1, n2, n3, n4, n5, n6⟩ := HNO.out; obtain ⟨h1, h2, h3, h4⟩ := HGE.out; have hp := HPW.out; have hg := HGP.out; have hz := HZ3.out; have hz4 := HZ4.out; have hgw := HGW.out; have hfb := HFB.out; omega) (by obtain ⟨n1, n2, n3, n4, n5, n6⟩ := HNO.out; obtain ⟨h1, h2, h3, h4⟩ := HGE.out; have hp := HPW.out; have hg := HGP.out; have hz := HZ3.out; have hz4 := HZ4.out; have hgw := HGW.out; have hfb := HFB.out; omega) (by obtain ⟨n1, n2, n3, n4, n5, n6⟩ := HNO.out; obtain ⟨h1, h2, h3, h4⟩ := HGE.out; have hp := HPW.out; have hg := HGP.out; have hz := HZ3.out; have hz4 := HZ4.out; have hgw := HGW.out; have hfb := HFB.out; omega) (by decide)
      3 (by decide) hc41 (by obtain ⟨n1, n2, n3, n4, n5, n6⟩ := HNO.out; obtain ⟨h1, h2, h3, h4⟩ := HGE.out; have hp := HPW.out; have hg := HGP.out; have hz := HZ3.out; have hz4 := HZ4.out; have hgw := HGW.out; have hfb := HFB.out; simp only [List.mem_cons, List.not_mem_nil, or_false, not_or]; omega) (by obtain ⟨n1, n2, n3, n4, n5, n6⟩ := HNO.out; obtain ⟨h1, h2, h3, h4⟩ := HGE.out; have hp := HPW.out; have hg := HGP.out; have hz := HZ3.out; have hz4 := HZ4.out; have hgw := HGW.out; have hfb := HFB.out; omega))
    clear hn4 hadw4 ha4 hb4 hbA4 hcA4 e4 hc41
    rw [rounds_succ]
    go_wp2_with (go_at_call 44; ((with_reducible refine (HC3.out).mono ?_); rintro e w5 ⟨rfl, gv, cv, hgv, hO5, hV5, hR5, o5⟩; have HGV := Lib.hid hgv; have HO5 := Lib.hid hO5; have HV5 := Lib.hid hV5; have HR5 := Lib.hid hR5; have HM5 := Lib.hid (HM4.out.only o5 (by obtain ⟨n1, n2, n3, n4, n5, n6⟩ := HNO.out; obtain ⟨h1, h2, h3, h4⟩ := HGE.out; have hp := HPW.out; have hg := HGP.out; have hz := HZ3.out; have hz4 := HZ4.out; have hgw := HGW.out; have hfb := HFB.out; simp only [List.mem_cons, List.not_mem_nil, or_false, not_or]; omega)); have HF5 := Lib.hid (HF4.out.only o5 (by obtain ⟨n1, n2, n3, n4, n5, n6⟩ := HNO.out; obtain ⟨h1, h2, h3, h4⟩ := HGE.out; have hp := HPW.out; have hg := HGP.out; have hz := HZ3.out; have hz4 := HZ4.out; have hgw := HGW.out; have hfb := HFB.out; simp only [List.mem_cons, List.not_mem_nil, or_false, not_or]; omega)); have HS5 := Lib.hid (HS4.out.only o5 (fun k hk => by obtain ⟨n1, n2, n3, n4, n5, n6⟩ := HNO.out; obtain ⟨h1, h2, h3, h4⟩ := HGE.out; have hp := HPW.out; have hg := HGP.out; have hz := HZ3.out; have hz4 := HZ4.out; have hgw := HGW.out; have hfb := HFB.out; simp only [List.mem_cons, List.not_mem_nil, or_false] at hk; rcases hk with rfl | rfl | rfl <;> omega)); have HZ5 := Lib.hid o5.size; clear hgv hO5 hV5 hR5 o5; clear r9 r3 r2))
    have HGVW := Lib.hid (World.ownsRow.lt HV5.out gv rfl).2
    have HFL := Lib.hid HF4.out.lt
    have r9 : w5.cell? ⟨rb, 0, none⟩ = some (.pointer (some ⟨R, 0, none⟩)) := HS5.out.rbv.cell 0
    have r3 : w5.cell? ⟨R, 3, none⟩ = some (.int .i64 3) := HR5.out.cell 3
    have r2 : w5.cell? ⟨R, 2, none⟩ = some (.slice (some ⟨g, 0, none⟩) 1 c) := HR5.out.cell 2
    obtain ⟨VA3, vc3, KA3, kc3, AA3, ac3, hn3, hadw3, ha3, hb3⟩ := HS5.out.node (j := 3) rfl
    have HC4 := Lib.hid (begin_str u3 VA3 _ vc3 KA3 _ kc3 AA3 _ ac3 R M 5 nc 3 ad (.slice (some ⟨g, 0, none⟩) 1 c) (.iface 110 (.pointer (some ⟨fb, 0, none⟩))) (.slice none 0 0) (.slice (some ⟨dg, 0, none⟩) 61 dc) false none 2 3 w5 (by decide) HR5.out HM5.out (by decide) (by decide) (by decide) (by decide) (by decide) hn3 (by obtain ⟨n1, n2, n3, n4, n5, n6⟩ := HNO.out; obtain ⟨h1, h2, h3, h4⟩ := HGE.out; omega) (by obtain ⟨n1, n2, n3, n4, n5, n6⟩ := HNO.out; obtain ⟨h1, h2, h3, h4⟩ := HGE.out; omega) HNO.out.2.2.1)
    clear hn3 hadw3 ha3 hb3
    rw [rounds_succ]
    go_wp2_with (go_at_call 43; ((with_reducible refine (HC4.out).mono ?_); rintro e w6 ⟨rfl, hR6, hM6, o6⟩; have HR6 := Lib.hid hR6; have HM6 := Lib.hid hM6; have HO6 := Lib.hid (ownsRow_only HO5.out o6 (fun k hk h => by obtain ⟨n1, n2, n3, n4, n5, n6⟩ := HNO.out; obtain ⟨h1, h2, h3, h4⟩ := HGE.out; have hp := HPW.out; have hg := HGP.out; have hz := HZ3.out; have hz4 := HZ4.out; have hz5 := HZ5.out; have hgw := HGW.out; have hfb := HFB.out; have hgv := HGV.out; have hgvw := HGVW.out; have hfl := HFL.out; have e : g = k := Option.some.inj hk; simp only [List.mem_cons, List.not_mem_nil, or_false] at h; omega)); have HV6 := Lib.hid (ownsRow_only HV5.out o6 (fun k hk h => by obtain ⟨n1, n2, n3, n4, n5, n6⟩ := HNO.out; obtain ⟨h1, h2, h3, h4⟩ := HGE.out; have hp := HPW.out; have hg := HGP.out; have hz := HZ3.out; have hz4 := HZ4.out; have hz5 := HZ5.out; have hgw := HGW.out; have hfb := HFB.out; have hgv := HGV.out; have hgvw := HGVW.out; have hfl := HFL.out; have e : gv = k := Option.some.inj hk; simp only [List.mem_cons, List.not_mem_nil, or_false] at h; omega)); have HF6 := Lib.hid (HF5.out.only o6 (by obtain ⟨n1, n2, n3, n4, n5, n6⟩ := HNO.out; obtain ⟨h1, h2, h3, h4⟩ := HGE.out; have hp := HPW.out; have hg := HGP.out; have hz := HZ3.out; have hz4 := HZ4.out; have hz5 := HZ5.out; have hgw := HGW.out; have hfb := HFB.out; have hgv := HGV.out; have hgvw := HGVW.out; have hfl := HFL.out; simp only [List.mem_cons, List.not_mem_nil, or_false, not_or]; omega)); have HS6 := Lib.hid (HS5.out.only o6 (fun k hk => by obtain ⟨n1, n2, n3, n4, n5, n6⟩ := HNO.out; obtain ⟨h1, h2, h3, h4⟩ := HGE.out; simp only [List.mem_cons, List.not_mem_nil, or_false] at hk; rcases hk with rfl | rfl <;> omega)); have HZ6 := Lib.hid o6.size; clear hR6 hM6 o6; clear r9 r3 r2))
    have r9 : w6.cell? ⟨rb, 0, none⟩ = some (.pointer (some ⟨R, 0, none⟩)) := HS6.out.rbv.cell 0
    have r3 : w6.cell? ⟨R, 3, none⟩ = some (.int .i64 (-1)) := HR6.out.cell 3
    have r2 : w6.cell? ⟨R, 2, none⟩ = some (.slice (some ⟨g, 0, none⟩) 1 c) := HR6.out.cell 2
    obtain ⟨VA4, vc4, KA4, kc4, AA4, ac4, hn4, hadw4, ha4, hb4⟩ := HS6.out.node (j := 4) rfl
    obtain ⟨aA4, rfl, hbA4, hcA4⟩ := ha4 2 rfl
    obtain ⟨VA2, vc2, KA2, kc2, AA2, ac2, hn2, hadw2, ha2, hb2⟩ := HS6.out.node (j := 2) rfl
    obtain ⟨aA2, rfl, hbA2, hcA2⟩ := ha2 1 rfl
    have HC5 := Lib.hid (back_app u4 VA4 _ vc4 KA4 _ kc4 aA4 _ ac4 R M 5 nc 4 g c wc.heap.size w4.heap.size gv 1 cv ad (some ⟨gv, 0, none⟩) (.pointer none) (.string ⟨u3.t.toArray⟩) 109 (-1) none [.iface 110 (.pointer (some ⟨fb, 0, none⟩))] w6 (by decide) HR6.out (by decide) (by decide)
      HO6.out HV6.out (fun k hk => (Option.some.inj hk).symm) (by obtain ⟨n1, n2, n3, n4, n5, n6⟩ := HNO.out; obtain ⟨h1, h2, h3, h4⟩ := HGE.out; have hp := HPW.out; have hg := HGP.out; have hz := HZ3.out; have hz4 := HZ4.out; have hz5 := HZ5.out; have hgw := HGW.out; have hfb := HFB.out; have hgv := HGV.out; have hgvw := HGVW.out; have hfl := HFL.out; have hz6 := HZ6.out; omega) (by obtain ⟨n1, n2, n3, n4, n5, n6⟩ := HNO.out; obtain ⟨h1, h2, h3, h4⟩ := HGE.out; have hp := HPW.out; have hg := HGP.out; have hz := HZ3.out; have hz4 := HZ4.out; have hz5 := HZ5.out; have hgw := HGW.out; have hfb := HFB.out; have hgv := HGV.out; have hgvw := HGVW.out; have hfl := HFL.out; have hz6 := HZ6.out; omega) hn4 (by obtain ⟨n1, n2, n3, n4, n5, n6⟩ := HNO.out; obtain ⟨h1, h2, h3, h4⟩ := HGE.out; have hp := HPW.out; have hg := HGP.out; have hz := HZ3.out; have hz4 := HZ4.out; have hz5 := HZ5.out; have hgw := HGW.out; have hfb := HFB.out; have hgv := HGV.out; have hgvw := HGVW.out; have hfl := HFL.out; have hz6 := HZ6.out; omega) (by obtain ⟨n1, n2, n3, n4, n5, n6⟩ := HNO.out; obtain ⟨h1, h2, h3, h4⟩ := HGE.out; have hp := HPW.out; have hg := HGP.out; have hz := HZ3.out; have hz4 := HZ4.out; have hz5 := HZ5.out; have hgw := HGW.out; have hfb := HFB.out; have hgv := HGV.out; have hgvw := HGVW.out; have hfl := HFL.out; have hz6 := HZ6.out; omega) (by obtain ⟨n1, n2, n3, n4, n5, n6⟩ := HNO.out; obtain ⟨h1, h2, h3, h4⟩ := HGE.out; have hp := HPW.out; have hg := HGP.out; have hz := HZ3.out; have hz4 := HZ4.out; have hz5 := HZ5.out; have hgw := HGW.out; have hfb := HFB.out; have hgv := HGV.out; have hgvw := HGVW.out; have hfl := HFL.out; have hz6 := HZ6.out; omega) (by obtain ⟨n1, n2, n3, n4, n5, n6⟩ := HNO.out; obtain ⟨h1, h2, h3, h4⟩ := HGE.out; have hp := HPW.out; have hg := HGP.out; have hz := HZ3.out; have hz4 := HZ4.out; have hz5 := HZ5.out; have hgw := HGW.out; have hfb := HFB.out; have hgv := HGV.out; have hgvw := HGVW.out; have hfl := HFL.out; have hz6 := HZ6.out; omega) (by obtain ⟨n1, n2, n3, n4, n5, n6⟩ := HNO.out; obtain ⟨h1, h2, h3, h4⟩ := HGE.out; have hp := HPW.out; have hg := HGP.out; have hz := HZ3.out; have hz4 := HZ4.out; have hz5 := HZ5.out; have hgw := HGW.out; have hfb := HFB.out; have hgv := HGV.out; have hgvw := HGVW.out; have hfl := HFL.out; have hz6 := HZ6.out; omega) (by obtain ⟨n1, n2, n3, n4, n5, n6⟩ := HNO.out; obtain ⟨h1, h2, h3, h4⟩ := HGE.out; have hp := HPW.out; have hg := HGP.out; have hz := HZ3.out; have hz4 := HZ4.out; have hz5 := HZ5.out; have hgw := HGW.out; have hfb := HFB.out; have hgv := HGV.out; have hgvw := HGVW.out; have hfl := HFL.out; have hz6 := HZ6.out; omega) (by obtain ⟨n1, n2, n3, n4, n5, n6⟩ := HNO.out; obtain ⟨h1, h2, h3, h4⟩ := HGE.out; have hp := HPW.out; have hg := HGP.out; have hz := HZ3.out; have hz4 := HZ4.out; have hz5 := HZ5.out; have hgw := HGW.out; have hfb := HFB.out; have hgv := HGV.out; have hgvw := HGVW.out; have hfl := HFL.out; have hz6 := HZ6.out; omega) (by obtain ⟨n1, n2, n3, n4, n5, n6⟩ := HNO.out; obtain ⟨h1, h2, h3, h4⟩ := HGE.out; have hp := HPW.out; have hg := HGP.out; have hz := HZ3.out; have hz4 := HZ4.out; have hz5 := HZ5.out; have hgw := HGW.out; have hfb := HFB.out; have hgv := HGV.out; have hgvw := HGVW.out; have hfl := HFL.out; have hz6 := HZ6.out; omega) (by decide)
      u2 fb 2 _ ac2 aA2 1 none (by decide) (by decide) rfl rfl (by decide) HF6.out hn2.2.1 hn2.2.2.2.2.2.2.2 (by decide) hcA2 (by obtain ⟨n1, n2, n3, n4, n5, n6⟩ := HNO.out; obtain ⟨h1, h2, h3, h4⟩ := HGE.out; have hp := HPW.out; have hg := HGP.out; have hz := HZ3.out; have hz4 := HZ4.out; have hz5 := HZ5.out; have hgw := HGW.out; have hfb := HFB.out; have hgv := HGV.out; have hgvw := HGVW.out; have hfl := HFL.out; have hz6 := HZ6.out; simp only [List.mem_cons, List.not_mem_nil, or_false, not_or]; omega) (by obtain ⟨n1, n2, n3, n4, n5, n6⟩ := HNO.out; obtain ⟨h1, h2, h3, h4⟩ := HGE.out; have hp := HPW.out; have hg := HGP.out; have hz := HZ3.out; have hz4 := HZ4.out; have hz5 := HZ5.out; have hgw := HGW.out; have hfb := HFB.out; have hgv := HGV.out; have hgvw := HGVW.out; have hfl := HFL.out; have hz6 := HZ6.out; simp only [List.mem_cons, List.not_mem_nil, or_false, not_or]; omega))
    clear hn4 hadw4 ha4 hb4 hbA4 hcA4 hn2 hadw2 ha2 hb2 hbA2 hcA2
    rw [rounds_succ]
    go_wp2_with (go_at_call 44; ((with_reducible refine (HC5.out).mono ?_); rintro e w7 ⟨rfl, sc, hsc, hS7, hO7, hR7, o7⟩; have HSC := Lib.hid hsc; have HX7 := Lib.hid hS7; have HO7 := Lib.hid hO7; have HR7 := Lib.hid hR7; have HM7 := Lib.hid (HM6.out.only o7 (by obtain ⟨n1, n2, n3, n4, n5, n6⟩ := HNO.out; obtain ⟨h1, h2, h3, h4⟩ := HGE.out; have hp := HPW.out; have hg := HGP.out; have hz := HZ3.out; have hz4 := HZ4.out; have hz5 := HZ5.out; have hgw := HGW.out; have hfb := HFB.out; have hgv := HGV.out; have hgvw := HGVW.out; have hfl := HFL.out; have hz6 := HZ6.out; simp only [List.mem_cons, List.not_mem_nil, or_false, not_or]; omega)); have HS7 := Lib.hid (HS6.out.only o7 (fun k hk => by obtain ⟨n1, n2, n3, n4, n5, n6⟩ := HNO.out; obtain ⟨h1, h2, h3, h4⟩ := HGE.out; have hp := HPW.out; have hg := HGP.out; have hz := HZ3.out; have hz4 := HZ4.out; have hz5 := HZ5.out; have hgw := HGW.out; have hfb := HFB.out; have hgv := HGV.out; have hgvw := HGVW.out; have hfl := HFL.out; have hz6 := HZ6.out; simp only [List.mem_cons, List.not_mem_nil, or_false] at hk; rcases hk with rfl | rfl | rfl <;> omega)); have HZ7 := Lib.hid o7.size; clear hsc hS7 hO7 hR7 o7; clear r9 r3 r2))
    have r9 : w7.cell? ⟨rb, 0, none⟩ = some (.pointer (some ⟨R, 0, none⟩)) := HS7.out.rbv.cell 0
    have r3 : w7.cell? ⟨R, 3, none⟩ = some (.int .i64 1) := HR7.out.cell 3
    have r2 : w7.cell? ⟨R, 2, none⟩ = some (.slice (some ⟨g, 0, none⟩) 0 c) := HR7.out.cell 2
    have HC6 := Lib.hid (begin_over R M (.slice (some ad) 5 nc) (.slice (some ⟨g, 0, none⟩) 0 c) (.pointer (some ⟨sc, 0, none⟩)) (.iface 109 (.string ⟨u3.t.toArray⟩)) (.slice none 0 0) (.slice (some ⟨dg, 0, none⟩) 61 dc) 1 false 3 3 w7 HR7.out HM7.out (by decide))
    rw [rounds_succ]
    go_wp2_with (go_at_call 43; ((with_reducible refine (HC6.out).mono ?_); rintro e w8 ⟨rfl, o8⟩; have HO8 := Lib.hid o8; clear o8; clear r9 r3 r2))
    have hO8 := HS7.out.obv.only HO8.out (by simp)
    have hrb8 := HS7.out.rbv.only HO8.out (by simp)
    have hR8 := HR7.out.only HO8.out (by simp)
    have hM8 := HM7.out.only HO8.out (by simp)
    have hbne : w.heap.size + 1 ≠ M := by obtain ⟨n1, n2, n3, n4, n5, n6⟩ := HNO.out; obtain ⟨h1, h2, h3, h4⟩ := HGE.out; have hp := HPW.out; omega
    refine leaves_cons (f := 41) (args := #[.pointer (some ⟨rb, 0, none⟩), .pointer (some ⟨w.heap.size + 1, 0, none⟩)]) (by simp) (by simp [go_sem]) ?_
    refine (run1_pan rb R M (w.heap.size + 1) 0 0 none (.slice (some ⟨dg, 0, none⟩) 61 dc) 3 3 (.int .i64 0) (.string ⟨#[]⟩) (.slice none 0 0) (.int .i64 0) _ (hrb8.cell 0) (hR8.cell 0) hM8 hO8 (Ne.symm hbne)).mono ?_
    rintro e u' w'' ⟨rfl, rfl, hO, ho⟩
    have hall := (HO8.out.mono (cs := [w.heap.size + 1]) (by simp)).trans ho
    have q0 : w''.cell? ⟨w.heap.size + 1, 0, none⟩ = some (.slice none 0 0) := hO.cell 0
    have q1 : w''.cell? ⟨w.heap.size + 1, 1, none⟩ = some (.int .i64 3) := hO.cell 1
    have q2 : w''.cell? ⟨w.heap.size + 1, 2, none⟩ = some (.string ⟨#[]⟩) := hO.cell 2
    have q3 : w''.cell? ⟨w.heap.size + 1, 3, none⟩ = some (.int .i64 3) := hO.cell 3
    simp [Leaves, settle, results, Tryz.results23, go_sem, q0, q1, q2, q3]
    exact below_only HS7.out.bel hall (fun k hk => by have := List.mem_singleton.1 hk; omega) HS7.out.siz
end Go.Proofs.YtmedfpejfpdpdaaGreatDoor
