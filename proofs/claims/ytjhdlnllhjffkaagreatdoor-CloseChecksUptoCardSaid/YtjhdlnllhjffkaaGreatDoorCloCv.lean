/- Close: Convert of a number and an end. -/
import Derived.Test.YtjhdlnllhjffkaaGreatDoorCloMv
import Derived.Test.YtjhdlnllhjffkaaGreatDoorCloK
import Derived.Test.YtjhdlnllhjffkaaGreatDoorCpsW
import Derived.StillTailTactics
namespace Go.Proofs.YtjhdlnllhjffkaaGreatDoor
open Go.RowKit LamM CpsM CloM Go.Maps

theorem fconv1_idle (p q : Addr) (w : World) :
    CallsD Tryz.prog 49 #[.pointer (some p), .pointer (some q)] .returning w fun e u' w' => e = .returned (.tuple #[]) ∧ u' = .returning ∧ w' = w := by
  refine callsD_of_wpS Tryz.func49 rfl fun c₀ cs hu => ?_
  apply wpS_seq
  apply wpS_region
  simp [wpOpsS, go_sem, recoverD, hu, Tryz.ntmps49, Exit.thenS]
  apply wpS_seq
  apply wpS_seq
  apply wpS_region
  simp [wpOpsS, go_sem, Exit.thenS]
  refine wpS_cond (t := true) (by simp [Act.eval, Array.replicate]) ?_
  simp only [if_true]
  refine wpS_of_wp (wp_ret ?_)
  cases c₀
  simp_all [bodyPostS, results, Tryz.results49, Exit.thenS]
theorem ln_NF {w : World} {LB LA : Nat} (hL : Blk w LB 43 (lnC LA)) (hA : Blk w LA 3 #[.int .i64 0]) : NF w w.heap.size (.slice (some ⟨LB, 0, none⟩) 2 2) convF :=
  NF_of (w := w) (g := LB) (c := 2) (l := [(numFl, nilV, nilV, nilV), (endFl, nilV, nilV, .slice (some ⟨LA, 0, none⟩) 1 1)]) (fun k u hk => by
    rw [hL.cell k]
    show (lnC LA)[k]? = some u
    rw [show lnC LA = (progC [(numFl, nilV, nilV, nilV), (endFl, nilV, nilV, .slice (some ⟨LA, 0, none⟩) 1 1)]).toArray from rfl, List.getElem?_toArray]
    exact hk) hL.lt (show 2 ≤ 2 from Nat.le_refl _) (show 2 ≤ 1300000000000 by decide) (fun x hx => by
    simp only [List.mem_cons, List.mem_nil_iff, or_false] at hx
    rcases hx with rfl | rfl
    · exact small_FV rfl (nil_IV _ _) (nil_IV _ _)
    · exact small_FV rfl (nil_IV _ _) (blk_iv (l := [0]) hA (by decide)))
theorem check_lnC : checkC prims convF 1 = 0 := by decide
theorem below_ok : (belowM (tms convF) [1]).2 = true := by decide
/-- Which nodes lie below the root. -/
def inb2 : Nat → Bool := (belowM (tms convF) [1]).1
theorem inb2_vals : boolVals 2 inb2 = [.bool true, .bool true] := by
  have h0 : inb2 0 = true := by decide
  have h1 : inb2 1 = true := by decide
  show [Value.bool (inb2 0), Value.bool (inb2 1)] = _
  rw [h0, h1]
theorem below_ln {w : World} {LB q : Nat} (hN : NF w w.heap.size (.slice (some ⟨LB, 0, none⟩) 2 2) convF) (hq : Blk w q 3 #[.int .i64 1]) :
    Calls Tryz.prog 8 #[.slice (some ⟨LB, 0, none⟩) 2 2, .slice (some ⟨q, 0, none⟩) 1 1] w fun e w' => ∃ gb, e = .returned (.tuple #[.slice (some ⟨gb, 0, none⟩) 2 2, .bool true]) ∧ w.heap.size ≤ gb ∧ w'.ownsRow gb 4 1 (.slice (some ⟨gb, 0, none⟩) 2 2) 2 (boolVals 2 inb2) ∧ Below w.heap.size w w' := by
  refine (fbelow_any convF (some ⟨LB, 0, none⟩) 2 2 [1] (.slice (some ⟨q, 0, none⟩) 1 1) w rfl (by decide) hN (blk_iv (l := [1]) hq (by decide)) (by decide)).mono ?_
  rintro e w' ⟨v, rfl, h1, h2⟩
  obtain ⟨g, rfl, h3, h4⟩ := h1 below_ok
  exact ⟨g, by rw [below_ok], h3, h4, h2⟩
theorem frees_ln {w : World} {LB gb : Nat} (hN : NF w w.heap.size (.slice (some ⟨LB, 0, none⟩) 2 2) convF) (hO : w.ownsRow gb 4 1 (.slice (some ⟨gb, 0, none⟩) 2 2) 2 (boolVals 2 inb2)) :
    Calls Tryz.prog 12 #[.slice (some ⟨LB, 0, none⟩) 2 2, .slice (some ⟨gb, 0, none⟩) 2 2] w fun e w' => ∃ g, e = .returned (.slice (some ⟨g, 0, none⟩) 2 2) ∧ Below w.heap.size w w' := by
  refine (ffrees_any convF (some ⟨LB, 0, none⟩) 2 2 gb inb2 w w rfl (by decide) hN hO (Below.refl _ _) (fun i t hi ht a ha => ?_)).mono ?_
  · match i, ht with
    | 0, ht => obtain rfl := Option.some.inj ht; cases ha
    | 1, ht =>
      obtain rfl := Option.some.inj ht
      obtain rfl := List.mem_singleton.1 ha
      decide
    | i + 2, ht => exact absurd ht (by simp [convF])
  · rintro e w' ⟨g, vs, rfl, h⟩
    exact ⟨g, rfl, h.bel⟩
/-- The converter is made. -/
def MadeMk (lv : Value) (w3 : World) (p7 : Value) (wx : World) : Prop :=
  ∃ C M pv, p7 = .pointer (some ⟨C, 0, none⟩) ∧ Blk wx C 102 (MKC lv pv nilV nilV (.map (some M)) 0 0) ∧ MapI wx M 0 (.map []) ∧ M < C ∧ w3.heap.size ≤ M ∧ Below w3.heap.size w3 wx
/-- What Convert hands back. -/
def ConvF (w : World) (e : Ending) (w' : World) : Prop :=
  ∃ g c fb, e = .returned (.tuple #[.agg #[.slice (some ⟨g, 0, none⟩) 2 c, .slice (some ⟨fb, 0, none⟩) 1 1, .int .i64 0], .int .i64 0]) ∧ NF w' w'.heap.size (.slice (some ⟨g, 0, none⟩) 2 c) convF ∧ FnV w' w'.heap.size (.slice (some ⟨fb, 0, none⟩) 1 1) convFs ∧ Below w.heap.size w w'
set_option maxRecDepth 100000 in
set_option maxHeartbeats 8000000 in
theorem fconvert_any (LB LA : Nat) (w : World) (hL : Blk w LB 43 (lnC LA)) (hA : Blk w LA 3 #[.int .i64 0]) :
    Calls Tryz.prog 23 #[.agg #[.slice (some ⟨LB, 0, none⟩) 2 2, .int .i64 1]] w (ConvF w) := by
  obtain ⟨i0, hi0, hz0, hz1, hz2⟩ := info_parts infoI
  have hmf := mk_func
  have hmm := @run_makeMap Tryz.prog
  obtain ⟨W, hW⟩ : ∃ W, ((w.alloc (.cells #[.slice (some ⟨LB, 0, none⟩) 2 2, .int .i64 1] 65)).alloc (.cells #[.slice none 0 0, .slice none 0 0, .int .i64 0] 25)).alloc (.cells #[.int .i64 0] 26) = W := ⟨_, rfl⟩
  have hb1 : Below w.heap.size w W := by rw [← hW]; exact (((Below.refl _ _).alloc (Nat.le_refl _) _).alloc (by simp) _).alloc (by simp; omega) _
  have HBL := Lib.hid (show Blk W (w.heap.size) 65 #[.slice (some ⟨LB, 0, none⟩) 2 2, .int .i64 1] by rw [← hW]; exact ((Blk.new _ _ _).alloc _).alloc _)
  have HBQ := Lib.hid (show Blk W (w.heap.size + 1) 25 #[.slice none 0 0, .slice none 0 0, .int .i64 0] by rw [← hW]; exact (blk_atC (by simp) _ _).alloc _)
  have HBE := Lib.hid (show Blk W (w.heap.size + 1 + 1) 26 #[.int .i64 0] by rw [← hW]; exact blk_atC (by simp) _ _)
  have HL1 := Lib.hid (hL.below hb1 hL.lt)
  have HA1 := Lib.hid (hA.below hb1 hA.lt)
  have HB1 := Lib.hid hb1
  have HCK := Lib.hid (ccheck_any convF (.slice (some ⟨LB, 0, none⟩) 2 2) 1 W (ln_NF HL1.out HA1.out))
  unfold CkPost at HCK
  rw [check_lnC] at HCK
  have b0 : W.cell? ⟨w.heap.size, 0, none⟩ = some (.slice (some ⟨LB, 0, none⟩) 2 2) := HBL.out.cell 0
  have b1 : W.cell? ⟨w.heap.size, 1, none⟩ = some (.int .i64 1) := HBL.out.cell 1
  clear hb1 hL hA
  go_enter_defers Tryz.func23, Tryz.ntmps23
  go_upto_region 5 with (go_at_call 48; ((with_reducible refine (HCK.out).mono ?_); rintro e w2 ⟨rfl, hb2⟩))
  have HBL2 := Lib.hid (HBL.out.below hb2 HBL.out.lt)
  have HBQ2 := Lib.hid (HBQ.out.below hb2 HBQ.out.lt)
  have HBE2 := Lib.hid (HBE.out.below hb2 HBE.out.lt)
  have HL2 := Lib.hid (HL1.out.below hb2 HL1.out.lt)
  have HA2 := Lib.hid (HA1.out.below hb2 HA1.out.lt)
  have HB2 := Lib.hid (HB1.out.trans (hb2.mono HB1.out.size))
  obtain ⟨W3, hW3⟩ : ∃ W3, w2.alloc (.cells #[.int .i64 1] 3) = W3 := ⟨_, rfl⟩
  have hb3 : Below w2.heap.size w2 W3 := by rw [← hW3]; exact (Below.refl _ _).alloc (Nat.le_refl _) _
  have HBW := Lib.hid (show Calls Tryz.prog 8 #[.slice (some ⟨LB, 0, none⟩) 2 2, .slice (some ⟨w2.heap.size, 0, none⟩) 1 1] W3 fun e w' => ∃ gb, e = .returned (.tuple #[.slice (some ⟨gb, 0, none⟩) 2 2, .bool true]) ∧ W3.heap.size ≤ gb ∧ w'.ownsRow gb 4 1 (.slice (some ⟨gb, 0, none⟩) 2 2) 2 (boolVals 2 inb2) ∧ Below W3.heap.size W3 w' from below_ln (q := w2.heap.size) (ln_NF (HL2.out.below hb3 HL2.out.lt) (HA2.out.below hb3 HA2.out.lt)) (by rw [← hW3]; exact Blk.new _ _ _))
  have HB23 := Lib.hid hb3
  have c0 : w2.cell? ⟨w.heap.size, 0, none⟩ = some (.slice (some ⟨LB, 0, none⟩) 2 2) := HBL2.out.cell 0
  have c1 : w2.cell? ⟨w.heap.size, 1, none⟩ = some (.int .i64 1) := HBL2.out.cell 1
  clear b0 b1 hb2 hW hb3
  go_upto_region 6 with (go_at_call 8; ((with_reducible refine (HBW.out).mono ?_); rintro e w3 ⟨gb, rfl, hgb, hob, hb3⟩; have HB3 := Lib.hid (HB23.out.trans (hb3.mono HB23.out.size)); have HGB := Lib.hid hgb; have HOB := Lib.hid hob; clear hgb hob hb3))
  clear c0 c1 hW3
  have HBL3 := Lib.hid (HBL2.out.below HB3.out HBL2.out.lt)
  have HBQ3 := Lib.hid (HBQ2.out.below HB3.out HBQ2.out.lt)
  have HBE3 := Lib.hid (HBE2.out.below HB3.out HBE2.out.lt)
  have HL3 := Lib.hid (HL2.out.below HB3.out HL2.out.lt)
  have HA3 := Lib.hid (HA2.out.below HB3.out HA2.out.lt)
  have HB03 := Lib.hid (HB2.out.trans (HB3.out.mono HB2.out.size))
  have HF := Lib.hid (fun W' (ho : Only [] w3 W') => show Calls Tryz.prog 12 #[.slice (some ⟨LB, 0, none⟩) 2 2, .slice (some ⟨gb, 0, none⟩) 2 2] W' fun e w' => ∃ g, e = .returned (.slice (some ⟨g, 0, none⟩) 2 2) ∧ Below W'.heap.size W' w' ∧ Below w3.heap.size w3 w' from (frees_ln (ln_NF (HL3.out.only ho (by simp)) (HA3.out.only ho (by simp))) (ownsRow_only HOB.out ho (by simp))).mono (fun e w' h => ⟨h.choose, h.choose_spec.1, h.choose_spec.2, (below_only (Below.refl w3.heap.size w3) ho (fun k hk => by cases hk) (Nat.le_refl _)).trans (h.choose_spec.2.mono ho.size)⟩))
  have K0 := Lib.hid (show w3.drew.cell? ⟨w.heap.size, 0, none⟩ = some (.slice (some ⟨LB, 0, none⟩) 2 2) from HBL3.out.drew.cell 0)
  have K1 := Lib.hid (fun o => show (w3.alloc o).drew.cell? ⟨w.heap.size, 0, none⟩ = some (.slice (some ⟨LB, 0, none⟩) 2 2) from (HBL3.out.alloc o).drew.cell 0)
  go_cut [7] from 30 to 38 (fun p7 wx => Hid (MadeMk (.slice (some ⟨LB, 0, none⟩) 2 2) w3 p7 wx))
  case first =>
    go_region_held3 (fun w' => w'.cell? ⟨w.heap.size, 0, none⟩ = some (.slice (some ⟨LB, 0, none⟩) 2 2)) (first | with_reducible exact K0.out | with_reducible exact K1.out _ | with_reducible exact K4.out | with_reducible exact K4a.out _ | with_reducible exact K4b.out _ _)
      (first | (go_at_call 12; ((with_reducible refine (HF.out _ ?ho).mono ?_); (case ho => (first | exact (Only.refl [] w3).drew | exact ((Only.refl [] w3).alloc _).drew)); rintro e w4 ⟨fg, rfl, hb4, hb34⟩; have HB4 := Lib.hid hb4; have HB34 := Lib.hid hb34; have HBL4 := Lib.hid (HBL3.out.below hb34 HBL3.out.lt); have K4 := Lib.hid (show w4.cell? ⟨w.heap.size, 0, none⟩ = some (.slice (some ⟨LB, 0, none⟩) 2 2) from HBL4.out.cell 0); have K4a := Lib.hid (fun o => show (w4.alloc o).cell? ⟨w.heap.size, 0, none⟩ = some (.slice (some ⟨LB, 0, none⟩) 2 2) from (HBL4.out.alloc o).cell 0); have K4b := Lib.hid (fun o o' => show ((w4.alloc o).alloc o').cell? ⟨w.heap.size, 0, none⟩ = some (.slice (some ⟨LB, 0, none⟩) 2 2) from ((HBL4.out.alloc o).alloc o').cell 0); clear hb4 hb34)))
    all_goals
      go_wp2_with fail
      go_meet
    case rel =>
      have hz := HB34.out.size
      exact Lib.hid ⟨w4.heap.size + 1, w4.heap.size, _, rfl, blk_atC (by simp) _ _, (show MapI (w4.alloc (.map #[] 0)) w4.heap.size 0 (.map []) from World.ownsMap_made w4 _ _ _).only ((Only.refl [] _).alloc _) (by simp), by omega, hz, (HB34.out.alloc hz _).alloc (by simp; omega) _⟩
    case rel =>
      have hz := HB34.out.size
      have hz4 := HB4.out.size
      have hs : (w3.alloc (.map #[] 0)).drew.heap.size = w3.heap.size + 1 := by show (w3.alloc _).heap.size = _; simp
      rw [hs] at hz4
      exact Lib.hid ⟨w4.heap.size, w3.heap.size, _, rfl, Blk.new w4 _ _, (MapI.below (show MapI (w3.alloc (.map #[] 0)).drew w3.heap.size 0 (.map []) from World.ownsMap_made w3 _ _ _) HB4.out (by rw [hs]; omega)).only ((Only.refl [] _).alloc _) (by simp), by omega, Nat.le_refl _, HB34.out.alloc hz _⟩
  case rest =>
    obtain ⟨wd, rfl⟩ : ∃ wd, wd = wc := ⟨_, rfl⟩
    obtain ⟨C, M, pv, rfl, hC, hM, hMC, h1, hbl⟩ := hcut.out
    have hwz := HB03.out.size
    have HC := Lib.hid hC
    have HM := Lib.hid hM
    have HMC := Lib.hid (show M < C ∧ w3.heap.size ≤ M from ⟨hMC, h1⟩)
    have HBD := Lib.hid hbl
    have HBL5 := Lib.hid (HBL3.out.below hbl HBL3.out.lt)
    have HBQ5 := Lib.hid (HBQ3.out.below hbl HBQ3.out.lt)
    have HBE5 := Lib.hid (HBE3.out.below hbl HBE3.out.lt)
    have HL5 := Lib.hid (HL3.out.below hbl HL3.out.lt)
    have HA5 := Lib.hid (HA3.out.below hbl HA3.out.lt)
    have HO5 := Lib.hid (ownsRow_below HOB.out hbl)
    have HB05 := Lib.hid (HB03.out.trans (hbl.mono hwz))
    have c0 : wd.cell? ⟨w.heap.size, 0, none⟩ = some (.slice (some ⟨LB, 0, none⟩) 2 2) := HBL5.out.cell 0
    have d0 : wd.cell? ⟨LB, 0, none⟩ = some (.int .i64 2) := HL5.out.cell 0
    have d1 : wd.cell? ⟨LB, 1, none⟩ = some (.int .i64 0) := HL5.out.cell 1
    have d2 : wd.cell? ⟨LB, 2, none⟩ = some (.int .i64 0) := HL5.out.cell 2
    have d3 : wd.cell? ⟨LB, 3, none⟩ = some (.int .i64 0) := HL5.out.cell 3
    have d4 : wd.cell? ⟨LB, 4, none⟩ = some (.int .u64 0) := HL5.out.cell 4
    have d5 : wd.cell? ⟨LB, 5, none⟩ = some (.string ⟨#[]⟩) := HL5.out.cell 5
    have d6 : wd.cell? ⟨LB, 6, none⟩ = some (nilV) := HL5.out.cell 6
    have d7 : wd.cell? ⟨LB, 7, none⟩ = some (nilV) := HL5.out.cell 7
    have d8 : wd.cell? ⟨LB, 8, none⟩ = some (nilV) := HL5.out.cell 8
    have g0 : wd.cell? ⟨gb, 0, none⟩ = some (.bool true) := (World.ownsRow.cellAt HO5.out 0 (by decide)).trans (by rw [inb2_vals]; rfl)
    clear K0 K1 HF hcut hC hM hMC h1 hbl hwz
    go_upto_region 9 with fail
    clear c0
    go_loopw [8, 42] (fun ux ix wr => ∃ i : Nat, i ≤ 2 ∧ ix = .int .i64 (i : Int) ∧ ∃ uv, uv = ux ∧ Hid (wr.ownsRow wd.heap.size 3 1 uv i (List.replicate i (.int .i64 0))) ∧ Hid (Below wd.heap.size wd wr)) (fun _ ix _ => (2 - intOf ix).toNat)
    case atStart => exact ⟨0, by omega, rfl, nilV, rfl, Lib.hid (World.ownsRow_nil _ _ _ _), Lib.hid (Below.refl _ _)⟩
    case round =>
    obtain ⟨i, hi, rfl, uv, rfl, HU, HBW⟩ := hrel
    obtain ⟨wo, rfl⟩ : ∃ wo : World, wo = wr := ⟨_, rfl⟩
    obtain rfl | rfl | rfl : i = 0 ∨ i = 1 ∨ i = 2 := by omega
    · obtain ⟨ua, uc, rfl⟩ := ownsRow_slice HU.out
      have g0 : wo.cell? ⟨gb, 0, none⟩ = some (.bool true) := (World.ownsRow.cellAt (ownsRow_below HO5.out HBW.out) 0 (by decide)).trans (by rw [inb2_vals]; rfl)
      have HLo := Lib.hid (HL5.out.below HBW.out HL5.out.lt)
      have d0 : wo.cell? ⟨LB, 0, none⟩ = some (.int .i64 2) := HLo.out.cell 0
      have d1 : wo.cell? ⟨LB, 1, none⟩ = some (.int .i64 0) := HLo.out.cell 1
      have d2 : wo.cell? ⟨LB, 2, none⟩ = some (.int .i64 0) := HLo.out.cell 2
      have d3 : wo.cell? ⟨LB, 3, none⟩ = some (.int .i64 0) := HLo.out.cell 3
      have d4 : wo.cell? ⟨LB, 4, none⟩ = some (.int .u64 0) := HLo.out.cell 4
      have d5 : wo.cell? ⟨LB, 5, none⟩ = some (.string ⟨#[]⟩) := HLo.out.cell 5
      have d6 : wo.cell? ⟨LB, 6, none⟩ = some (nilV) := HLo.out.cell 6
      have d7 : wo.cell? ⟨LB, 7, none⟩ = some (nilV) := HLo.out.cell 7
      have d8 : wo.cell? ⟨LB, 8, none⟩ = some (nilV) := HLo.out.cell 8
      go_upto_region 11 with fail
      obtain ⟨Wa, hWa⟩ : ∃ Wa, wo.alloc (.cells #[.int .i64 2, .int .i64 0, .int .i64 0, .int .i64 0, .int .u64 0, .string ⟨#[]⟩, nilV, nilV, nilV] 43) = Wa := ⟨_, rfl⟩
      obtain ⟨X, hX⟩ : ∃ X, wo.heap.size = X := ⟨_, rfl⟩
      have HX := Lib.hid (show Blk Wa X 43 #[.int .i64 2, .int .i64 0, .int .i64 0, .int .i64 0, .int .u64 0, .string ⟨#[]⟩, nilV, nilV, nilV] by rw [← hWa]; exact blk_atC hX _ _)
      have HBa := Lib.hid (show Below wd.heap.size wd Wa by rw [← hWa]; exact HBW.out.alloc HBW.out.size _)
      have HUa := Lib.hid (show Wa.ownsRow wd.heap.size 3 1 (.slice ua 0 uc) 0 [] by rw [← hWa]; exact World.ownsRow.alloc HU.out _)
      rw [hWa]
      try rw [hX]
      clear d0 d1 d2 d3 d4 d5 d6 d7 d8 g0 hWa hX
      have g0 : Wa.cell? ⟨gb, 0, none⟩ = some (.bool true) := (World.ownsRow.cellAt (ownsRow_below HO5.out HBa.out) 0 (by decide)).trans (by rw [inb2_vals]; rfl)
      go_upto_region 12 with fail
      have K2 := Lib.hid (show Wa.drew.cell? ⟨X, 1, none⟩ = some (.int .i64 0) ∧ Wa.drew.cell? ⟨X, 6, none⟩ = some nilV from ⟨HX.out.drew.cell 1, HX.out.drew.cell 6⟩)
      have K3 := Lib.hid (fun o => show (Wa.drew.alloc o).cell? ⟨X, 1, none⟩ = some (.int .i64 0) ∧ (Wa.drew.alloc o).cell? ⟨X, 6, none⟩ = some nilV from ⟨(HX.out.drew.alloc o).cell 1, (HX.out.drew.alloc o).cell 6⟩)
      have K4 := Lib.hid (fun o => show (Wa.alloc o).drew.cell? ⟨X, 1, none⟩ = some (.int .i64 0) ∧ (Wa.alloc o).drew.cell? ⟨X, 6, none⟩ = some nilV from ⟨(HX.out.alloc o).drew.cell 1, (HX.out.alloc o).drew.cell 6⟩)
      go_region_held3 (fun w' => w'.cell? ⟨X, 1, none⟩ = some (.int .i64 0) ∧ w'.cell? ⟨X, 6, none⟩ = some nilV) (first | with_reducible exact K2.out | with_reducible exact K3.out _ | with_reducible exact K4.out _ | with_reducible exact K5.out | with_reducible exact K6.out)
        (first
        | (refine step_append_any _ rfl _ _ 31 rfl wd.heap.size 3 i0 _ 1 8 undI hi0 hz0 hz1 hz2 rfl (by decide) _ 0 [] rfl (World.ownsRow.alloc (World.ownsRow.drew HUa.out) _) _ _ _ _ [_] rfl (Reads.blk' (Blk.new _ _ _) rfl) (by simp [Value.oneCell']) (by unfold maxLen; omega) (by omega) (by have := HBa.out.size; simp; omega) ?_; intro v2 w5 hown5 hgrow5 _; obtain ⟨pa, pc, pe⟩ := ownsRow_slice hown5; subst pe; have HB5 := Lib.hid (((HBa.out.drew).alloc HBa.out.size (.cells #[.int .i64 0] 3)).grown hgrow5 (by have := HBa.out.size; simp; omega) (fun k hk => (World.ownsRow.lt HUa.out k hk).1)); have HR5 := Lib.hid hown5; have HX5 := Lib.hid ((HX.out.drew.alloc (.cells #[.int .i64 0] 3)).grown hgrow5 (fun h => own_blk_ne HUa.out HX.out (by decide) h.symm)); have K5 := Lib.hid (show w5.cell? ⟨X, 1, none⟩ = some (.int .i64 0) ∧ w5.cell? ⟨X, 6, none⟩ = some nilV from ⟨HX5.out.cell 1, HX5.out.cell 6⟩); clear hown5 hgrow5)
        | (refine step_append_any _ rfl _ _ 31 rfl wd.heap.size 3 i0 _ 1 8 undI hi0 hz0 hz1 hz2 rfl (by decide) _ 1 _ rfl HR5.out _ _ _ _ [] rfl (IV.reads (nil_IV _ 0)) (by simp) (by unfold maxLen; omega) (by omega) HB5.out.size ?_; intro v3 w6 hown6 hgrow6 _; obtain ⟨qa, qc, qe⟩ := ownsRow_slice hown6; subst qe; have HB6 := Lib.hid (HB5.out.grown hgrow6 HB5.out.size (fun k hk => (World.ownsRow.lt HR5.out k hk).1)); have HU6 := Lib.hid (show w6.ownsRow wd.heap.size 3 1 (.slice qa 1 qc) 1 [.int .i64 0] from hown6); have HX6 := Lib.hid (HX5.out.grown hgrow6 (fun h => own_blk_ne HR5.out HX5.out (by decide) h.symm)); have K6 := Lib.hid (show w6.cell? ⟨X, 1, none⟩ = some (.int .i64 0) ∧ w6.cell? ⟨X, 6, none⟩ = some nilV from ⟨HX6.out.cell 1, HX6.out.cell 6⟩); clear hown6 hgrow6))
      all_goals
        go_wp2_with fail
        go_roundw
      case rel => exact ⟨1, by omega, rfl, _, rfl, HU6, HB6⟩
      case measure => simp [intOf]
    · obtain ⟨ua, uc, rfl⟩ := ownsRow_slice HU.out
      have g0 : wo.cell? ⟨gb, 1, none⟩ = some (.bool true) := (World.ownsRow.cellAt (ownsRow_below HO5.out HBW.out) 1 (by decide)).trans (by rw [inb2_vals]; rfl)
      have HLo := Lib.hid (HL5.out.below HBW.out HL5.out.lt)
      have d0 : wo.cell? ⟨LB, 9, none⟩ = some (.int .i64 13) := HLo.out.cell 9
      have d1 : wo.cell? ⟨LB, 10, none⟩ = some (.int .i64 0) := HLo.out.cell 10
      have d2 : wo.cell? ⟨LB, 11, none⟩ = some (.int .i64 0) := HLo.out.cell 11
      have d3 : wo.cell? ⟨LB, 12, none⟩ = some (.int .i64 0) := HLo.out.cell 12
      have d4 : wo.cell? ⟨LB, 13, none⟩ = some (.int .u64 0) := HLo.out.cell 13
      have d5 : wo.cell? ⟨LB, 14, none⟩ = some (.string ⟨#[]⟩) := HLo.out.cell 14
      have d6 : wo.cell? ⟨LB, 15, none⟩ = some (nilV) := HLo.out.cell 15
      have d7 : wo.cell? ⟨LB, 16, none⟩ = some (nilV) := HLo.out.cell 16
      have d8 : wo.cell? ⟨LB, 17, none⟩ = some (.slice (some ⟨LA, 0, none⟩) 1 1) := HLo.out.cell 17
      go_upto_region 11 with fail
      obtain ⟨Wa, hWa⟩ : ∃ Wa, wo.alloc (.cells #[.int .i64 13, .int .i64 0, .int .i64 0, .int .i64 0, .int .u64 0, .string ⟨#[]⟩, nilV, nilV, .slice (some ⟨LA, 0, none⟩) 1 1] 43) = Wa := ⟨_, rfl⟩
      obtain ⟨X, hX⟩ : ∃ X, wo.heap.size = X := ⟨_, rfl⟩
      have HX := Lib.hid (show Blk Wa X 43 #[.int .i64 13, .int .i64 0, .int .i64 0, .int .i64 0, .int .u64 0, .string ⟨#[]⟩, nilV, nilV, .slice (some ⟨LA, 0, none⟩) 1 1] by rw [← hWa]; exact blk_atC hX _ _)
      have HBa := Lib.hid (show Below wd.heap.size wd Wa by rw [← hWa]; exact HBW.out.alloc HBW.out.size _)
      have HUa := Lib.hid (show Wa.ownsRow wd.heap.size 3 1 (.slice ua 1 uc) 1 [.int .i64 0] by rw [← hWa]; exact World.ownsRow.alloc HU.out _)
      rw [hWa]
      try rw [hX]
      clear d0 d1 d2 d3 d4 d5 d6 d7 d8 g0 hWa hX
      have g0 : Wa.cell? ⟨gb, 1, none⟩ = some (.bool true) := (World.ownsRow.cellAt (ownsRow_below HO5.out HBa.out) 1 (by decide)).trans (by rw [inb2_vals]; rfl)
      go_upto_region 12 with fail
      have K2 := Lib.hid (show Wa.drew.cell? ⟨X, 1, none⟩ = some (.int .i64 0) ∧ Wa.drew.cell? ⟨X, 6, none⟩ = some nilV from ⟨HX.out.drew.cell 1, HX.out.drew.cell 6⟩)
      have K3 := Lib.hid (fun o => show (Wa.drew.alloc o).cell? ⟨X, 1, none⟩ = some (.int .i64 0) ∧ (Wa.drew.alloc o).cell? ⟨X, 6, none⟩ = some nilV from ⟨(HX.out.drew.alloc o).cell 1, (HX.out.drew.alloc o).cell 6⟩)
      have K4 := Lib.hid (fun o => show (Wa.alloc o).drew.cell? ⟨X, 1, none⟩ = some (.int .i64 0) ∧ (Wa.alloc o).drew.cell? ⟨X, 6, none⟩ = some nilV from ⟨(HX.out.alloc o).drew.cell 1, (HX.out.alloc o).drew.cell 6⟩)
      go_region_held3 (fun w' => w'.cell? ⟨X, 1, none⟩ = some (.int .i64 0) ∧ w'.cell? ⟨X, 6, none⟩ = some nilV) (first | with_reducible exact K2.out | with_reducible exact K3.out _ | with_reducible exact K4.out _ | with_reducible exact K5.out | with_reducible exact K6.out)
        (first
        | (refine step_append_any _ rfl _ _ 31 rfl wd.heap.size 3 i0 _ 1 8 undI hi0 hz0 hz1 hz2 rfl (by decide) _ 1 [.int .i64 0] rfl (World.ownsRow.alloc (World.ownsRow.drew HUa.out) _) _ _ _ _ [_] rfl (Reads.blk' (Blk.new _ _ _) rfl) (by simp [Value.oneCell']) (by unfold maxLen; omega) (by omega) (by have := HBa.out.size; simp; omega) ?_; intro v2 w5 hown5 hgrow5 _; obtain ⟨pa, pc, pe⟩ := ownsRow_slice hown5; subst pe; have HB5 := Lib.hid (((HBa.out.drew).alloc HBa.out.size (.cells #[.int .i64 0] 3)).grown hgrow5 (by have := HBa.out.size; simp; omega) (fun k hk => (World.ownsRow.lt HUa.out k hk).1)); have HR5 := Lib.hid hown5; have HX5 := Lib.hid ((HX.out.drew.alloc (.cells #[.int .i64 0] 3)).grown hgrow5 (fun h => own_blk_ne HUa.out HX.out (by decide) h.symm)); have K5 := Lib.hid (show w5.cell? ⟨X, 1, none⟩ = some (.int .i64 0) ∧ w5.cell? ⟨X, 6, none⟩ = some nilV from ⟨HX5.out.cell 1, HX5.out.cell 6⟩); clear hown5 hgrow5)
        | (refine step_append_any _ rfl _ _ 31 rfl wd.heap.size 3 i0 _ 1 8 undI hi0 hz0 hz1 hz2 rfl (by decide) _ 2 _ rfl HR5.out _ _ _ _ [] rfl (IV.reads (nil_IV _ 0)) (by simp) (by unfold maxLen; omega) (by omega) HB5.out.size ?_; intro v3 w6 hown6 hgrow6 _; obtain ⟨qa, qc, qe⟩ := ownsRow_slice hown6; subst qe; have HB6 := Lib.hid (HB5.out.grown hgrow6 HB5.out.size (fun k hk => (World.ownsRow.lt HR5.out k hk).1)); have HU6 := Lib.hid (show w6.ownsRow wd.heap.size 3 1 (.slice qa 2 qc) 2 [.int .i64 0, .int .i64 0] from hown6); have HX6 := Lib.hid (HX5.out.grown hgrow6 (fun h => own_blk_ne HR5.out HX5.out (by decide) h.symm)); have K6 := Lib.hid (show w6.cell? ⟨X, 1, none⟩ = some (.int .i64 0) ∧ w6.cell? ⟨X, 6, none⟩ = some nilV from ⟨HX6.out.cell 1, HX6.out.cell 6⟩); clear hown6 hgrow6))
      all_goals
        go_wp2_with fail
        go_roundw
      case rel => exact ⟨2, by omega, rfl, _, rfl, HU6, HB6⟩
      case measure => simp [intOf]
    · obtain ⟨ug, uc, rfl, hug⟩ := own_rowC (n := 1) HU.out
      have u0 : wo.cell? ⟨ug, 0, none⟩ = some (.int .i64 0) := World.ownsRow.cellAt HU.out 0 (by decide)
      have u1 : wo.cell? ⟨ug, 1, none⟩ = some (.int .i64 0) := World.ownsRow.cellAt HU.out 1 (by decide)
      have HUN := Lib.hid (unused_two ug uc wo u0 u1)
      have HC6 := Lib.hid (HC.out.below HBW.out HC.out.lt)
      have HM6 := Lib.hid (HM.out.below HBW.out HM.out.lt)
      have HBL6 := Lib.hid (HBL5.out.below HBW.out HBL5.out.lt)
      have HBQ6 := Lib.hid (HBQ5.out.below HBW.out HBQ5.out.lt)
      have HBE6 := Lib.hid (HBE5.out.below HBW.out HBE5.out.lt)
      have HL6 := Lib.hid (HL5.out.below HBW.out HL5.out.lt)
      have HA6 := Lib.hid (HA5.out.below HBW.out HA5.out.lt)
      clear u0 u1 hug
      go_upto_region 14 with fail
      go_upto_region 15 with (go_at_call 50; ((with_reducible refine (HUN.out).mono ?_); rintro e w5 ⟨rfl, ho5⟩; have HOu := Lib.hid ho5; have HC7 := Lib.hid (HC6.out.only ho5 (by simp)); have m5 : w5.cell? ⟨C, 5, none⟩ = some (.int .i64 0) := HC7.out.cell 5; have n5 := HC7.out.frozen 5; clear ho5))
      obtain ⟨W6, hW6⟩ : ∃ W6, w5.setCell ⟨C, 5, none⟩ (.int .i64 1) = W6 := ⟨_, rfl⟩
      have HC8 := Lib.hid (show Blk W6 C 102 (MKC (.slice (some ⟨LB, 0, none⟩) 2 2) pv nilV nilV (.map (some M)) 1 0) by rw [← hW6]; exact HC7.out.set_ 5 (.int .i64 1))
      have HO6 := Lib.hid (show Only [C] wo W6 by rw [← hW6]; exact (HOu.out.mono (by simp)).one)
      rw [hW6]
      clear m5 n5 hW6
      have m5 : W6.cell? ⟨C, 5, none⟩ = some (.int .i64 1) := HC8.out.cell 5
      have m6 : W6.cell? ⟨C, 6, none⟩ = some (.int .i64 0) := HC8.out.cell 6
      have n6 := HC8.out.frozen 6
      go_upto_region 16 with fail
      obtain ⟨W7, hW7⟩ : ∃ W7, W6.setCell ⟨C, 6, none⟩ (.int .i64 2) = W7 := ⟨_, rfl⟩
      obtain ⟨FB, hFB⟩ : ∃ FB, W7.heap.size = FB := ⟨_, rfl⟩
      have HC9 := Lib.hid (show Blk W7 C 102 (MKC (.slice (some ⟨LB, 0, none⟩) 2 2) pv nilV nilV (.map (some M)) 1 2) by rw [← hW7]; exact HC8.out.set_ 6 (.int .i64 2))
      have HO7 := Lib.hid (show Only [C] wo W7 by rw [← hW7]; exact HO6.out.one)
      rw [hW7]
      clear m5 m6 n6 hW7
      have m3 : ∀ o, (W7.alloc o).cell? ⟨C, 3, none⟩ = some nilV := fun o => (HC9.out.alloc o).cell 3
      have n3 : ∀ o, (W7.alloc o).frozen? ⟨C, 3, none⟩ = false := fun o => (HC9.out.alloc o).frozen 3
      go_upto_region 17 with fail
      obtain ⟨W8, hW8⟩ : ∃ W8, (W7.alloc (.cells #[.slice none 0 0, .int .i64 0] 33)).setCell ⟨C, 3, none⟩ (.slice (some ⟨FB, 0, none⟩) 1 1) = W8 := ⟨_, rfl⟩
      have HC10 := Lib.hid (show Blk W8 C 102 (MKC (.slice (some ⟨LB, 0, none⟩) 2 2) pv nilV (.slice (some ⟨FB, 0, none⟩) 1 1) (.map (some M)) 1 2) by rw [← hW8]; exact (HC9.out.alloc _).set_ 3 (.slice (some ⟨FB, 0, none⟩) 1 1))
      have HO8 := Lib.hid (show Only [C] wo W8 by rw [← hW8]; exact (HO7.out.alloc _).one)
      have hFC : FB ≠ C := by have := HC9.out.lt; omega
      have HFB := Lib.hid (show Blk W8 FB 33 #[.slice none 0 0, .int .i64 0] by rw [← hW8]; exact (blk_atC hFB _ _).far (p := ⟨C, 3, none⟩) (by show FB ≠ C; exact hFC) _)
      have HFw := Lib.hid (show wo.heap.size ≤ FB by rw [← hFB]; exact HO7.out.size)
      rw [hW8]
      clear m3 n3 hW8 hFB hFC
      have HBL8 := Lib.hid (HBL6.out.only HO8.out (by simp; exact fun e => HBL6.out.ne_ HC6.out (by decide) e))
      have HBQ8 := Lib.hid (HBQ6.out.only HO8.out (by simp; exact fun e => HBQ6.out.ne_ HC6.out (by decide) e))
      have HBE8 := Lib.hid (HBE6.out.only HO8.out (by simp; exact fun e => HBE6.out.ne_ HC6.out (by decide) e))
      have HL8 := Lib.hid (HL6.out.only HO8.out (by simp; exact fun e => HL6.out.ne_ HC6.out (by decide) e))
      have HA8 := Lib.hid (HA6.out.only HO8.out (by simp; exact fun e => HA6.out.ne_ HC6.out (by decide) e))
      have HM8 := Lib.hid (HM6.out.only HO8.out (by simp; exact fun e => HM6.out.ne HC6.out e))
      have HMV := Lib.hid (mmove_st (P0 := C + 1) ⟨⟨nilV, HC10.out, World.ownsRow_nil _ _ _ _⟩, HC10.out.lt⟩ HL8.out HA8.out HM8.out HMC.out.1 (Nat.lt_succ_of_lt HMC.out.1))
      have b1 : W8.cell? ⟨w.heap.size, 1, none⟩ = some (.int .i64 1) := HBL8.out.cell 1
      go_upto_region 18 with (go_at_call 51; ((with_reducible refine (HMV.out).mono ?_); rintro e w9 hq; have HQ := Lib.hid hq; obtain rfl := hq.1; clear hq))
      obtain ⟨-, ⟨ga, ca, hs9, hg9, hgw, hc1, hc2⟩, hbel9, hblk9⟩ := HQ.out
      have HBQ9 := Lib.hid (hblk9 _ _ _ HBQ8.out (by decide) (by decide))
      have HBE9 := Lib.hid (hblk9 _ _ _ HBE8.out (by decide) (by decide))
      have HFB9 := Lib.hid (hblk9 _ _ _ HFB.out (by decide) (by decide))
      have HS9 := Lib.hid hs9
      have HG9 := Lib.hid (show w9.cell? ⟨ga, 0, none⟩ = some (.int .i64 0) ∧ W8.heap.size ≤ ga ∧ 1 ≤ ca ∧ ca ≤ maxLen from ⟨hg9, hgw, hc1, hc2⟩)
      have HBEL := Lib.hid hbel9
      obtain ⟨⟨ov9, hC9, -⟩, -⟩ := hs9
      have HC9b := Lib.hid hC9
      have m3 : w9.cell? ⟨C, 3, none⟩ = some (.slice (some ⟨FB, 0, none⟩) 1 1) := hC9.cell 3
      have k1 : w9.cell? ⟨FB, 1, none⟩ = some (.int .i64 0) := HFB9.out.cell 1
      have l1 := HFB9.out.frozen 1
      clear b1 hg9 hgw hc1 hc2 hbel9 hblk9 hC9
      go_upto_region 19 with fail
      obtain ⟨W10, hW10⟩ : ∃ W10, w9.setCell ⟨FB, 1, none⟩ (.int .i64 1) = W10 := ⟨_, rfl⟩
      have HO10 := Lib.hid (show Only [FB] w9 W10 by rw [← hW10]; exact (Only.refl [FB] w9).one)
      have HFB10 := Lib.hid (show Blk W10 FB 33 #[.slice none 0 0, .int .i64 1] by rw [← hW10]; exact HFB9.out.set_ 1 (.int .i64 1))
      have HS10 := Lib.hid (HS9.out.one HO10.out (fun e => HFB9.out.ne_ HC9b.out (by decide) e) (fun ov2 h2 => own_blk_ne h2 HFB9.out (by decide)))
      have HBQ10 := Lib.hid (HBQ9.out.only HO10.out (by simp; exact fun e => HBQ9.out.ne_ HFB9.out (by decide) e))
      have HBE10 := Lib.hid (HBE9.out.only HO10.out (by simp; exact fun e => HBE9.out.ne_ HFB9.out (by decide) e))
      have hex : ∃ ov, Blk W10 C 102 (MKC (.slice (some ⟨LB, 0, none⟩) 2 2) pv ov (.slice (some ⟨FB, 0, none⟩) 1 1) (.map (some M)) 1 2) ∧ W10.ownsRow (C + 1) 43 9 ov 2 (progC [(numFl, nilV, nilV, nilV), (endFl, nilV, nilV, .slice (some ⟨ga, 0, none⟩) 1 ca)]) := HS10.out.ex
      obtain ⟨ovx, hCx, hRx⟩ := hex
      obtain ⟨go, co, rfl, hgo⟩ := own_rowC (n := 1) hRx
      have HCx := Lib.hid hCx
      have HRx := Lib.hid hRx
      have HGo := Lib.hid hgo
      have HNN := Lib.hid (next_none C W10 (hCx.cell 7))
      rw [hW10]
      clear m3 k1 l1 hW10 hCx hRx hgo
      refine wp_loop_rounds 1 ?_
      rw [rounds_succ]
      go_upto_region 22 with (go_at_call 52; ((with_reducible refine (HNN.out).mono ?_); rintro e w11 ⟨rfl, ho11⟩; have HO11 := Lib.hid ho11; clear ho11))
      obtain ⟨W12, hW12⟩ : ∃ W12, w11.alloc (.cells #[.pointer none, .int .i64 0] 107) = W12 := ⟨_, rfl⟩
      have HO12n := Lib.hid (show Only [] W10 W12 by rw [← hW12]; exact HO11.out.alloc _)
      have HO12 := Lib.hid (show Only [] W10 W12.drew from HO12n.out.drew)
      rw [hW12]
      clear hW12
      have HC12 := Lib.hid (HCx.out.only HO12.out (by simp))
      have HBQ12 := Lib.hid (HBQ10.out.only HO12.out (by simp))
      have HBE12 := Lib.hid (HBE10.out.only HO12.out (by simp))
      have m2 : W12.drew.cell? ⟨C, 2, none⟩ = some (.slice (some ⟨go, 0, none⟩) 2 co) := HC12.out.cell 2
      have m3 : W12.drew.cell? ⟨C, 3, none⟩ = some (.slice (some ⟨FB, 0, none⟩) 1 1) := HC12.out.cell 3
      have q0 : W12.drew.cell? ⟨w.heap.size + 1, 0, none⟩ = some (.slice none 0 0) := HBQ12.out.cell 0
      have q0n : W12.cell? ⟨w.heap.size + 1, 0, none⟩ = some (.slice none 0 0) := HBQ12.out.cell 0
      have q1n : W12.cell? ⟨w.heap.size + 1, 1, none⟩ = some (.slice none 0 0) := HBQ12.out.cell 1
      have q2n : W12.cell? ⟨w.heap.size + 1, 2, none⟩ = some (.int .i64 0) := HBQ12.out.cell 2
      have e0n : W12.cell? ⟨w.heap.size + 1 + 1, 0, none⟩ = some (.int .i64 0) := HBE12.out.cell 0
      have y0 : W12.frozen? ⟨w.heap.size + 1, 0, none⟩ = false := HBQ12.out.frozen 0
      have y1 : W12.frozen? ⟨w.heap.size + 1, 1, none⟩ = false := HBQ12.out.frozen 1
      have y2 : W12.frozen? ⟨w.heap.size + 1, 2, none⟩ = false := HBQ12.out.frozen 2
      have y3 : W12.frozen? ⟨w.heap.size + 1 + 1, 0, none⟩ = false := HBE12.out.frozen 0
      go_region
      go_wp2_with fail
      obtain ⟨W13, hW13⟩ : ∃ W13, ((((W12.setCell ⟨w.heap.size + 1, 0, none⟩ (.slice (some ⟨go, 0, none⟩) 2 co)).setCell ⟨w.heap.size + 1, 1, none⟩ (.slice (some ⟨FB, 0, none⟩) 1 1)).setCell ⟨w.heap.size + 1, 2, none⟩ (.int .i64 0)).setCell ⟨w.heap.size + 1 + 1, 0, none⟩ (.int .i64 0)).drew = W13 := ⟨_, rfl⟩
      have ho13 : Only [w.heap.size + 1, w.heap.size + 1 + 1] W12 W13 := by rw [← hW13]; exact Only.drew (((((Only.refl _ _).setCell (.inl (by simp)) _).setCell (.inl (by simp)) _).setCell (.inl (by simp)) _).setCell (.inl (by simp)) _)
      have hq12 : Blk W12 (w.heap.size + 1) 25 #[.slice none 0 0, .slice none 0 0, .int .i64 0] := HBQ12.out
      have he12 : Blk W12 (w.heap.size + 1 + 1) 26 #[.int .i64 0] := HBE12.out
      have hQ13 : Blk W13 (w.heap.size + 1) 25 #[.slice (some ⟨go, 0, none⟩) 2 co, .slice (some ⟨FB, 0, none⟩) 1 1, .int .i64 0] := by rw [← hW13]; exact ((((hq12.set_ 0 (.slice (some ⟨go, 0, none⟩) 2 co)).set_ 1 (.slice (some ⟨FB, 0, none⟩) 1 1)).set_ 2 (.int .i64 0)).far (p := ⟨w.heap.size + 1 + 1, 0, none⟩) (by show w.heap.size + 1 ≠ w.heap.size + 1 + 1; omega) _).drew
      have hE13 : Blk W13 (w.heap.size + 1 + 1) 26 #[.int .i64 0] := by rw [← hW13]; exact ((((he12.far (p := ⟨w.heap.size + 1, 0, none⟩) (by show w.heap.size + 1 + 1 ≠ w.heap.size + 1; omega) _).far (p := ⟨w.heap.size + 1, 1, none⟩) (by show w.heap.size + 1 + 1 ≠ w.heap.size + 1; omega) _).far (p := ⟨w.heap.size + 1, 2, none⟩) (by show w.heap.size + 1 + 1 ≠ w.heap.size + 1; omega) _).set_ 0 (.int .i64 0)).drew
      rw [hW13]
      refine leaves_cons (f := 49) (args := #[.pointer (some ⟨w.heap.size + 1, 0, none⟩), .pointer (some ⟨w.heap.size + 1 + 1, 0, none⟩)]) (by simp) (by simp [go_sem]) ?_
      refine (fconv1_idle _ _ _).mono ?_
      rintro e u' w'' ⟨rfl, rfl, rfl⟩
      have z0 : w''.cell? ⟨w.heap.size + 1, 0, none⟩ = some (.slice (some ⟨go, 0, none⟩) 2 co) := hQ13.cell 0
      have z1 : w''.cell? ⟨w.heap.size + 1, 1, none⟩ = some (.slice (some ⟨FB, 0, none⟩) 1 1) := hQ13.cell 1
      have z2 : w''.cell? ⟨w.heap.size + 1, 2, none⟩ = some (.int .i64 0) := hQ13.cell 2
      have z3 : w''.cell? ⟨w.heap.size + 1 + 1, 0, none⟩ = some (.int .i64 0) := hE13.cell 0
      simp [Leaves, settle, results, Tryz.results23, go_sem, z0, z1, z2, z3]
      have hw8 : wo.heap.size ≤ W8.heap.size := HO8.out.size
      have hwE : w.heap.size + 1 + 1 < wo.heap.size := HBE6.out.lt
      have hFB8 := HFB.out.lt
      have hOW : Only [w.heap.size + 1, w.heap.size + 1 + 1] W10 w'' := (HO12n.out.mono (by simp)).trans ho13
      have hgc : w''.cell? ⟨ga, 0, none⟩ = some (.int .i64 0) := only_cell hOW (by have := HG9.out.2.1; simp; omega) (only_cell HO10.out (by have := HG9.out.2.1; simp; omega) HG9.out.1)
      have hgl : ga < w''.heap.size := cell_lt hgc
      have hO13 := ownsRow_only HRx.out hOW (fun k hk hm => by
        simp only [List.mem_cons, List.not_mem_nil, or_false] at hm
        rcases hm with rfl | rfl
        · exact own_blk_ne HRx.out HBQ10.out (by decide) hk
        · exact own_blk_ne HRx.out HBE10.out (by decide) hk)
      have hN := own_NF (nds := [(numFl, nilV, nilV, nilV), (endFl, nilV, nilV, .slice (some ⟨ga, 0, none⟩) 1 ca)]) hO13 (fun x hx => by
        simp only [List.mem_cons, List.mem_nil_iff, or_false] at hx
        rcases hx with rfl | rfl
        · exact small_FV rfl (nil_IV _ _) (nil_IV _ _)
        · exact small_FV rfl (nil_IV _ _) ⟨_, _, rfl, HG9.out.2.2.1, HG9.out.2.2.2, rfl, fun _ => ⟨_, rfl, hgl, fun j u hj => by
            match j, hj with
            | 0, hj =>
              have e : u = .int .i64 0 := by simpa [intVals, endFl] using hj.symm
              subst e
              exact hgc
            | j + 1, hj => exact absurd hj (by simp [intVals, endFl])⟩⟩) (show 2 ≤ 1300000000000 by decide)
      have hF13 : Blk w'' FB 33 #[.slice none 0 0, .int .i64 1] := HFB10.out.only hOW (by have := HFw.out; simp only [List.mem_cons, List.not_mem_nil, or_false]; omega)
      refine ⟨go, co, FB, rfl, hN, ?_, ?_⟩
      · refine ⟨some ⟨FB, 0, none⟩, 1, rfl, Nat.le_refl _, by decide, fun i f hf => ?_⟩
        match i, hf with
        | 0, hf =>
          obtain rfl := Option.some.inj hf
          exact ⟨_, none, 0, rfl, hF13.lt, nil_IV _ _, by decide, by decide, hF13.cell 0, hF13.cell 1⟩
        | i + 1, hf => exact absurd hf (by simp [convFs])
      · have hw3 : w.heap.size ≤ w3.heap.size := HB03.out.size
        have hM1 := HMC.out
        have t0 := HB05.out.trans (HBW.out.mono HB05.out.size)
        have t1 : Below w.heap.size w W8 := below_only t0 HO8.out (fun k hk => by simp only [List.mem_cons, List.not_mem_nil, or_false] at hk; omega) t0.size
        have t1z := t1.size
        have t2 := t1.trans (HBEL.out w.heap.size (by omega) (by omega) (by omega) (by omega))
        have t3 := below_only t2 HO10.out (fun k hk => by have := HFw.out; simp only [List.mem_cons, List.not_mem_nil, or_false] at hk; have := t0.size; omega) t2.size
        exact below_only t3 hOW (fun k hk => by simp only [List.mem_cons, List.not_mem_nil, or_false] at hk; omega) t3.size
end Go.Proofs.YtjhdlnllhjffkaaGreatDoor
