/- Cps: Convert of a number. -/
import Derived.Test.YtikkmalhdidhaaaGreatDoorCpsMf
import Derived.Test.YtikkmalhdidhaaaGreatDoorLamW
import Derived.Test.YtikkmalhdidhaaaGreatDoorCpsAt
import Derived.StillTailTactics
namespace Go.Proofs.YtikkmalhdidhaaaGreatDoor
open Go.RowKit LamM CpsM Go.Maps

def numT : Tm := ⟨2, 0, 5, 0, [], [], [], []⟩
theorem check_num : checkOf prims [numT] 0 = 0 := by decide
theorem num_NV {w : World} {tb : Nat} (hT : Blk w tb 69 #[.int .i64 2, .int .i64 0, .int .i64 5, .int .u64 0, .string ⟨#[]⟩, .slice none 0 0, .slice none 0 0, .slice none 0 0]) : NV w w.heap.size (.slice (some ⟨tb, 0, none⟩) 1 1) [numT] := by
  refine ⟨_, 1, rfl, by decide, by decide, fun i t ht => ?_⟩
  match i, ht with
  | 0, ht =>
    obtain rfl := Option.some.inj ht
    refine ⟨_, nilV, nilV, nilV, rfl, hT.lt, ⟨nil_IV _ _, nil_kv _ _, nil_IV _ _, by decide, by decide, by decide, by decide, by decide, by decide, by decide, by decide⟩, fun j u hu => ?_⟩
    rw [show (⟨tb, 0, none⟩ : Addr).add (0 * 8 + j) = ⟨tb, j, none⟩ by unfold Addr.add; split <;> simp_all, hT.cell j]
    rw [List.getElem?_toArray]
    exact hu
  | i + 1, ht => exact absurd ht (by simp)
/-- The converter is made. -/
def MadeV (lv : Value) (w2 : World) (p5 : Value) (wx : World) : Prop :=
  ∃ bx C pv, p5 = .pointer (some ⟨bx, 0, none⟩) ∧ Blk wx bx 96 #[.pointer (some ⟨C, 0, none⟩)] ∧ Blk wx C 98 (CC lv pv nilV 0 0) ∧ w2.heap.size ≤ bx ∧ w2.heap.size ≤ C ∧ Below w2.heap.size w2 wx
def failF : Fl := ⟨14, 0, 0, 0, 0, [], [], [], [0]⟩
def fixF : Fl := ⟨9, 0, 0, 0, 0, [], [1], [], [2, 4]⟩
def failN (b2 a1 a2 : Nat) : List Nd9 := [(varF 2, nilV, nilV, nilV)] ++ [(failF, nilV, nilV, sl1 a1 1)] ++ [(fnF [2] 1, sl1 b2 1, nilV, sl1 a2 1)]
/-- What fails is put. -/
def FailP (C P0 : Nat) (lv pv : Value) (w4 : World) (p8 : Value) (wx : World) : Prop :=
  ∃ b2 a1 a2, p8 = .int .i64 2 ∧ CvS C P0 lv pv 2 0 (failN b2 a1 a2) wx ∧ Blk wx b2 3 #[.int .i64 2] ∧ Blk wx a1 3 #[.int .i64 0] ∧ Blk wx a2 3 #[.int .i64 1] ∧ Kp C P0 w4 wx
def convN (b2 a1 a2 a4 b5 a5 : Nat) : List Nd9 := failN b2 a1 a2 ++ [(numF 5, nilV, nilV, nilV)] ++ [(haltF 3, nilV, nilV, sl1 a4 1)] ++ [(fixF, sl1 b5 1, nilV, sl1 a5 2)]
set_option maxRecDepth 100000 in
theorem conv_NF {W : World} {P0 g c b2 a1 a2 a4 b5 a5 : Nat} (hO : W.ownsRow P0 40 9 (.slice (some ⟨g, 0, none⟩) 6 c) 6 (progC (convN b2 a1 a2 a4 b5 a5))) (h1 : Blk W a1 3 #[.int .i64 0]) (h2 : Blk W b2 3 #[.int .i64 2]) (h3 : Blk W a2 3 #[.int .i64 1])
    (h4 : Blk W a4 3 #[.int .i64 3]) (h5 : Blk W b5 3 #[.int .i64 1]) (h6 : Blk W a5 3 #[.int .i64 2, .int .i64 4]) : NF W W.heap.size (.slice (some ⟨g, 0, none⟩) 6 c) convL := by
  have hc : 6 ≤ c := by
    rcases hO.2 with ⟨h, _⟩ | ⟨g', cap, cur, h, _, _, hcap, _⟩
    · cases h
    · injection h with _ _ h
      omega
  have hn := NF_of (w := W) (g := g) (c := c) (l := convN b2 a1 a2 a4 b5 a5) (fun k u hk => by
      have hk2 : k < 6 * 9 := by have := (List.getElem?_eq_some_iff.1 hk).1; rw [progC_len] at this; exact this
      rw [World.ownsRow.cellAt hO k hk2]; exact hk) (World.ownsRow.lt hO g rfl).2 hc (show 6 ≤ 1300000000000 by decide) (fun x hx => by
      simp only [convN, failN, List.mem_append, List.mem_cons, List.mem_nil_iff, or_false] at hx
      rcases hx with ((((rfl | rfl) | rfl) | rfl) | rfl) | rfl
      · exact small_FV rfl (nil_IV _ _) (nil_IV _ _)
      · exact small_FV rfl (nil_IV _ _) (blk_iv (l := [0]) h1 (by decide))
      · exact small_FV rfl (blk_iv (l := [2]) h2 (by decide)) (blk_iv (l := [1]) h3 (by decide))
      · exact small_FV rfl (nil_IV _ _) (nil_IV _ _)
      · exact small_FV rfl (nil_IV _ _) (blk_iv (l := [3]) h4 (by decide))
      · exact small_FV rfl (blk_iv (l := [1]) h5 (by decide)) (blk_iv (l := [2, 4]) h6 (by decide)))
  exact hn
/-- What Convert hands back. -/
def ConvP (w : World) (e : Ending) (w' : World) : Prop :=
  ∃ g c, e = .returned (.tuple #[.agg #[.slice (some ⟨g, 0, none⟩) 6 c, .int .i64 5], .int .i64 0]) ∧ NF w' w'.heap.size (.slice (some ⟨g, 0, none⟩) 6 c) convL ∧ Below w.heap.size w w'
set_option maxRecDepth 100000 in
set_option maxHeartbeats 8000000 in
theorem convert_any (tb : Nat) (w : World) (hT : Blk w tb 69 #[.int .i64 2, .int .i64 0, .int .i64 5, .int .u64 0, .string ⟨#[]⟩, .slice none 0 0, .slice none 0 0, .slice none 0 0]) :
    Calls Tryz.prog 30 #[.agg #[.slice (some ⟨tb, 0, none⟩) 1 1, .int .i64 0]] w (ConvP w) := by
  have hmf := mk_func
  obtain ⟨W, hW⟩ : ∃ W, ((w.alloc (.cells #[.slice (some ⟨tb, 0, none⟩) 1 1, .int .i64 0] 72)).alloc (.cells #[.slice none 0 0, .int .i64 0] 24)).alloc (.cells #[.int .i64 0] 27) = W := ⟨_, rfl⟩
  have hb1 : Below w.heap.size w W := by rw [← hW]; exact (((Below.refl _ _).alloc (Nat.le_refl _) _).alloc (by simp) _).alloc (by simp; omega) _
  have HBL := Lib.hid (show Blk W w.heap.size 72 #[.slice (some ⟨tb, 0, none⟩) 1 1, .int .i64 0] by rw [← hW]; exact ((Blk.new _ _ _).alloc _).alloc _)
  have HBQ := Lib.hid (show Blk W (w.heap.size + 1) 24 #[.slice none 0 0, .int .i64 0] by rw [← hW]; exact (blk_atC (by simp) _ _).alloc _)
  have HBE := Lib.hid (show Blk W (w.heap.size + 1 + 1) 27 #[.int .i64 0] by rw [← hW]; exact blk_atC (by simp) _ _)
  have HT1 := Lib.hid (hT.below hb1 hT.lt)
  have HB1 := Lib.hid hb1
  have HCK := Lib.hid (lcheck_any [numT] (.slice (some ⟨tb, 0, none⟩) 1 1) 0 W (num_NV HT1.out))
  unfold CkPost at HCK
  rw [check_num] at HCK
  have b0 : W.cell? ⟨w.heap.size, 0, none⟩ = some (.slice (some ⟨tb, 0, none⟩) 1 1) := HBL.out.cell 0
  have b1 : W.cell? ⟨w.heap.size, 1, none⟩ = some (.int .i64 0) := HBL.out.cell 1
  clear hb1 hT
  go_enter_defers Tryz.func30, Tryz.ntmps30
  go_upto_region 5 with (go_at_call 49; ((with_reducible refine (HCK.out).mono ?_); rintro e w2 ⟨rfl, hb2⟩))
  have HBL2 := Lib.hid (HBL.out.below hb2 HBL.out.lt)
  have HBQ2 := Lib.hid (HBQ.out.below hb2 HBQ.out.lt)
  have HBE2 := Lib.hid (HBE.out.below hb2 HBE.out.lt)
  have HT2 := Lib.hid (HT1.out.below hb2 HT1.out.lt)
  have HB2 := Lib.hid (HB1.out.trans (hb2.mono HB1.out.size))
  have HPW := Lib.hid (prims_any w2.drew)
  have HPA := Lib.hid (prims_any (w2.alloc (.cells #[.pointer none] 96)).drew)
  have d0 : w2.drew.cell? ⟨w.heap.size, 0, none⟩ = some (.slice (some ⟨tb, 0, none⟩) 1 1) := HBL2.out.cell 0
  have K0 := Lib.hid d0
  have K1 := Lib.hid (fun o => show (w2.alloc o).drew.cell? ⟨w.heap.size, 0, none⟩ = some (.slice (some ⟨tb, 0, none⟩) 1 1) from (HBL2.out.alloc o).drew.cell 0)
  have hbl := HBL2.out.lt
  clear b0 b1 hb2 hW
  go_cut [5] from 18 to 22 (fun p5 wx => Hid (MadeV (.slice (some ⟨tb, 0, none⟩) 1 1) w2 p5 wx))
  case first =>
    go_region_held3 (fun w' => w'.cell? ⟨w.heap.size, 0, none⟩ = some (.slice (some ⟨tb, 0, none⟩) 1 1)) (first | with_reducible exact K0.out | with_reducible exact K1.out _ | with_reducible exact K3.out | with_reducible exact K5.out _ _ | go_keep)
      (first
        | (go_at_call 21; ((with_reducible refine (HPW.out).mono ?_); rintro e w3 ⟨pv, rfl, hpv, hb3⟩; obtain ⟨PA, pc, hpe, hpc1, hpc2⟩ := hpv.len; rw [primTab_len] at hpe; subst hpe; have HB3 := Lib.hid hb3; have d3 : w3.cell? ⟨w.heap.size, 0, none⟩ = some (.slice (some ⟨tb, 0, none⟩) 1 1) := (hb3.cell hbl).trans d0; have K3 := Lib.hid d3; clear hpv hb3 hpc1 hpc2))
        | (go_at_call 21; ((with_reducible refine (HPA.out).mono ?_); rintro e w3 ⟨pv, rfl, hpv, hb3⟩; obtain ⟨PA, pc, hpe, hpc1, hpc2⟩ := hpv.len; rw [primTab_len] at hpe; subst hpe; have HB3 := Lib.hid hb3; have hb3s : w.heap.size < (w2.alloc (.cells #[.pointer none] 96)).drew.heap.size := Nat.lt_of_lt_of_le hbl (by show _ ≤ (w2.alloc _).heap.size; simp); have d3 : w3.cell? ⟨w.heap.size, 0, none⟩ = some (.slice (some ⟨tb, 0, none⟩) 1 1) := (hb3.cell hb3s).trans ((HBL2.out.alloc _).drew.cell 0); have K3 := Lib.hid d3; have HRB := Lib.hid (((Blk.new w2 96 #[.pointer none]).drew).below hb3 (by show w2.heap.size < (w2.alloc _).heap.size; simp)); have rc3 : w3.cell? ⟨w2.heap.size, 0, none⟩ = some (.pointer none) := HRB.out.cell 0; have rf3 : w3.frozen? ⟨w2.heap.size, 0, none⟩ = false := HRB.out.frozen 0; have rc4 : ∀ o, (w3.alloc o).cell? ⟨w2.heap.size, 0, none⟩ = some (.pointer none) := fun o => (HRB.out.alloc o).cell 0; have rf4 : ∀ o, (w3.alloc o).frozen? ⟨w2.heap.size, 0, none⟩ = false := fun o => (HRB.out.alloc o).frozen 0; have K5 := Lib.hid (fun o u => show ((w3.alloc o).setCell ⟨w2.heap.size, 0, none⟩ u).cell? ⟨w.heap.size, 0, none⟩ = some (.slice (some ⟨tb, 0, none⟩) 1 1) from only_cellC (((Only.refl [w2.heap.size] w3).alloc o).one) (fun h => by have e : w.heap.size = w2.heap.size := List.mem_singleton.1 h; omega) d3); clear hpv hb3 hpc1 hpc2)))
    all_goals
      go_wp2_with fail
      go_meet
    case rel =>
      have hz2 : w2.heap.size ≤ w3.heap.size := HB3.out.size
      refine Lib.hid ⟨w3.heap.size + 1, w3.heap.size, _, rfl, blk_atC (by simp) _ _, (Blk.new w3 _ _).alloc _, by omega, hz2, ((((Below.refl _ w2).drew).trans HB3.out).alloc hz2 _).alloc (by simp; omega) _⟩
    case rel =>
      have hz2 : w2.heap.size ≤ w3.heap.size := HB3.out.size
      refine Lib.hid ⟨w3.heap.size, w3.heap.size + 1, _, rfl, (Blk.new w3 _ _).alloc _, blk_atC (by simp) _ _, hz2, by omega, ((((Below.refl _ w2).drew).trans HB3.out).alloc hz2 _).alloc (by simp; omega) _⟩
    case rel =>
      have hz2 : w2.heap.size < w3.heap.size := HRB.out.lt
      have hbb : Below w2.heap.size w2 w3 := (((Below.refl w2.heap.size w2).alloc (Nat.le_refl _) _).drew).trans (HB3.out.mono (by show _ ≤ (w2.alloc _).heap.size; simp))
      refine Lib.hid ⟨w2.heap.size, w3.heap.size, _, rfl, (HRB.out.alloc _).set_ 0 _, (Blk.new w3 _ _).far (by show w3.heap.size ≠ w2.heap.size; omega) _, Nat.le_refl _, by omega, (hbb.alloc (by omega) _).setCell (p := ⟨w2.heap.size, 0, none⟩) (Nat.le_refl _) _⟩
  case rest =>
    obtain ⟨wd, rfl⟩ : ∃ wd, wd = wc := ⟨_, rfl⟩
    obtain ⟨bx, C, pv, rfl, hbx, hC, h1, h2, hbl3⟩ := hcut.out
    have hwz := HB2.out.size
    have HS := Lib.hid (show CvS C w.heap.size (.slice (some ⟨tb, 0, none⟩) 1 1) pv 0 0 [] wd from ⟨⟨nilV, hC, World.ownsRow_nil _ _ _ _⟩, by have := hbl3.size; omega⟩)
    have HX := Lib.hid hbx
    have HT3 := Lib.hid (HT2.out.below hbl3 HT2.out.lt)
    have HBL3 := Lib.hid (HBL2.out.below hbl3 HBL2.out.lt)
    have HBQ3 := Lib.hid (HBQ2.out.below hbl3 HBQ2.out.lt)
    have HBE3 := Lib.hid (HBE2.out.below hbl3 HBE2.out.lt)
    have HB3 := Lib.hid (HB2.out.trans (hbl3.mono hwz))
    have HCC := Lib.hid (show w.heap.size ≤ C by omega)
    have HF1 := Lib.hid (show Calls Tryz.prog 51 #[runV C] wd.drew fun e w' => e = .returned (.int .i64 1) ∧ CvS C w.heap.size (.slice (some ⟨tb, 0, none⟩) 1 1) pv 1 0 [] w' ∧ Kp C w.heap.size wd.drew w' from fresh_st HS.out.drew (by decide))
    clear d0 K0 K1 hbl HPW HPA hcut hbx hC h1 h2 hbl3 hwz
    have K0 := Lib.hid (show wd.drew.cell? ⟨bx, 0, none⟩ = some (.pointer (some ⟨C, 0, none⟩)) from HX.out.drew.cell 0)
    go_upto_region 6 with fail
    go_region_held3 (fun w' => w'.cell? ⟨bx, 0, none⟩ = some (.pointer (some ⟨C, 0, none⟩))) (first | with_reducible exact K0.out | with_reducible exact K3.out | with_reducible exact K4.out)
      (first
        | (go_at_call 51; ((with_reducible refine (HF1.out).mono ?_); rintro e w3 ⟨rfl, hs3, hk3⟩; have HS3 := Lib.hid hs3; have HK3 := Lib.hid hk3; have HX3 := Lib.hid (hk3.blk _ _ _ HX.out.drew (by decide) (by decide)); have K3 := Lib.hid (show w3.cell? ⟨bx, 0, none⟩ = some (.pointer (some ⟨C, 0, none⟩)) from HX3.out.cell 0); have HF2 := Lib.hid (show Calls Tryz.prog 51 #[runV C] w3 fun e w' => e = .returned (.int .i64 2) ∧ CvS C w.heap.size (.slice (some ⟨tb, 0, none⟩) 1 1) pv 2 0 [] w' ∧ Kp C w.heap.size w3 w' from fresh_st HS3.out (by decide)); clear hs3 hk3))
        | (go_at_call 51; ((with_reducible refine (HF2.out).mono ?_); rintro e w4 ⟨rfl, hs4, hk4⟩; have HS4 := Lib.hid hs4; have HK4 := Lib.hid ((Kp.refl C w.heap.size wd).drew.trans (HK3.out.trans hk4)); have HX4 := Lib.hid (hk4.blk _ _ _ HX3.out (by decide) (by decide)); have K4 := Lib.hid (show w4.cell? ⟨bx, 0, none⟩ = some (.pointer (some ⟨C, 0, none⟩)) from HX4.out.cell 0); clear hs4 hk4)))
    go_upto_region 7 with fail
    have HT4 := Lib.hid (HK4.out.blk _ _ _ HT3.out (by decide) (by decide))
    have HBL4 := Lib.hid (HK4.out.blk _ _ _ HBL3.out (by decide) (by decide))
    have HBQ4 := Lib.hid (HK4.out.blk _ _ _ HBQ3.out (by decide) (by decide))
    have HBE4 := Lib.hid (HK4.out.blk _ _ _ HBE3.out (by decide) (by decide))
    have HNM := Lib.hid (fun W (ho : Only [] w4 W) => show Calls Tryz.prog 54 #[runV C, .int .i64 2] W fun e w' => e = .returned (.int .i64 0) ∧ CvS C w.heap.size (.slice (some ⟨tb, 0, none⟩) 1 1) pv 2 0 [(varF 2, nilV, nilV, nilV)] w' ∧ Kp C w.heap.size w4 w' ∧ Kp C w.heap.size W w' from (name_st (HS4.out.only ho) (by decide) 2).mono (fun e w' h => ⟨h.1, h.2.1, (Kp.none ho).trans h.2.2, h.2.2⟩))
    clear K0 K3 K4 HF1 HF2 HS3 HX3
    have K0 := Lib.hid (show w4.drew.cell? ⟨bx, 0, none⟩ = some (.pointer (some ⟨C, 0, none⟩)) from HX4.out.drew.cell 0)
    have K1 := Lib.hid (fun o => show (w4.alloc o).drew.cell? ⟨bx, 0, none⟩ = some (.pointer (some ⟨C, 0, none⟩)) from (HX4.out.alloc o).drew.cell 0)
    go_cut [8] from 27 to 37 (fun p8 wx => Hid (FailP C w.heap.size (.slice (some ⟨tb, 0, none⟩) 1 1) pv w4 p8 wx))
    case first =>
      go_region_held3 (fun w' => w'.cell? ⟨bx, 0, none⟩ = some (.pointer (some ⟨C, 0, none⟩))) (first | with_reducible exact K0.out | with_reducible exact K1.out _ | with_reducible exact K5.out | with_reducible exact K5a.out _ | with_reducible exact K5b.out _ _ | with_reducible exact K6.out | with_reducible exact K6a.out _ | with_reducible exact K7.out)
        (first
          | (go_at_call 54; ((with_reducible refine (HNM.out _ ?ho).mono ?_); (case ho => (first | exact (Only.refl [] w4).drew | exact ((Only.refl [] w4).alloc _).drew)); rintro e w5 ⟨rfl, hs5, hk5, hk5b⟩; have HK5 := Lib.hid hk5; have HK5B := Lib.hid hk5b; have HX5 := Lib.hid (hk5.blk _ _ _ HX4.out (by decide) (by decide)); have K5 := Lib.hid (show w5.cell? ⟨bx, 0, none⟩ = some (.pointer (some ⟨C, 0, none⟩)) from HX5.out.cell 0); have K5a := Lib.hid (fun o => show (w5.alloc o).cell? ⟨bx, 0, none⟩ = some (.pointer (some ⟨C, 0, none⟩)) from (HX5.out.alloc o).cell 0); have K5b := Lib.hid (fun o o' => show ((w5.alloc o).alloc o').cell? ⟨bx, 0, none⟩ = some (.pointer (some ⟨C, 0, none⟩)) from ((HX5.out.alloc o).alloc o').cell 0); have HPT := Lib.hid (fun W a (ho : Only [] w5 W) (hz : w5.heap.size ≤ a) (hb : Blk W a 3 #[.int .i64 0]) => show Calls Tryz.prog 53 #[runV C, .agg #[.int .i64 14, .int .i64 0, .int .i64 0, .int .i64 0, .int .u64 0, .string ⟨#[]⟩, .slice none 0 0, .slice none 0 0, .slice (some ⟨a, 0, none⟩) 1 1]] W fun e w' => e = .returned (.int .i64 1) ∧ ∃ a1, CvS C w.heap.size (.slice (some ⟨tb, 0, none⟩) 1 1) pv 2 0 ([(varF 2, nilV, nilV, nilV)] ++ [(failF, nilV, nilV, sl1 a1 1)]) w' ∧ Blk w' a1 3 #[.int .i64 0] ∧ Kp C w.heap.size w5 w' ∧ Kp C w.heap.size W w' from (put_st hs5 ho (by decide) failF nilV nilV (sl1 a 1) (one_av _ _)).mono (fun e w' h => ⟨h.1, a, h.2.1, h.2.2.2 a _ _ hz hb, (Kp.none ho).trans h.2.2.1, h.2.2.1⟩)); clear hs5 hk5 hk5b))
          | (go_at_call 53; ((with_reducible refine (HPT.out _ _ ?ho ?hz ?hb).mono ?_); (case ho => (first | exact (Only.refl [] w5).alloc _ | exact ((Only.refl [] w5).alloc _).alloc _)); (case hz => (first | exact Nat.le_refl _ | (simp; done) | (simp; omega))); (case hb => (first | exact blk_atC (by simp) _ _ | exact Blk.alloc (blk_atC (by simp) _ _) _)); rintro e w6 ⟨rfl, a1, hs6, hb6, hk6, hk6b⟩; have HA6 := Lib.hid hb6; have HK6 := Lib.hid (HK5.out.trans hk6); have HK6B := Lib.hid hk6b; have HX6 := Lib.hid (hk6.blk _ _ _ HX5.out (by decide) (by decide)); have K6 := Lib.hid (show w6.cell? ⟨bx, 0, none⟩ = some (.pointer (some ⟨C, 0, none⟩)) from HX6.out.cell 0); have K6a := Lib.hid (fun o => show (w6.alloc o).cell? ⟨bx, 0, none⟩ = some (.pointer (some ⟨C, 0, none⟩)) from (HX6.out.alloc o).cell 0); have HFN := Lib.hid (fun W b (ho : Only [] w6 W) (hb : Blk W b 3 #[.int .i64 2]) => show Calls Tryz.prog 52 #[runV C, .slice (some ⟨b, 0, none⟩) 1 1, .int .i64 1] W fun e w' => e = .returned (.int .i64 2) ∧ ∃ b2 a2, CvS C w.heap.size (.slice (some ⟨tb, 0, none⟩) 1 1) pv 2 0 (failN b2 a1 a2) w' ∧ Blk w' b2 3 #[.int .i64 2] ∧ Blk w' a2 3 #[.int .i64 1] ∧ Kp C w.heap.size w6 w' from (cfn_st (hs6.only ho) (show 2 ≤ 100 by decide) [2] b 1 1 1).mono (fun e w' h => ⟨h.1, b, h.2.choose, h.2.choose_spec.1, h.2.choose_spec.2.2.blk _ _ _ hb (by decide) (by decide), h.2.choose_spec.2.1, (Kp.none ho).trans h.2.choose_spec.2.2⟩)); clear hs6 hb6 hk6 hk6b))
          | (go_at_call 52; ((with_reducible refine (HFN.out _ _ ?ho ?hb).mono ?_); (case ho => (first | exact Only.refl [] w6 | exact (Only.refl [] w6).alloc _)); (case hb => (first | exact blk_atC (by simp) _ _ | (refine HK6B.out.blk _ _ _ ?_ (by decide) (by decide); first | exact blk_atC (by simp) _ _ | exact Blk.alloc (blk_atC (by simp) _ _) _ | (refine Blk.alloc ?_ _; refine HK5B.out.blk _ _ _ ?_ (by decide) (by decide); exact (Blk.new _ _ _).drew)))); rintro e w7 ⟨rfl, b2, a2, hs7, hb7, ha7, hk7⟩; have HQ := Lib.hid (show FailP C w.heap.size (.slice (some ⟨tb, 0, none⟩) 1 1) pv w4 (.int .i64 2) w7 from ⟨b2, a1, a2, rfl, hs7, hb7, hk7.blk _ _ _ HA6.out (by decide) (by decide), ha7, HK6.out.trans hk7⟩); have HX7 := Lib.hid (hk7.blk _ _ _ HX6.out (by decide) (by decide)); have K7 := Lib.hid (show w7.cell? ⟨bx, 0, none⟩ = some (.pointer (some ⟨C, 0, none⟩)) from HX7.out.cell 0); clear hs7 hb7 ha7 hk7)))
      all_goals
        go_wp2_with fail
        go_meet
        exact HQ
    case rest =>
      obtain ⟨wf, rfl⟩ : ∃ wf, wf = wc := ⟨_, rfl⟩
      obtain ⟨b2, a1, a2, rfl, hs, hb2, ha1, ha2, hk⟩ := hcut.out
      have HS := Lib.hid hs
      have HKW := Lib.hid (HK4.out.trans hk)
      have HXF := Lib.hid (hk.blk _ _ _ HX4.out (by decide) (by decide))
      have HTF := Lib.hid (hk.blk _ _ _ HT4.out (by decide) (by decide))
      have HBLF := Lib.hid (hk.blk _ _ _ HBL4.out (by decide) (by decide))
      have HBQF := Lib.hid (hk.blk _ _ _ HBQ4.out (by decide) (by decide))
      have HBEF := Lib.hid (hk.blk _ _ _ HBE4.out (by decide) (by decide))
      have HB2F := Lib.hid hb2
      have HA1F := Lib.hid ha1
      have HA2F := Lib.hid ha2
      have HND := Lib.hid (node_st (i := 5) (hh := 1) hs rfl (by decide) HXF.out HTF.out)
      have c5 : wf.cell? ⟨bx, 0, none⟩ = some (.pointer (some ⟨C, 0, none⟩)) := HXF.out.cell 0
      have b1 : wf.cell? ⟨w.heap.size, 1, none⟩ = some (.int .i64 0) := HBLF.out.cell 1
      clear K0 K1 HNM hcut hs hb2 ha1 ha2 hk
      go_upto_region 9 with (go_at_call 55; ((with_reducible refine (HND.out).mono ?_); rintro e w5 hq; have HQ := Lib.hid hq; obtain rfl := hq.1; clear hq; clear c5 b1))
      obtain ⟨-, a4, hs5, ha4, hk5⟩ := HQ.out
      obtain ⟨W9, hW9⟩ : ∃ W9, (w5.alloc (.cells #[.int .i64 1] 3)).alloc (.cells #[.int .i64 2, .int .i64 4] 3) = W9 := ⟨_, rfl⟩
      have HO9 := Lib.hid (show Only [] w5 W9 by rw [← hW9]; exact ((Only.refl _ _).alloc _).alloc _)
      have HB5 := Lib.hid (show Blk W9 w5.heap.size 3 #[.int .i64 1] by rw [← hW9]; exact (Blk.new _ _ _).alloc _)
      have HA5 := Lib.hid (show Blk W9 (w5.heap.size + 1) 3 #[.int .i64 2, .int .i64 4] by rw [← hW9]; exact blk_atC (by simp) _ _)
      have HPU := Lib.hid (show Calls Tryz.prog 53 #[runV C, .agg #[.int .i64 9, .int .i64 0, .int .i64 0, .int .i64 0, .int .u64 0, .string ⟨#[]⟩, .slice (some ⟨w5.heap.size, 0, none⟩) 1 1, .slice none 0 0, .slice (some ⟨w5.heap.size + 1, 0, none⟩) 2 2]] W9 fun e w' => e = .returned (.int .i64 5) ∧ CvS C w.heap.size (.slice (some ⟨tb, 0, none⟩) 1 1) pv 2 (0 + 1) (convN b2 a1 a2 a4 w5.heap.size (w5.heap.size + 1)) w' ∧ Kp C w.heap.size W9 w' ∧ ∀ g tt cs, w5.heap.size ≤ g → Blk W9 g tt cs → Blk w' g tt cs from put_st hs5 HO9.out (show 5 ≤ 100 by decide) fixF (sl1 w5.heap.size 1) nilV (sl1 (w5.heap.size + 1) 2) (one_vav _ _ _ rfl))
      have HK9 := Lib.hid (hk5.trans (Kp.none HO9.out))
      have HX5 := Lib.hid (hk5.blk _ _ _ HXF.out (by decide) (by decide))
      have HA4 := Lib.hid (ha4.only HO9.out (by simp))
      have c5 : w5.cell? ⟨bx, 0, none⟩ = some (.pointer (some ⟨C, 0, none⟩)) := HX5.out.cell 0
      clear hs5 ha4 hk5
      go_upto_region 10 with (go_at_call 53; ((with_reducible refine (HPU.out).mono ?_); rintro e w6 ⟨rfl, hs6, hk6, hkb6⟩; have HS6 := Lib.hid hs6; have HK6 := Lib.hid (HK9.out.trans hk6); have HK96 := Lib.hid hk6; have HKB := Lib.hid (show Blk w6 w5.heap.size 3 #[.int .i64 1] ∧ Blk w6 (w5.heap.size + 1) 3 #[.int .i64 2, .int .i64 4] from ⟨hkb6 _ _ _ (Nat.le_refl _) HB5.out, hkb6 _ _ _ (Nat.le_succ _) HA5.out⟩); clear hs6 hk6 hkb6; clear c5))
      clear hW9
      obtain ⟨⟨ov, hC6, hO6⟩, -⟩ := HS6.out
      obtain ⟨g, c, rfl, hPg⟩ := own_rowC (n := 5) hO6
      have HO6 := Lib.hid (show w6.ownsRow w.heap.size 40 9 (.slice (some ⟨g, 0, none⟩) 6 c) 6 (progC (convN b2 a1 a2 a4 w5.heap.size (w5.heap.size + 1))) from hO6)
      have HX6 := Lib.hid (HK6.out.blk _ _ _ HXF.out (by decide) (by decide))
      have HBQ6 := Lib.hid (HK6.out.blk _ _ _ HBQF.out (by decide) (by decide))
      have HBE6 := Lib.hid (HK6.out.blk _ _ _ HBEF.out (by decide) (by decide))
      have c5 : w6.cell? ⟨bx, 0, none⟩ = some (.pointer (some ⟨C, 0, none⟩)) := HX6.out.cell 0
      have c2 : w6.cell? ⟨C, 2, none⟩ = some (.slice (some ⟨g, 0, none⟩) 6 c) := hC6.cell 2
      have q0 : w6.cell? ⟨w.heap.size + 1, 0, none⟩ = some (.slice none 0 0) := HBQ6.out.cell 0
      have q1 : w6.cell? ⟨w.heap.size + 1, 1, none⟩ = some (.int .i64 0) := HBQ6.out.cell 1
      have e0 : w6.cell? ⟨w.heap.size + 1 + 1, 0, none⟩ = some (.int .i64 0) := HBE6.out.cell 0
      have g0 := HBQ6.out.frozen 0
      have g1 := HBQ6.out.frozen 1
      have g2 := HBE6.out.frozen 0
      have hgs := (World.ownsRow.lt hO6 g rfl).2
      clear hC6 hO6 hPg hgs
      go_wp2_with fail
      obtain ⟨W7, hW7⟩ : ∃ W7, ((w6.setCell ⟨w.heap.size + 1, 0, none⟩ (.slice (some ⟨g, 0, none⟩) 6 c)).setCell ⟨w.heap.size + 1, 1, none⟩ (.int .i64 5)).setCell ⟨w.heap.size + 1 + 1, 0, none⟩ (.int .i64 0) = W7 := ⟨_, rfl⟩
      have ho7 : Only [w.heap.size + 1, w.heap.size + 1 + 1] w6 W7 := by rw [← hW7]; exact (((Only.refl _ _).setCell (.inl (by simp)) _).setCell (.inl (by simp)) _).setCell (.inl (by simp)) _
      have hQ7 : Blk W7 (w.heap.size + 1) 24 #[.slice (some ⟨g, 0, none⟩) 6 c, .int .i64 5] := by rw [← hW7]; exact ((HBQ6.out.set_ 0 (.slice (some ⟨g, 0, none⟩) 6 c)).set_ 1 (.int .i64 5)).far (p := ⟨w.heap.size + 1 + 1, 0, none⟩) (by show w.heap.size + 1 ≠ w.heap.size + 1 + 1; omega) _
      have hE7 : Blk W7 (w.heap.size + 1 + 1) 27 #[.int .i64 0] := by rw [← hW7]; exact ((HBE6.out.far (p := ⟨w.heap.size + 1, 0, none⟩) (by show w.heap.size + 1 + 1 ≠ w.heap.size + 1; omega) _).far (p := ⟨w.heap.size + 1, 1, none⟩) (by show w.heap.size + 1 + 1 ≠ w.heap.size + 1; omega) _).set_ 0 (.int .i64 0)
      rw [hW7]
      refine leaves_cons (f := 50) (args := #[.pointer (some ⟨w.heap.size + 1, 0, none⟩), .pointer (some ⟨w.heap.size + 1 + 1, 0, none⟩)]) (by simp) (by simp [go_sem]) ?_
      refine (conv1_idle _ _ _).mono ?_
      rintro e u' w'' ⟨rfl, rfl, rfl⟩
      have y0 : w''.cell? ⟨w.heap.size + 1, 0, none⟩ = some (.slice (some ⟨g, 0, none⟩) 6 c) := hQ7.cell 0
      have y1 : w''.cell? ⟨w.heap.size + 1, 1, none⟩ = some (.int .i64 5) := hQ7.cell 1
      have y2 : w''.cell? ⟨w.heap.size + 1 + 1, 0, none⟩ = some (.int .i64 0) := hE7.cell 0
      simp [Leaves, settle, results, Tryz.results30, go_sem, y0, y1, y2]
      have hki : ∀ x cs, Blk w6 x 3 cs → Blk w'' x 3 cs := fun x cs h => h.only ho7 (by have e1 := h.ne_ HBQ6.out (by decide); have e2 := h.ne_ HBE6.out (by decide); simp only [List.mem_cons, List.not_mem_nil, or_false]; omega)
      have hO7 := ownsRow_only HO6.out ho7 (fun k hk hm => by
        simp only [List.mem_cons, List.not_mem_nil, or_false] at hm
        rcases hm with rfl | rfl
        · exact own_blk_ne HO6.out HBQ6.out (by decide) hk
        · exact own_blk_ne HO6.out HBE6.out (by decide) hk)
      have hsz : w.heap.size ≤ wd.heap.size := HB3.out.size
      have hkk := HKW.out.trans HK6.out
      exact ⟨g, c, rfl, conv_NF hO7 (hki _ _ (HK6.out.blk _ _ _ HA1F.out (by decide) (by decide))) (hki _ _ (HK6.out.blk _ _ _ HB2F.out (by decide) (by decide))) (hki _ _ (HK6.out.blk _ _ _ HA2F.out (by decide) (by decide))) (hki _ _ (HK96.out.blk _ _ _ HA4.out (by decide) (by decide))) (hki _ _ HKB.out.1) (hki _ _ HKB.out.2), below_only (HB3.out.trans (hkk.bel _ HCC.out (Nat.le_refl _) hsz)) ho7 (fun k hk => by simp only [List.mem_cons, List.not_mem_nil, or_false] at hk; omega) (Nat.le_trans hsz hkk.siz)⟩
end Go.Proofs.YtikkmalhdidhaaaGreatDoor
