/- Close: the law CloseChecks. -/
import Derived.Test.YtjhdlnllhjffkaaGreatDoorCloMz
import Derived.Test.YtjhdlnllhjffkaaGreatDoorCloRk
namespace Go.Proofs.YtjhdlnllhjffkaaGreatDoor
open Go.RowKit LamM CpsM CloM Go.Maps

set_option maxRecDepth 100000 in
set_option maxHeartbeats 4000000 in
theorem flaw_any (L : List Fl) (fs : List FnD) (vl fv : Value) (entry : Int) (w : World) (hN : NF w w.heap.size vl L) (hF : FnV w w.heap.size fv fs) (hla : ∀ t ∈ L, t.args.length ≤ 1048576) :
    Calls Tryz.prog 3 #[.agg #[vl, fv, .int .i64 entry]] w fun e w' => e = .returned (.bool true) ∧ Below w.heap.size w w' := by
  obtain ⟨NA, nc, rfl, _, _⟩ := hN.len
  obtain ⟨FA, fc, rfl, _, _⟩ := hF.len
  obtain ⟨W1, hW⟩ : ∃ W1, w.alloc (.cells #[.slice NA L.length nc, .slice FA fs.length fc, .int .i64 entry] 25) = W1 := ⟨_, rfl⟩
  have hb1 : Below w.heap.size w W1 := by rw [← hW]; exact (Below.refl _ _).alloc (Nat.le_refl _) _
  have HBX := Lib.hid (show Blk W1 w.heap.size 25 #[.slice NA L.length nc, .slice FA fs.length fc, .int .i64 entry] by rw [← hW]; exact Blk.new _ _ _)
  have HN1 := Lib.hid (hN.below hb1)
  have HF1 := Lib.hid (hF.below hb1)
  have HB1 := Lib.hid hb1
  have HC := Lib.hid (fun w' (h : Below W1.heap.size W1 w') => fcheck_any L fs (.slice NA L.length nc) (.slice FA fs.length fc) entry w' (HN1.out.below h) (HF1.out.below h) hla)
  have HR := Lib.hid (fun w' (h : Below W1.heap.size W1 w') => scheckF_any L fs (.slice NA L.length nc) (.slice FA fs.length fc) entry w' (HN1.out.below h) (HF1.out.below h))
  unfold CkPost at HC HR
  rw [← check_one prims L fs entry] at HR
  generalize checkF prims L fs entry = R at *
  have hee : (R == R) = true := b_true rfl
  have HC1 := Lib.hid (HC.out W1.drew (Below.drew (Below.refl _ _)))
  have HR1 := Lib.hid (HR.out W1.drew (Below.drew (Below.refl _ _)))
  have K0 := Lib.hid (show W1.drew.cell? ⟨w.heap.size, 0, none⟩ = some (.slice NA L.length nc) ∧ W1.drew.cell? ⟨w.heap.size, 1, none⟩ = some (.slice FA fs.length fc) ∧ W1.drew.cell? ⟨w.heap.size, 2, none⟩ = some (.int .i64 entry) from ⟨HBX.out.drew.cell 0, HBX.out.drew.cell 1, HBX.out.drew.cell 2⟩)
  clear hb1 hN hF hla
  go_enter Tryz.func3, Tryz.ntmps3
  go_upto_region 1 with fail
  clear hW
  go_region_held3 (fun w' => w'.cell? ⟨w.heap.size, 0, none⟩ = some (.slice NA L.length nc) ∧ w'.cell? ⟨w.heap.size, 1, none⟩ = some (.slice FA fs.length fc) ∧ w'.cell? ⟨w.heap.size, 2, none⟩ = some (.int .i64 entry)) (first | with_reducible exact K0.out | with_reducible exact K2.out | with_reducible exact K3.out | with_reducible exact K4.out)
    (first
      | (go_at_call 4; ((with_reducible refine (HC1.out).mono ?_); rintro e w2 ⟨rfl, hb⟩; have HD2 := Lib.hid ((Below.drew (Below.refl W1.heap.size W1)).trans hb); have HX2 := Lib.hid (HBX.out.below HD2.out HBX.out.lt); have K2 := Lib.hid (show w2.cell? ⟨w.heap.size, 0, none⟩ = some (.slice NA L.length nc) ∧ w2.cell? ⟨w.heap.size, 1, none⟩ = some (.slice FA fs.length fc) ∧ w2.cell? ⟨w.heap.size, 2, none⟩ = some (.int .i64 entry) from ⟨HX2.out.cell 0, HX2.out.cell 1, HX2.out.cell 2⟩); have HR2 := Lib.hid (HR.out w2 HD2.out); clear hb))
      | (go_at_call 5; ((with_reducible refine (HR1.out).mono ?_); rintro e w2 ⟨rfl, hb⟩; have HD2 := Lib.hid ((Below.drew (Below.refl W1.heap.size W1)).trans hb); have HX2 := Lib.hid (HBX.out.below HD2.out HBX.out.lt); have K2 := Lib.hid (show w2.cell? ⟨w.heap.size, 0, none⟩ = some (.slice NA L.length nc) ∧ w2.cell? ⟨w.heap.size, 1, none⟩ = some (.slice FA fs.length fc) ∧ w2.cell? ⟨w.heap.size, 2, none⟩ = some (.int .i64 entry) from ⟨HX2.out.cell 0, HX2.out.cell 1, HX2.out.cell 2⟩); have HC2 := Lib.hid (HC.out w2 HD2.out); clear hb))
      | (go_at_call 5; ((with_reducible refine (HR2.out).mono ?_); rintro e w3 ⟨rfl, hb⟩; have HD3 := Lib.hid (HD2.out.trans (hb.mono HD2.out.size)); have HX3 := Lib.hid (HBX.out.below HD3.out HBX.out.lt); have K3 := Lib.hid (show w3.cell? ⟨w.heap.size, 0, none⟩ = some (.slice NA L.length nc) ∧ w3.cell? ⟨w.heap.size, 1, none⟩ = some (.slice FA fs.length fc) ∧ w3.cell? ⟨w.heap.size, 2, none⟩ = some (.int .i64 entry) from ⟨HX3.out.cell 0, HX3.out.cell 1, HX3.out.cell 2⟩); have HA3 := Lib.hid (falive_any w3); clear hb))
      | (go_at_call 4; ((with_reducible refine (HC2.out).mono ?_); rintro e w3 ⟨rfl, hb⟩; have HD3 := Lib.hid (HD2.out.trans (hb.mono HD2.out.size)); have HX3 := Lib.hid (HBX.out.below HD3.out HBX.out.lt); have K3 := Lib.hid (show w3.cell? ⟨w.heap.size, 0, none⟩ = some (.slice NA L.length nc) ∧ w3.cell? ⟨w.heap.size, 1, none⟩ = some (.slice FA fs.length fc) ∧ w3.cell? ⟨w.heap.size, 2, none⟩ = some (.int .i64 entry) from ⟨HX3.out.cell 0, HX3.out.cell 1, HX3.out.cell 2⟩); have HA3 := Lib.hid (falive_any w3); clear hb))
      | (go_at_call 6; ((with_reducible refine (HA3.out).mono ?_); rintro e w4 ⟨rfl, hb⟩; have HD4 := Lib.hid (HD3.out.trans (hb.mono HD3.out.size)); have HX4 := Lib.hid (HBX.out.below HD4.out HBX.out.lt); have K4 := Lib.hid (show w4.cell? ⟨w.heap.size, 0, none⟩ = some (.slice NA L.length nc) ∧ w4.cell? ⟨w.heap.size, 1, none⟩ = some (.slice FA fs.length fc) ∧ w4.cell? ⟨w.heap.size, 2, none⟩ = some (.int .i64 entry) from ⟨HX4.out.cell 0, HX4.out.cell 1, HX4.out.cell 2⟩); clear hb)))
  all_goals
    go_wp2_with fail
    go_ret
    exact ⟨rfl, HB1.out.trans (HD4.out.mono HB1.out.size)⟩
end Go.Proofs.YtjhdlnllhjffkaaGreatDoor
