/- Cps: the law CpsChecks. -/
import Derived.Test.YtikkmalhdidhaaaGreatDoorCpsAl
import Derived.Test.YtikkmalhdidhaaaGreatDoorCpsX
namespace Go.Proofs.YtikkmalhdidhaaaGreatDoor
open Go.RowKit LamM CpsM Go.Maps

/-- Both sets of free names are had. -/
def BothF (W1 : World) (L : List Fl) (root : Int) (p3 p4 : Value) (wx : World) : Prop :=
  IV wx wx.heap.size p3 (freeResC L root) ∧ IV wx wx.heap.size p4 (freeResC L root) ∧ Below W1.heap.size W1 wx

set_option maxRecDepth 100000 in
set_option maxHeartbeats 4000000 in
theorem law_any (L : List Fl) (v : Value) (root : Int) (w : World) (hN : NF w w.heap.size v L) : Calls Tryz.prog 3 #[.agg #[v, .int .i64 root]] w fun e w' => e = .returned (.bool true) ∧ Below w.heap.size w w' := by
  obtain ⟨W1, hW⟩ : ∃ W1, w.alloc (.cells #[v, .int .i64 root] 24) = W1 := ⟨_, rfl⟩
  have hb1 : Below w.heap.size w W1 := by rw [← hW]; exact (Below.refl _ _).alloc (Nat.le_refl _) _
  have HBX := Lib.hid (show Blk W1 w.heap.size 24 #[v, .int .i64 root] by rw [← hW]; exact Blk.new _ _ _)
  have HN1 := Lib.hid (hN.below hb1)
  have HB1 := Lib.hid hb1
  have HL := Lib.hid (cfree_any L v root W1.drew (HN1.out.below (Below.drew (Below.refl _ _))))
  have HR := Lib.hid (sfree_any L v root W1.drew (HN1.out.below (Below.drew (Below.refl _ _))))
  have K0 := Lib.hid (show W1.drew.cell? ⟨w.heap.size, 0, none⟩ = some v ∧ W1.drew.cell? ⟨w.heap.size, 1, none⟩ = some (.int .i64 root) from ⟨HBX.out.cell 0, HBX.out.cell 1⟩)
  unfold GivesI at HL HR
  clear hb1 hN
  go_enter Tryz.func3, Tryz.ntmps3
  go_upto_region 1 with fail
  clear hW
  go_cut [3, 4] from 6 to 15 (fun p3 p4 wx => Hid (BothF W1 L root p3 p4 wx))
  case first =>
    go_region_held3 (fun w' => w'.cell? ⟨w.heap.size, 0, none⟩ = some v ∧ w'.cell? ⟨w.heap.size, 1, none⟩ = some (.int .i64 root)) (first | with_reducible exact K0.out | with_reducible exact K2.out | with_reducible exact K3.out)
      (first
        | (go_at_call 4; ((with_reducible refine (HL.out).mono ?_); rintro e w2 ⟨v3, rfl, hi2, hb2⟩; have HI2 := Lib.hid hi2; have HB2 := Lib.hid hb2; have HR2 := Lib.hid (sfree_any L v root w2 (HN1.out.below (Below.trans (Below.drew (Below.refl _ _)) hb2))); unfold GivesI at HR2; have K2 := Lib.hid (show w2.cell? ⟨w.heap.size, 0, none⟩ = some v ∧ w2.cell? ⟨w.heap.size, 1, none⟩ = some (.int .i64 root) from ⟨(HBX.out.drew.below hb2 HBX.out.lt).cell 0, (HBX.out.drew.below hb2 HBX.out.lt).cell 1⟩); clear hi2 hb2))
        | (go_at_call 5; ((with_reducible refine (HR.out).mono ?_); rintro e w2 ⟨v3, rfl, hi2, hb2⟩; have HI2 := Lib.hid hi2; have HB2 := Lib.hid hb2; have HL2 := Lib.hid (cfree_any L v root w2 (HN1.out.below (Below.trans (Below.drew (Below.refl _ _)) hb2))); unfold GivesI at HL2; have K2 := Lib.hid (show w2.cell? ⟨w.heap.size, 0, none⟩ = some v ∧ w2.cell? ⟨w.heap.size, 1, none⟩ = some (.int .i64 root) from ⟨(HBX.out.drew.below hb2 HBX.out.lt).cell 0, (HBX.out.drew.below hb2 HBX.out.lt).cell 1⟩); clear hi2 hb2))
        | (go_at_call 5; ((with_reducible refine (HR2.out).mono ?_); rintro e w3 ⟨v4, rfl, hi3, hb3⟩; have HI3 := Lib.hid hi3; have HB3 := Lib.hid hb3; have HX3 := Lib.hid ((HBX.out.drew.below HB2.out HBX.out.lt).below hb3 (HBX.out.drew.below HB2.out HBX.out.lt).lt); have K3 := Lib.hid (show w3.cell? ⟨w.heap.size, 0, none⟩ = some v ∧ w3.cell? ⟨w.heap.size, 1, none⟩ = some (.int .i64 root) from ⟨HX3.out.cell 0, HX3.out.cell 1⟩); clear hi3 hb3))
        | (go_at_call 4; ((with_reducible refine (HL2.out).mono ?_); rintro e w3 ⟨v4, rfl, hi3, hb3⟩; have HI3 := Lib.hid hi3; have HB3 := Lib.hid hb3; have HX3 := Lib.hid ((HBX.out.drew.below HB2.out HBX.out.lt).below hb3 (HBX.out.drew.below HB2.out HBX.out.lt).lt); have K3 := Lib.hid (show w3.cell? ⟨w.heap.size, 0, none⟩ = some v ∧ w3.cell? ⟨w.heap.size, 1, none⟩ = some (.int .i64 root) from ⟨HX3.out.cell 0, HX3.out.cell 1⟩); clear hi3 hb3)))
    all_goals
      go_wp2_with fail
      go_meet
    case rel => exact Lib.hid ⟨(HI2.out.keep (fun _ hp => HB3.out.cell hp)).more HB3.out.size, HI3.out, ((Below.drew (Below.refl _ _)).trans HB2.out).trans (HB3.out.mono HB2.out.size)⟩
  case rest =>
    have HBX2 := Lib.hid (HBX.out.below hcut.out.2.2 HBX.out.lt)
    have HN2 := Lib.hid (HN1.out.below hcut.out.2.2)
    have HB2 := Lib.hid (HB1.out.trans (hcut.out.2.2.mono HB1.out.size))
    obtain ⟨hi3, hi4, -⟩ := hcut.out
    obtain ⟨A3, c3, rfl, hc1, hc2⟩ := hi3.len
    have hlen : (freeResC L root).length ≤ 9223372036854775807 := by unfold maxLen at hc2; omega
    clear hc1 hc2
    obtain ⟨A4, c4, rfl, _, _⟩ := hi4.len
    have HI3 := Lib.hid hi3
    have HI4 := Lib.hid hi4
    clear hcut hi3 hi4 HL HR K0 HBX HN1 HB1
    generalize freeResC L root = F at *
    have hll : ((F.length : Int) != (F.length : Int)) = false := n_false rfl
    go_wp2
    go_loopw [5] (fun iv wr => Only [] wc wr ∧ ∃ k : Nat, k ≤ F.length ∧ iv = .int .i64 (k : Int)) (fun iv _ => F.length - (intOf iv).toNat)
    case atStart => exact ⟨Only.refl _ _, 0, Nat.zero_le _, rfl⟩
    case round =>
      obtain ⟨ho, k, hk, rfl⟩ := hrel
      have HO := Lib.hid ho
      clear ho
      rcases Nat.lt_or_ge k F.length with hlt | hge
      · obtain ⟨x, hx⟩ : ∃ x, F[k]? = some x := ⟨_, List.getElem?_eq_getElem hlt⟩
        obtain ⟨a3, rfl, _, ca⟩ := HI3.out.at_ hx
        obtain ⟨a4, rfl, _, cb⟩ := HI4.out.at_ hx
        have ca' := HO.out.cell (by simp) ca
        have cb' := HO.out.cell (by simp) cb
        have q : (k : Int) < (F.length : Int) := by omega
        have p : (x != x) = false := n_false rfl
        clear ca cb hx
        go_wp2
        go_quiet (fail)
        go_wp2
        go_roundw
        case rel => exact ⟨HO.out.drewN _, k + 1, by omega, by go_num⟩
        case measure => simp [intOf]; omega
      · have q : ¬ (k : Int) < (F.length : Int) := by omega
        have HX := Lib.hid (HBX2.out.only HO.out (by simp))
        have HB := Lib.hid (HB2.out.trans (show Below w.heap.size wc wr from below_only (Below.refl _ _) HO.out (fun k h => by cases h) HB2.out.size))
        go_upto_region 9 with fail
        have HNr := Lib.hid (HN2.out.below (below_only (Below.refl wc.heap.size _) HO.out (fun k h => by cases h) (Nat.le_refl _)))
        have HC1 := Lib.hid (ccheck_any L v root wr.drew (HNr.out.below (Below.drew (Below.refl _ _))))
        have K0 := Lib.hid (show wr.drew.cell? ⟨w.heap.size, 0, none⟩ = some v ∧ wr.drew.cell? ⟨w.heap.size, 1, none⟩ = some (.int .i64 root) from ⟨HX.out.cell 0, HX.out.cell 1⟩)
        have HRC := Lib.hid (fun w' h => scheck_any L v root w' h)
        unfold CkPost at HC1 HRC
        generalize checkC prims L root = R at *
        have hee : (R == R) = true := b_true rfl
        go_region_held3 (fun w' => w'.cell? ⟨w.heap.size, 0, none⟩ = some v ∧ w'.cell? ⟨w.heap.size, 1, none⟩ = some (.int .i64 root)) (first | with_reducible exact K0.out | with_reducible exact K2.out | with_reducible exact K3.out | with_reducible exact K4.out)
          (first
            | (go_at_call 6; ((with_reducible refine (HC1.out).mono ?_); rintro e w2 ⟨rfl, hb2⟩; have HD2 := Lib.hid ((Below.drew (Below.refl wr.heap.size wr)).trans hb2); have HX2 := Lib.hid (HX.out.below HD2.out HX.out.lt); have K2 := Lib.hid (show w2.cell? ⟨w.heap.size, 0, none⟩ = some v ∧ w2.cell? ⟨w.heap.size, 1, none⟩ = some (.int .i64 root) from ⟨HX2.out.cell 0, HX2.out.cell 1⟩); have HC2 := Lib.hid (HRC.out w2 (HNr.out.below HD2.out)); clear hb2))
            | (go_at_call 7; ((with_reducible refine (HC2.out).mono ?_); rintro e w3 ⟨rfl, hb3⟩; have HD3 := Lib.hid (HD2.out.trans (hb3.mono HD2.out.size)); have HX3 := Lib.hid (HX.out.below HD3.out HX.out.lt); have K3 := Lib.hid (show w3.cell? ⟨w.heap.size, 0, none⟩ = some v ∧ w3.cell? ⟨w.heap.size, 1, none⟩ = some (.int .i64 root) from ⟨HX3.out.cell 0, HX3.out.cell 1⟩); have HC3 := Lib.hid (calive_any w3); clear hb3))
            | (go_at_call 8; ((with_reducible refine (HC3.out).mono ?_); rintro e w4 ⟨rfl, hb4⟩; have HD4 := Lib.hid (HD3.out.trans (hb4.mono HD3.out.size)); have HX4 := Lib.hid (HX.out.below HD4.out HX.out.lt); have K4 := Lib.hid (show w4.cell? ⟨w.heap.size, 0, none⟩ = some v ∧ w4.cell? ⟨w.heap.size, 1, none⟩ = some (.int .i64 root) from ⟨HX4.out.cell 0, HX4.out.cell 1⟩); clear hb4)))
        all_goals
          go_wp2_with fail
          go_ret
          exact ⟨rfl, HB.out.trans (HD4.out.mono HB.out.size)⟩
end Go.Proofs.YtikkmalhdidhaaaGreatDoor
