/- Lambda: the runner begins a node. -/
import Derived.Test.YtmedfpejfpdpdaaGreatDoorLamAF
namespace Go.Proofs.YtmedfpejfpdpdaaGreatDoor
open Go.RowKit LamM Go.Maps

/-- A node's cells, at its place. -/
def Nd (w : World) (ad : Addr) (j : Nat) (t : Tm) (VA : Option Addr) (vl vc : Nat) (KA : Option Addr) (kl kc : Nat) (AA : Option Addr) (al ac : Nat) : Prop :=
  w.cell? (ad.add (j * 8)) = some (.int .i64 t.k) ∧ w.cell? ⟨(ad.add (j * 8)).block, (ad.add (j * 8)).off + 1, none⟩ = some (.int .i64 t.n) ∧ w.cell? ⟨(ad.add (j * 8)).block, (ad.add (j * 8)).off + 2, none⟩ = some (.int .i64 t.i) ∧ w.cell? ⟨(ad.add (j * 8)).block, (ad.add (j * 8)).off + 3, none⟩ = some (.int .u64 t.b) ∧ w.cell? ⟨(ad.add (j * 8)).block, (ad.add (j * 8)).off + 4, none⟩ = some (.string ⟨t.t.toArray⟩) ∧ w.cell? ⟨(ad.add (j * 8)).block, (ad.add (j * 8)).off + 5, none⟩ = some (.slice VA vl vc) ∧ w.cell? ⟨(ad.add (j * 8)).block, (ad.add (j * 8)).off + 6, none⟩ = some (.slice KA kl kc) ∧ w.cell? ⟨(ad.add (j * 8)).block, (ad.add (j * 8)).off + 7, none⟩ = some (.slice AA al ac)
theorem Nd.keep {w w' : World} {ad : Addr} {j : Nat} {t : Tm} {VA : Option Addr} {vl vc : Nat} {KA : Option Addr} {kl kc : Nat} {AA : Option Addr} {al ac : Nat} (h : Nd w ad j t VA vl vc KA kl kc AA al ac)
    (hk : ∀ (p : Addr) (v : Value), p.block = ad.block → w.cell? p = some v → w'.cell? p = some v) : Nd w' ad j t VA vl vc KA kl kc AA al ac := by
  have hb : (ad.add (j * 8)).block = ad.block := block_of_add _ _
  obtain ⟨h0, h1, h2, h3, h4, h5, h6, h7⟩ := h
  exact ⟨hk _ _ hb h0, hk _ _ hb h1, hk _ _ hb h2, hk _ _ hb h3, hk _ _ hb h4, hk _ _ hb h5, hk _ _ hb h6, hk _ _ hb h7⟩
theorem Nd.only {w w' : World} {bs : List Nat} {ad : Addr} {j : Nat} {t : Tm} {VA : Option Addr} {vl vc : Nat} {KA : Option Addr} {kl kc : Nat} {AA : Option Addr} {al ac : Nat} (h : Nd w ad j t VA vl vc KA kl kc AA al ac)
    (ho : Only bs w w') (hb : ad.block ∉ bs) : Nd w' ad j t VA vl vc KA kl kc AA al ac := h.keep (fun p v hp hc => ho.cell (by rw [hp]; exact hb) hc)

set_option maxRecDepth 100000 in
set_option maxHeartbeats 8000000 in
theorem begin_str (t : Tm) (VA : Option Addr) (vl vc : Nat) (KA : Option Addr) (kl kc : Nat) (AA : Option Addr) (al ac : Nat) (R M n nc j : Nat) (ad : Addr) (stk val out dv : Value) (up : Bool) (EA : Option Addr) (steps fuel : Int) (w : World) (hk : t.k = 4)
    (hR : Blk w R 83 (RC M (.slice (some ad) n nc) stk (j : Int) (.pointer EA) val up)) (hM : Blk w M 97 (MC out steps fuel dv)) (hst : steps < fuel) (hst0 : 0 ≤ steps) (hfu : fuel ≤ 1073741824) (hj : j < n) (_hnn : n ≤ 1300000000000)
    (hN : Nd w ad j t VA vl vc KA kl kc AA al ac) (haM : ad.block ≠ M) (_haR : ad.block ≠ R) (hRM : R ≠ M) :
    Calls Tryz.prog 43 #[runV R] w fun e w' => e = .returned (.tuple #[]) ∧ Blk w' R 83 (RC M (.slice (some ad) n nc) stk (-1) (.pointer EA) (.iface 109 (.string ⟨t.t.toArray⟩)) false) ∧ Blk w' M 97 (MC out (steps + 1) fuel dv) ∧ Only [R, M] w w' := by
  have q1 := b_false (show t.k ≠ 1 by omega)
  have q2 := b_false (show t.k ≠ 2 by omega)
  have q3 := b_false (show t.k ≠ 3 by omega)
  have q4 := b_true (show t.k = 4 by omega)
  have HST := Lib.hid (step_ok M out dv steps fuel w hst hst0 hfu hM)
  have r0 : w.cell? ⟨R, 0, none⟩ = some (.pointer (some ⟨M, 0, none⟩)) := hR.cell 0
  have HR := Lib.hid hR
  have HN := Lib.hid hN
  have hjn : (j : Int) < (n : Int) := by omega
  clear hM hR hN hst hst0 hfu hk
  go_enter Tryz.func43, Tryz.ntmps43
  go_upto_region 1 with (go_at_call 55; ((with_reducible refine (HST.out).mono ?_); rintro e w1 ⟨rfl, hm1, ho1⟩))
  have HM1 := Lib.hid hm1
  have HO1 := Lib.hid ho1
  have HR1 := Lib.hid (HR.out.only ho1 (fun h => hRM (List.mem_singleton.1 h)))
  have HN1 := Lib.hid (HN.out.only ho1 (fun h => haM (List.mem_singleton.1 h)))
  have s1 : w1.cell? ⟨R, 1, none⟩ = some (.slice (some ad) n nc) := HR1.out.cell 1
  have s3 : w1.cell? ⟨R, 3, none⟩ = some (.int .i64 (j : Int)) := HR1.out.cell 3
  have K0 := Lib.hid (show w1.cell? ⟨R, 1, none⟩ = some (.slice (some ad) n nc) ∧ w1.cell? ⟨R, 3, none⟩ = some (.int .i64 (j : Int)) ∧ w1.cell? (ad.add (j * 8)) = some (.int .i64 t.k) ∧ w1.cell? ⟨(ad.add (j * 8)).block, (ad.add (j * 8)).off + 1, none⟩ = some (.int .i64 t.n) ∧ w1.cell? ⟨(ad.add (j * 8)).block, (ad.add (j * 8)).off + 2, none⟩ = some (.int .i64 t.i) ∧ w1.cell? ⟨(ad.add (j * 8)).block, (ad.add (j * 8)).off + 3, none⟩ = some (.int .u64 t.b) ∧ w1.cell? ⟨(ad.add (j * 8)).block, (ad.add (j * 8)).off + 4, none⟩ = some (.string ⟨t.t.toArray⟩) ∧ w1.cell? ⟨(ad.add (j * 8)).block, (ad.add (j * 8)).off + 5, none⟩ = some (.slice VA vl vc) ∧ w1.cell? ⟨(ad.add (j * 8)).block, (ad.add (j * 8)).off + 6, none⟩ = some (.slice KA kl kc) ∧ w1.cell? ⟨(ad.add (j * 8)).block, (ad.add (j * 8)).off + 7, none⟩ = some (.slice AA al ac) from ⟨s1, s3, HN1.out⟩)
  have K0d := Lib.hid (show w1.drew.cell? ⟨R, 1, none⟩ = some (.slice (some ad) n nc) ∧ w1.drew.cell? ⟨R, 3, none⟩ = some (.int .i64 (j : Int)) ∧ w1.drew.cell? (ad.add (j * 8)) = some (.int .i64 t.k) ∧ w1.drew.cell? ⟨(ad.add (j * 8)).block, (ad.add (j * 8)).off + 1, none⟩ = some (.int .i64 t.n) ∧ w1.drew.cell? ⟨(ad.add (j * 8)).block, (ad.add (j * 8)).off + 2, none⟩ = some (.int .i64 t.i) ∧ w1.drew.cell? ⟨(ad.add (j * 8)).block, (ad.add (j * 8)).off + 3, none⟩ = some (.int .u64 t.b) ∧ w1.drew.cell? ⟨(ad.add (j * 8)).block, (ad.add (j * 8)).off + 4, none⟩ = some (.string ⟨t.t.toArray⟩) ∧ w1.drew.cell? ⟨(ad.add (j * 8)).block, (ad.add (j * 8)).off + 5, none⟩ = some (.slice VA vl vc) ∧ w1.drew.cell? ⟨(ad.add (j * 8)).block, (ad.add (j * 8)).off + 6, none⟩ = some (.slice KA kl kc) ∧ w1.drew.cell? ⟨(ad.add (j * 8)).block, (ad.add (j * 8)).off + 7, none⟩ = some (.slice AA al ac) from K0.out)
  have K1 := Lib.hid (fun o => show (w1.alloc o).drew.cell? ⟨R, 1, none⟩ = some (.slice (some ad) n nc) ∧ (w1.alloc o).drew.cell? ⟨R, 3, none⟩ = some (.int .i64 (j : Int)) ∧ (w1.alloc o).drew.cell? (ad.add (j * 8)) = some (.int .i64 t.k) ∧ (w1.alloc o).drew.cell? ⟨(ad.add (j * 8)).block, (ad.add (j * 8)).off + 1, none⟩ = some (.int .i64 t.n) ∧ (w1.alloc o).drew.cell? ⟨(ad.add (j * 8)).block, (ad.add (j * 8)).off + 2, none⟩ = some (.int .i64 t.i) ∧ (w1.alloc o).drew.cell? ⟨(ad.add (j * 8)).block, (ad.add (j * 8)).off + 3, none⟩ = some (.int .u64 t.b) ∧ (w1.alloc o).drew.cell? ⟨(ad.add (j * 8)).block, (ad.add (j * 8)).off + 4, none⟩ = some (.string ⟨t.t.toArray⟩) ∧ (w1.alloc o).drew.cell? ⟨(ad.add (j * 8)).block, (ad.add (j * 8)).off + 5, none⟩ = some (.slice VA vl vc) ∧ (w1.alloc o).drew.cell? ⟨(ad.add (j * 8)).block, (ad.add (j * 8)).off + 6, none⟩ = some (.slice KA kl kc) ∧ (w1.alloc o).drew.cell? ⟨(ad.add (j * 8)).block, (ad.add (j * 8)).off + 7, none⟩ = some (.slice AA al ac) from ⟨((Only.refl [] w1).alloc o).drew.cell (by simp) s1, ((Only.refl [] w1).alloc o).drew.cell (by simp) s3, HN1.out.only ((Only.refl [] w1).alloc o).drew (by simp)⟩)
  clear hm1 ho1 r0 s1 s3
  go_region_held3 (fun w' => w'.cell? ⟨R, 1, none⟩ = some (.slice (some ad) n nc) ∧ w'.cell? ⟨R, 3, none⟩ = some (.int .i64 (j : Int)) ∧ w'.cell? (ad.add (j * 8)) = some (.int .i64 t.k) ∧ w'.cell? ⟨(ad.add (j * 8)).block, (ad.add (j * 8)).off + 1, none⟩ = some (.int .i64 t.n) ∧ w'.cell? ⟨(ad.add (j * 8)).block, (ad.add (j * 8)).off + 2, none⟩ = some (.int .i64 t.i) ∧ w'.cell? ⟨(ad.add (j * 8)).block, (ad.add (j * 8)).off + 3, none⟩ = some (.int .u64 t.b) ∧ w'.cell? ⟨(ad.add (j * 8)).block, (ad.add (j * 8)).off + 4, none⟩ = some (.string ⟨t.t.toArray⟩) ∧ w'.cell? ⟨(ad.add (j * 8)).block, (ad.add (j * 8)).off + 5, none⟩ = some (.slice VA vl vc) ∧ w'.cell? ⟨(ad.add (j * 8)).block, (ad.add (j * 8)).off + 6, none⟩ = some (.slice KA kl kc) ∧ w'.cell? ⟨(ad.add (j * 8)).block, (ad.add (j * 8)).off + 7, none⟩ = some (.slice AA al ac)) (first | with_reducible exact K0d.out | with_reducible exact K1.out _ | go_keep) (fail)
  obtain ⟨W2, hW2⟩ : ∃ W2, (w1.alloc (.cells #[.int .i64 t.k, .int .i64 t.n, .int .i64 t.i, .int .u64 t.b, .string ⟨t.t.toArray⟩, .slice VA vl vc, .slice KA kl kc, .slice AA al ac] 42)).drew = W2 := ⟨_, rfl⟩
  have HO2 := Lib.hid (show Only [] w1 W2 by rw [← hW2]; exact ((Only.refl [] w1).alloc _).drew)
  have HT2 := Lib.hid (show Blk W2 w1.heap.size 42 #[.int .i64 t.k, .int .i64 t.n, .int .i64 t.i, .int .u64 t.b, .string ⟨t.t.toArray⟩, .slice VA vl vc, .slice KA kl kc, .slice AA al ac] by rw [← hW2]; exact (Blk.new _ _ _).drew)
  have HR2 := Lib.hid (HR1.out.only HO2.out (by simp))
  have HM2 := Lib.hid (HM1.out.only HO2.out (by simp))
  have HOA := Lib.hid ((HO1.out.mono (cs := [R, M]) (by simp)).trans (HO2.out.mono (by simp)))
  have c0 : W2.cell? ⟨w1.heap.size, 0, none⟩ = some (.int .i64 t.k) := HT2.out.cell 0
  have c1 : W2.cell? ⟨w1.heap.size, 1, none⟩ = some (.int .i64 t.n) := HT2.out.cell 1
  have c4 : W2.cell? ⟨w1.heap.size, 4, none⟩ = some (.string ⟨t.t.toArray⟩) := HT2.out.cell 4
  have c7 : W2.cell? ⟨w1.heap.size, 7, none⟩ = some (.slice AA al ac) := HT2.out.cell 7
  have hwz := HO2.out.size
  have hw0 := HO1.out.size
  have hrl := HR2.out.lt
  have hml := HM2.out.lt
  rw [hW2]
  clear hW2
  go_wp2_with (go_at_call 58; ((with_reducible refine (come_any R M (.slice (some ad) n nc) stk (.pointer EA) val (.string ⟨t.t.toArray⟩) 109 (j : Int) up _ (HR2.out)).mono ?_); rintro e w3 ⟨rfl, h3, o3⟩; have H3 := Lib.hid h3; have O3 := Lib.hid o3; clear h3 o3))
  first | go_end0 | refine bodyPost_ret (results_none rfl _ _ _) rfl ?_
  exact ⟨rfl, H3.out, HM2.out.only O3.out (fun h => hRM (List.mem_singleton.1 h).symm), HOA.out.trans (O3.out.mono (by simp))⟩

set_option maxRecDepth 100000 in
set_option maxHeartbeats 8000000 in
theorem begin_fn (t : Tm) (VA : Option Addr) (vl vc : Nat) (KA : Option Addr) (kl kc : Nat) (AA : Option Addr) (al ac : Nat) (R M n nc j : Nat) (ad : Addr) (stk val out dv : Value) (up : Bool) (EA : Option Addr) (steps fuel : Int) (w : World) (hk : t.k = 8)
    (hR : Blk w R 83 (RC M (.slice (some ad) n nc) stk (j : Int) (.pointer EA) val up)) (hM : Blk w M 97 (MC out steps fuel dv)) (hst : steps < fuel) (hst0 : 0 ≤ steps) (hfu : fuel ≤ 1073741824) (hj : j < n) (_hnn : n ≤ 1300000000000)
    (hN : Nd w ad j t VA vl vc KA kl kc AA al ac) (haM : ad.block ≠ M) (_haR : ad.block ≠ R) (hRM : R ≠ M) :
    Calls Tryz.prog 43 #[runV R] w fun e w' => e = .returned (.tuple #[]) ∧ ∃ fb, w.heap.size ≤ fb ∧ Blk w' fb 112 #[.int .i64 (j : Int), .pointer EA] ∧ Blk w' R 83 (RC M (.slice (some ad) n nc) stk (-1) (.pointer EA) (.iface 110 (.pointer (some ⟨fb, 0, none⟩))) false) ∧ Blk w' M 97 (MC out (steps + 1) fuel dv) ∧ Only [R, M] w w' := by
  have q1 := b_false (show t.k ≠ 1 by omega)
  have q2 := b_false (show t.k ≠ 2 by omega)
  have q3 := b_false (show t.k ≠ 3 by omega)
  have q4 := b_false (show t.k ≠ 4 by omega)
  have q8 := b_true (show t.k = 8 by omega)
  have HST := Lib.hid (step_ok M out dv steps fuel w hst hst0 hfu hM)
  have r0 : w.cell? ⟨R, 0, none⟩ = some (.pointer (some ⟨M, 0, none⟩)) := hR.cell 0
  have HR := Lib.hid hR
  have HN := Lib.hid hN
  have hjn : (j : Int) < (n : Int) := by omega
  clear hM hR hN hst hst0 hfu hk
  go_enter Tryz.func43, Tryz.ntmps43
  go_upto_region 1 with (go_at_call 55; ((with_reducible refine (HST.out).mono ?_); rintro e w1 ⟨rfl, hm1, ho1⟩))
  have HM1 := Lib.hid hm1
  have HO1 := Lib.hid ho1
  have HR1 := Lib.hid (HR.out.only ho1 (fun h => hRM (List.mem_singleton.1 h)))
  have HN1 := Lib.hid (HN.out.only ho1 (fun h => haM (List.mem_singleton.1 h)))
  have s1 : w1.cell? ⟨R, 1, none⟩ = some (.slice (some ad) n nc) := HR1.out.cell 1
  have s3 : w1.cell? ⟨R, 3, none⟩ = some (.int .i64 (j : Int)) := HR1.out.cell 3
  have K0 := Lib.hid (show w1.cell? ⟨R, 1, none⟩ = some (.slice (some ad) n nc) ∧ w1.cell? ⟨R, 3, none⟩ = some (.int .i64 (j : Int)) ∧ w1.cell? (ad.add (j * 8)) = some (.int .i64 t.k) ∧ w1.cell? ⟨(ad.add (j * 8)).block, (ad.add (j * 8)).off + 1, none⟩ = some (.int .i64 t.n) ∧ w1.cell? ⟨(ad.add (j * 8)).block, (ad.add (j * 8)).off + 2, none⟩ = some (.int .i64 t.i) ∧ w1.cell? ⟨(ad.add (j * 8)).block, (ad.add (j * 8)).off + 3, none⟩ = some (.int .u64 t.b) ∧ w1.cell? ⟨(ad.add (j * 8)).block, (ad.add (j * 8)).off + 4, none⟩ = some (.string ⟨t.t.toArray⟩) ∧ w1.cell? ⟨(ad.add (j * 8)).block, (ad.add (j * 8)).off + 5, none⟩ = some (.slice VA vl vc) ∧ w1.cell? ⟨(ad.add (j * 8)).block, (ad.add (j * 8)).off + 6, none⟩ = some (.slice KA kl kc) ∧ w1.cell? ⟨(ad.add (j * 8)).block, (ad.add (j * 8)).off + 7, none⟩ = some (.slice AA al ac) from ⟨s1, s3, HN1.out⟩)
  have K0d := Lib.hid (show w1.drew.cell? ⟨R, 1, none⟩ = some (.slice (some ad) n nc) ∧ w1.drew.cell? ⟨R, 3, none⟩ = some (.int .i64 (j : Int)) ∧ w1.drew.cell? (ad.add (j * 8)) = some (.int .i64 t.k) ∧ w1.drew.cell? ⟨(ad.add (j * 8)).block, (ad.add (j * 8)).off + 1, none⟩ = some (.int .i64 t.n) ∧ w1.drew.cell? ⟨(ad.add (j * 8)).block, (ad.add (j * 8)).off + 2, none⟩ = some (.int .i64 t.i) ∧ w1.drew.cell? ⟨(ad.add (j * 8)).block, (ad.add (j * 8)).off + 3, none⟩ = some (.int .u64 t.b) ∧ w1.drew.cell? ⟨(ad.add (j * 8)).block, (ad.add (j * 8)).off + 4, none⟩ = some (.string ⟨t.t.toArray⟩) ∧ w1.drew.cell? ⟨(ad.add (j * 8)).block, (ad.add (j * 8)).off + 5, none⟩ = some (.slice VA vl vc) ∧ w1.drew.cell? ⟨(ad.add (j * 8)).block, (ad.add (j * 8)).off + 6, none⟩ = some (.slice KA kl kc) ∧ w1.drew.cell? ⟨(ad.add (j * 8)).block, (ad.add (j * 8)).off + 7, none⟩ = some (.slice AA al ac) from K0.out)
  have K1 := Lib.hid (fun o => show (w1.alloc o).drew.cell? ⟨R, 1, none⟩ = some (.slice (some ad) n nc) ∧ (w1.alloc o).drew.cell? ⟨R, 3, none⟩ = some (.int .i64 (j : Int)) ∧ (w1.alloc o).drew.cell? (ad.add (j * 8)) = some (.int .i64 t.k) ∧ (w1.alloc o).drew.cell? ⟨(ad.add (j * 8)).block, (ad.add (j * 8)).off + 1, none⟩ = some (.int .i64 t.n) ∧ (w1.alloc o).drew.cell? ⟨(ad.add (j * 8)).block, (ad.add (j * 8)).off + 2, none⟩ = some (.int .i64 t.i) ∧ (w1.alloc o).drew.cell? ⟨(ad.add (j * 8)).block, (ad.add (j * 8)).off + 3, none⟩ = some (.int .u64 t.b) ∧ (w1.alloc o).drew.cell? ⟨(ad.add (j * 8)).block, (ad.add (j * 8)).off + 4, none⟩ = some (.string ⟨t.t.toArray⟩) ∧ (w1.alloc o).drew.cell? ⟨(ad.add (j * 8)).block, (ad.add (j * 8)).off + 5, none⟩ = some (.slice VA vl vc) ∧ (w1.alloc o).drew.cell? ⟨(ad.add (j * 8)).block, (ad.add (j * 8)).off + 6, none⟩ = some (.slice KA kl kc) ∧ (w1.alloc o).drew.cell? ⟨(ad.add (j * 8)).block, (ad.add (j * 8)).off + 7, none⟩ = some (.slice AA al ac) from ⟨((Only.refl [] w1).alloc o).drew.cell (by simp) s1, ((Only.refl [] w1).alloc o).drew.cell (by simp) s3, HN1.out.only ((Only.refl [] w1).alloc o).drew (by simp)⟩)
  clear hm1 ho1 r0 s1 s3
  go_region_held3 (fun w' => w'.cell? ⟨R, 1, none⟩ = some (.slice (some ad) n nc) ∧ w'.cell? ⟨R, 3, none⟩ = some (.int .i64 (j : Int)) ∧ w'.cell? (ad.add (j * 8)) = some (.int .i64 t.k) ∧ w'.cell? ⟨(ad.add (j * 8)).block, (ad.add (j * 8)).off + 1, none⟩ = some (.int .i64 t.n) ∧ w'.cell? ⟨(ad.add (j * 8)).block, (ad.add (j * 8)).off + 2, none⟩ = some (.int .i64 t.i) ∧ w'.cell? ⟨(ad.add (j * 8)).block, (ad.add (j * 8)).off + 3, none⟩ = some (.int .u64 t.b) ∧ w'.cell? ⟨(ad.add (j * 8)).block, (ad.add (j * 8)).off + 4, none⟩ = some (.string ⟨t.t.toArray⟩) ∧ w'.cell? ⟨(ad.add (j * 8)).block, (ad.add (j * 8)).off + 5, none⟩ = some (.slice VA vl vc) ∧ w'.cell? ⟨(ad.add (j * 8)).block, (ad.add (j * 8)).off + 6, none⟩ = some (.slice KA kl kc) ∧ w'.cell? ⟨(ad.add (j * 8)).block, (ad.add (j * 8)).off + 7, none⟩ = some (.slice AA al ac)) (first | with_reducible exact K0d.out | with_reducible exact K1.out _ | go_keep) (fail)
  obtain ⟨W2, hW2⟩ : ∃ W2, (w1.alloc (.cells #[.int .i64 t.k, .int .i64 t.n, .int .i64 t.i, .int .u64 t.b, .string ⟨t.t.toArray⟩, .slice VA vl vc, .slice KA kl kc, .slice AA al ac] 42)).drew = W2 := ⟨_, rfl⟩
  have HO2 := Lib.hid (show Only [] w1 W2 by rw [← hW2]; exact ((Only.refl [] w1).alloc _).drew)
  have HT2 := Lib.hid (show Blk W2 w1.heap.size 42 #[.int .i64 t.k, .int .i64 t.n, .int .i64 t.i, .int .u64 t.b, .string ⟨t.t.toArray⟩, .slice VA vl vc, .slice KA kl kc, .slice AA al ac] by rw [← hW2]; exact (Blk.new _ _ _).drew)
  have HR2 := Lib.hid (HR1.out.only HO2.out (by simp))
  have HM2 := Lib.hid (HM1.out.only HO2.out (by simp))
  have HOA := Lib.hid ((HO1.out.mono (cs := [R, M]) (by simp)).trans (HO2.out.mono (by simp)))
  have c0 : W2.cell? ⟨w1.heap.size, 0, none⟩ = some (.int .i64 t.k) := HT2.out.cell 0
  have c1 : W2.cell? ⟨w1.heap.size, 1, none⟩ = some (.int .i64 t.n) := HT2.out.cell 1
  have c4 : W2.cell? ⟨w1.heap.size, 4, none⟩ = some (.string ⟨t.t.toArray⟩) := HT2.out.cell 4
  have c7 : W2.cell? ⟨w1.heap.size, 7, none⟩ = some (.slice AA al ac) := HT2.out.cell 7
  have hwz := HO2.out.size
  have hw0 := HO1.out.size
  have hrl := HR2.out.lt
  have hml := HM2.out.lt
  rw [hW2]
  clear hW2
  have r3 : W2.drew.cell? ⟨R, 3, none⟩ = some (.int .i64 (j : Int)) := HR2.out.cell 3
  have r4 : W2.drew.cell? ⟨R, 4, none⟩ = some (.pointer EA) := HR2.out.cell 4
  have HR3 := Lib.hid (fun o => (HR2.out.alloc o).drew)
  have HM3 := Lib.hid (fun o => (HM2.out.alloc o).drew)
  go_upto_region 19 with fail
  go_region_with (first
    | (go_at_call 58; ((with_reducible refine (come_any R M (.slice (some ad) n nc) stk (.pointer EA) val (.pointer (some ⟨W2.heap.size, 0, none⟩)) 110 (j : Int) up _ (HR3.out _)).mono ?_); rintro e w3 ⟨rfl, h3, o3⟩; have H3 := Lib.hid h3; have O3 := Lib.hid o3; clear h3 o3)))
  all_goals
    go_wp2_with fail
    first | go_end0 | refine bodyPost_ret (results_none rfl _ _ _) rfl ?_
    refine ⟨rfl, W2.heap.size, by omega, ?_, H3.out, (HM3.out _).only O3.out (fun h => hRM (List.mem_singleton.1 h).symm), ((HOA.out.alloc _).drew).trans (O3.out.mono (by simp))⟩
    exact Blk.only (Blk.drew (Blk.new W2 _ _)) O3.out (fun h => by have := List.mem_singleton.1 h; omega)

set_option maxRecDepth 100000 in
set_option maxHeartbeats 8000000 in
theorem begin_var (t : Tm) (VA : Option Addr) (vl vc : Nat) (KA : Option Addr) (kl kc : Nat) (AA : Option Addr) (al ac : Nat) (R M n nc j : Nat) (ad : Addr) (stk val out dv : Value) (up : Bool) (EA : Option Addr) (steps fuel : Int) (w : World) (hk : t.k = 1)
    (hR : Blk w R 83 (RC M (.slice (some ad) n nc) stk (j : Int) (.pointer EA) val up)) (hM : Blk w M 97 (MC out steps fuel dv)) (hst : steps < fuel) (hst0 : 0 ≤ steps) (hfu : fuel ≤ 1073741824) (hj : j < n) (_hnn : n ≤ 1300000000000)
    (hN : Nd w ad j t VA vl vc KA kl kc AA al ac) (haM : ad.block ≠ M) (_haR : ad.block ≠ R) (hRM : R ≠ M) (sc : Nat) (ti : TypeId) (x xo : Value) (hEA : EA = some ⟨sc, 0, none⟩) (hS : Blk w sc 121 #[.int .i64 t.n, .iface ti x, xo]) (_hsR : sc ≠ R) (hsM : sc ≠ M) :
    Calls Tryz.prog 43 #[runV R] w fun e w' => e = .returned (.tuple #[]) ∧ Blk w' R 83 (RC M (.slice (some ad) n nc) stk (-1) (.pointer EA) (.iface ti x) false) ∧ Blk w' M 97 (MC out (steps + 1) fuel dv) ∧ Only [R, M] w w' := by
  subst hEA
  have HSC := Lib.hid hS
  clear hS
  have q1 := b_true (show t.k = 1 by omega)
  have HST := Lib.hid (step_ok M out dv steps fuel w hst hst0 hfu hM)
  have r0 : w.cell? ⟨R, 0, none⟩ = some (.pointer (some ⟨M, 0, none⟩)) := hR.cell 0
  have HR := Lib.hid hR
  have HN := Lib.hid hN
  have hjn : (j : Int) < (n : Int) := by omega
  clear hM hR hN hst hst0 hfu hk
  go_enter Tryz.func43, Tryz.ntmps43
  go_upto_region 1 with (go_at_call 55; ((with_reducible refine (HST.out).mono ?_); rintro e w1 ⟨rfl, hm1, ho1⟩))
  have HM1 := Lib.hid hm1
  have HO1 := Lib.hid ho1
  have HR1 := Lib.hid (HR.out.only ho1 (fun h => hRM (List.mem_singleton.1 h)))
  have HN1 := Lib.hid (HN.out.only ho1 (fun h => haM (List.mem_singleton.1 h)))
  have s1 : w1.cell? ⟨R, 1, none⟩ = some (.slice (some ad) n nc) := HR1.out.cell 1
  have s3 : w1.cell? ⟨R, 3, none⟩ = some (.int .i64 (j : Int)) := HR1.out.cell 3
  have K0 := Lib.hid (show w1.cell? ⟨R, 1, none⟩ = some (.slice (some ad) n nc) ∧ w1.cell? ⟨R, 3, none⟩ = some (.int .i64 (j : Int)) ∧ w1.cell? (ad.add (j * 8)) = some (.int .i64 t.k) ∧ w1.cell? ⟨(ad.add (j * 8)).block, (ad.add (j * 8)).off + 1, none⟩ = some (.int .i64 t.n) ∧ w1.cell? ⟨(ad.add (j * 8)).block, (ad.add (j * 8)).off + 2, none⟩ = some (.int .i64 t.i) ∧ w1.cell? ⟨(ad.add (j * 8)).block, (ad.add (j * 8)).off + 3, none⟩ = some (.int .u64 t.b) ∧ w1.cell? ⟨(ad.add (j * 8)).block, (ad.add (j * 8)).off + 4, none⟩ = some (.string ⟨t.t.toArray⟩) ∧ w1.cell? ⟨(ad.add (j * 8)).block, (ad.add (j * 8)).off + 5, none⟩ = some (.slice VA vl vc) ∧ w1.cell? ⟨(ad.add (j * 8)).block, (ad.add (j * 8)).off + 6, none⟩ = some (.slice KA kl kc) ∧ w1.cell? ⟨(ad.add (j * 8)).block, (ad.add (j * 8)).off + 7, none⟩ = some (.slice AA al ac) from ⟨s1, s3, HN1.out⟩)
  have K0d := Lib.hid (show w1.drew.cell? ⟨R, 1, none⟩ = some (.slice (some ad) n nc) ∧ w1.drew.cell? ⟨R, 3, none⟩ = some (.int .i64 (j : Int)) ∧ w1.drew.cell? (ad.add (j * 8)) = some (.int .i64 t.k) ∧ w1.drew.cell? ⟨(ad.add (j * 8)).block, (ad.add (j * 8)).off + 1, none⟩ = some (.int .i64 t.n) ∧ w1.drew.cell? ⟨(ad.add (j * 8)).block, (ad.add (j * 8)).off + 2, none⟩ = some (.int .i64 t.i) ∧ w1.drew.cell? ⟨(ad.add (j * 8)).block, (ad.add (j * 8)).off + 3, none⟩ = some (.int .u64 t.b) ∧ w1.drew.cell? ⟨(ad.add (j * 8)).block, (ad.add (j * 8)).off + 4, none⟩ = some (.string ⟨t.t.toArray⟩) ∧ w1.drew.cell? ⟨(ad.add (j * 8)).block, (ad.add (j * 8)).off + 5, none⟩ = some (.slice VA vl vc) ∧ w1.drew.cell? ⟨(ad.add (j * 8)).block, (ad.add (j * 8)).off + 6, none⟩ = some (.slice KA kl kc) ∧ w1.drew.cell? ⟨(ad.add (j * 8)).block, (ad.add (j * 8)).off + 7, none⟩ = some (.slice AA al ac) from K0.out)
  have K1 := Lib.hid (fun o => show (w1.alloc o).drew.cell? ⟨R, 1, none⟩ = some (.slice (some ad) n nc) ∧ (w1.alloc o).drew.cell? ⟨R, 3, none⟩ = some (.int .i64 (j : Int)) ∧ (w1.alloc o).drew.cell? (ad.add (j * 8)) = some (.int .i64 t.k) ∧ (w1.alloc o).drew.cell? ⟨(ad.add (j * 8)).block, (ad.add (j * 8)).off + 1, none⟩ = some (.int .i64 t.n) ∧ (w1.alloc o).drew.cell? ⟨(ad.add (j * 8)).block, (ad.add (j * 8)).off + 2, none⟩ = some (.int .i64 t.i) ∧ (w1.alloc o).drew.cell? ⟨(ad.add (j * 8)).block, (ad.add (j * 8)).off + 3, none⟩ = some (.int .u64 t.b) ∧ (w1.alloc o).drew.cell? ⟨(ad.add (j * 8)).block, (ad.add (j * 8)).off + 4, none⟩ = some (.string ⟨t.t.toArray⟩) ∧ (w1.alloc o).drew.cell? ⟨(ad.add (j * 8)).block, (ad.add (j * 8)).off + 5, none⟩ = some (.slice VA vl vc) ∧ (w1.alloc o).drew.cell? ⟨(ad.add (j * 8)).block, (ad.add (j * 8)).off + 6, none⟩ = some (.slice KA kl kc) ∧ (w1.alloc o).drew.cell? ⟨(ad.add (j * 8)).block, (ad.add (j * 8)).off + 7, none⟩ = some (.slice AA al ac) from ⟨((Only.refl [] w1).alloc o).drew.cell (by simp) s1, ((Only.refl [] w1).alloc o).drew.cell (by simp) s3, HN1.out.only ((Only.refl [] w1).alloc o).drew (by simp)⟩)
  clear hm1 ho1 r0 s1 s3
  go_region_held3 (fun w' => w'.cell? ⟨R, 1, none⟩ = some (.slice (some ad) n nc) ∧ w'.cell? ⟨R, 3, none⟩ = some (.int .i64 (j : Int)) ∧ w'.cell? (ad.add (j * 8)) = some (.int .i64 t.k) ∧ w'.cell? ⟨(ad.add (j * 8)).block, (ad.add (j * 8)).off + 1, none⟩ = some (.int .i64 t.n) ∧ w'.cell? ⟨(ad.add (j * 8)).block, (ad.add (j * 8)).off + 2, none⟩ = some (.int .i64 t.i) ∧ w'.cell? ⟨(ad.add (j * 8)).block, (ad.add (j * 8)).off + 3, none⟩ = some (.int .u64 t.b) ∧ w'.cell? ⟨(ad.add (j * 8)).block, (ad.add (j * 8)).off + 4, none⟩ = some (.string ⟨t.t.toArray⟩) ∧ w'.cell? ⟨(ad.add (j * 8)).block, (ad.add (j * 8)).off + 5, none⟩ = some (.slice VA vl vc) ∧ w'.cell? ⟨(ad.add (j * 8)).block, (ad.add (j * 8)).off + 6, none⟩ = some (.slice KA kl kc) ∧ w'.cell? ⟨(ad.add (j * 8)).block, (ad.add (j * 8)).off + 7, none⟩ = some (.slice AA al ac)) (first | with_reducible exact K0d.out | with_reducible exact K1.out _ | go_keep) (fail)
  obtain ⟨W2, hW2⟩ : ∃ W2, (w1.alloc (.cells #[.int .i64 t.k, .int .i64 t.n, .int .i64 t.i, .int .u64 t.b, .string ⟨t.t.toArray⟩, .slice VA vl vc, .slice KA kl kc, .slice AA al ac] 42)).drew = W2 := ⟨_, rfl⟩
  have HO2 := Lib.hid (show Only [] w1 W2 by rw [← hW2]; exact ((Only.refl [] w1).alloc _).drew)
  have HT2 := Lib.hid (show Blk W2 w1.heap.size 42 #[.int .i64 t.k, .int .i64 t.n, .int .i64 t.i, .int .u64 t.b, .string ⟨t.t.toArray⟩, .slice VA vl vc, .slice KA kl kc, .slice AA al ac] by rw [← hW2]; exact (Blk.new _ _ _).drew)
  have HR2 := Lib.hid (HR1.out.only HO2.out (by simp))
  have HM2 := Lib.hid (HM1.out.only HO2.out (by simp))
  have HOA := Lib.hid ((HO1.out.mono (cs := [R, M]) (by simp)).trans (HO2.out.mono (by simp)))
  have c0 : W2.cell? ⟨w1.heap.size, 0, none⟩ = some (.int .i64 t.k) := HT2.out.cell 0
  have c1 : W2.cell? ⟨w1.heap.size, 1, none⟩ = some (.int .i64 t.n) := HT2.out.cell 1
  have c4 : W2.cell? ⟨w1.heap.size, 4, none⟩ = some (.string ⟨t.t.toArray⟩) := HT2.out.cell 4
  have c7 : W2.cell? ⟨w1.heap.size, 7, none⟩ = some (.slice AA al ac) := HT2.out.cell 7
  have hwz := HO2.out.size
  have hw0 := HO1.out.size
  have hrl := HR2.out.lt
  have hml := HM2.out.lt
  rw [hW2]
  clear hW2
  have HSC2 := Lib.hid ((HSC.out.only HO1.out (fun h => hsM (List.mem_singleton.1 h))).only HO2.out (by simp))
  have HFI := Lib.hid (find_one sc t.n ti x xo W2.drew HSC2.out.drew)
  have r4 : W2.drew.cell? ⟨R, 4, none⟩ = some (.pointer (some ⟨sc, 0, none⟩)) := HR2.out.cell 4
  have c1d : W2.drew.cell? ⟨w1.heap.size, 1, none⟩ = some (.int .i64 t.n) := c1
  have K2 := Lib.hid (show W2.drew.cell? ⟨R, 4, none⟩ = some (.pointer (some ⟨sc, 0, none⟩)) ∧ W2.drew.cell? ⟨w1.heap.size, 1, none⟩ = some (.int .i64 t.n) from ⟨r4, c1d⟩)
  go_upto_region 8 with fail
  go_region_held3 (fun w' => w'.cell? ⟨R, 4, none⟩ = some (.pointer (some ⟨sc, 0, none⟩)) ∧ w'.cell? ⟨w1.heap.size, 1, none⟩ = some (.int .i64 t.n)) (first | with_reducible exact K2.out | go_keep)
    (first | (go_at_call 56; ((with_reducible refine (HFI.out).mono ?_); rintro e w' ⟨rfl, rfl⟩)))
  go_wp2_with (go_at_call 58; ((with_reducible refine (come_any R M (.slice (some ad) n nc) stk (.pointer (some ⟨sc, 0, none⟩)) val (x) ti (j : Int) up _ (HR2.out.drew)).mono ?_); rintro e w3 ⟨rfl, h3, o3⟩; have H3 := Lib.hid h3; have O3 := Lib.hid o3; clear h3 o3))
  first | go_end0 | refine bodyPost_ret (results_none rfl _ _ _) rfl ?_
  exact ⟨rfl, H3.out, HM2.out.drew.only O3.out (fun h => hRM (List.mem_singleton.1 h).symm), (HOA.out.drew).trans (O3.out.mono (by simp))⟩

end Go.Proofs.YtmedfpejfpdpdaaGreatDoor
