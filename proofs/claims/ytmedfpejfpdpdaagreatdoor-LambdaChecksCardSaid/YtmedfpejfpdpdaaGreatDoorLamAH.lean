/- Lambda: the runner begins a node whose parts are still to be done. -/
import Derived.Test.YtmedfpejfpdpdaaGreatDoorLamAG
import Derived.Deep.RegionLaw
namespace Go.Proofs.YtmedfpejfpdpdaaGreatDoor
open Go.RowKit LamM Go.Maps

theorem infoFr : (Tryz.prog.info? 117).map (fun i => (i.zero, i.size, i.bytes)) = some (some (.agg #[.int .i64 0, .slice none 0 0, .pointer none]), 3, 40) := by kernel_rfl
theorem undFr : Tryz.prog.underlying 79 = some (.slice 117) := by kernel_rfl
theorem own_row {w : World} {base size : Nat} {e : TypeId} {v : Value} {n : Nat} {xs : List Value} (h : w.ownsRow base e size v (n + 1) xs) : ∃ g c, v = .slice (some ⟨g, 0, none⟩) (n + 1) c ∧ base ≤ g := by
  rcases h.2 with ⟨_, h0⟩ | ⟨g, cap, cur, rfl, hb, _⟩
  · cases h0
  · exact ⟨g, cap, rfl, hb⟩

set_option maxRecDepth 100000 in
set_option maxHeartbeats 8000000 in
theorem begin_push (t : Tm) (VA : Option Addr) (vl vc : Nat) (KA : Option Addr) (kl kc : Nat) (AA : Option Addr) (al ac : Nat) (R M n nc j : Nat) (ad : Addr) (stk val out dv : Value) (up : Bool) (EA : Option Addr) (steps fuel : Int) (w : World) (hk : t.k ≠ 1 ∧ t.k ≠ 2 ∧ t.k ≠ 3 ∧ t.k ≠ 4 ∧ t.k ≠ 8 ∧ t.k ≠ 11)
    (hR : Blk w R 83 (RC M (.slice (some ad) n nc) stk (j : Int) (.pointer EA) val up)) (hM : Blk w M 97 (MC out steps fuel dv)) (hst : steps < fuel) (hst0 : 0 ≤ steps) (hfu : fuel ≤ 1073741824) (hj : j < n) (_hnn : n ≤ 1300000000000)
    (hN : Nd w ad j t VA vl vc KA kl kc AA al ac) (haM : ad.block ≠ M) (haR : ad.block ≠ R) (hRM : R ≠ M) (G P1 sn sc : Nat) (SA : Option Addr) (aA : Addr) (a : Int) (hstk : stk = .slice SA sn sc) (hO : w.ownsRow P1 117 3 stk 0 []) (hG : ∀ k, stk.ownBlock = some k → k = G) (hP1 : P1 ≤ w.heap.size) (hAA : AA = some aA) (hal : 0 < al) (hcA : w.cell? aA = some (.int .i64 a)) (hbA : aA.block ∉ [R, M, G]) (hGR : G ≠ R) (hGM : G ≠ M) (hGw : G < w.heap.size) (hRP : R < P1 ∧ M < P1 ∧ aA.block < P1) :
    Calls Tryz.prog 43 #[runV R] w fun e w' => e = .returned (.tuple #[]) ∧ ∃ g c, P1 ≤ g ∧ w'.ownsRow P1 117 3 (.slice (some ⟨g, 0, none⟩) 1 c) 1 [.int .i64 (j : Int), .slice none 0 0, .pointer EA] ∧ Blk w' R 83 (RC M (.slice (some ad) n nc) (.slice (some ⟨g, 0, none⟩) 1 c) a (.pointer EA) val up) ∧ Blk w' M 97 (MC out (steps + 1) fuel dv) ∧ Only [R, M, G] w w' := by
  subst hAA
  subst hstk
  obtain ⟨i0, hi0, hz0, hz1, hz2⟩ := info_parts infoFr
  have HO := Lib.hid hO
  have HG := Lib.hid hG
  have HCA := Lib.hid hcA
  have HBA := Lib.hid hbA
  have hal1 : (0 : Int) < (al : Int) := by omega
  have hal2 := b_false (show (al : Int) ≠ 0 by omega)
  obtain ⟨hRP, hMP, hAP⟩ := hRP
  have q1 := b_false (show t.k ≠ 1 by omega)
  have q2 := b_false (show t.k ≠ 2 by omega)
  have q3 := b_false (show t.k ≠ 3 by omega)
  have q4 := b_false (show t.k ≠ 4 by omega)
  have q8 := b_false (show t.k ≠ 8 by omega)
  have q11 := b_false (show t.k ≠ 11 by omega)
  have HST := Lib.hid (step_ok M out dv steps fuel w hst hst0 hfu hM)
  have r0 : w.cell? ⟨R, 0, none⟩ = some (.pointer (some ⟨M, 0, none⟩)) := hR.cell 0
  have HR := Lib.hid hR
  have HN := Lib.hid hN
  have hjn : (j : Int) < (n : Int) := by omega
  clear hM hR hN hst hst0 hfu hk hO hG hcA hbA
  go_enter Tryz.func43, Tryz.ntmps43
  go_upto_region 1 with (go_at_call 55; ((with_reducible refine (HST.out).mono ?_); rintro e w1 ⟨rfl, hm1, ho1⟩))
  have HM1 := Lib.hid hm1
  have HO1 := Lib.hid ho1
  have HR1 := Lib.hid (HR.out.only ho1 (fun h => hRM (List.mem_singleton.1 h)))
  have HN1 := Lib.hid (HN.out.only ho1 (fun h => haM (List.mem_singleton.1 h)))
  have s1 : w1.cell? ⟨R, 1, none⟩ = some (.slice (some ad) n nc) := HR1.out.cell 1
  have s3 : w1.cell? ⟨R, 3, none⟩ = some (.int .i64 (j : Int)) := HR1.out.cell 3
  have K0 := Lib.hid (show w1.cell? ⟨R, 1, none⟩ = some (.slice (some ad) n nc) ∧ w1.cell? ⟨R, 3, none⟩ = some (.int .i64 (j : Int)) ∧ w1.cell? (ad.add (j * 8)) = some (.int .i64 t.k) ∧ w1.cell? ⟨(ad.add (j * 8)).block, (ad.add (j * 8)).off + 1, none⟩ = some (.int .i64 t.n) ∧ w1.cell? ⟨(ad.add (j * 8)).block, (ad.add (j * 8)).off + 2, none⟩ = some (.int .i64 t.i) ∧ w1.cell? ⟨(ad.add (j * 8)).block, (ad.add (j * 8)).off + 3, none⟩ = some (.int .u64 t.b) ∧ w1.cell? ⟨(ad.add (j * 8)).block, (ad.add (j * 8)).off + 4, none⟩ = some (.string ⟨t.t.toArray⟩) ∧ w1.cell? ⟨(ad.add (j * 8)).block, (ad.add (j * 8)).off + 5, none⟩ = some (.slice VA vl vc) ∧ w1.cell? ⟨(ad.add (j * 8)).block, (ad.add (j * 8)).off + 6, none⟩ = some (.slice KA kl kc) ∧ w1.cell? ⟨(ad.add (j * 8)).block, (ad.add (j * 8)).off + 7, none⟩ = some (.slice (some aA) al ac) from ⟨s1, s3, HN1.out⟩)
  have K0d := Lib.hid (show w1.drew.cell? ⟨R, 1, none⟩ = some (.slice (some ad) n nc) ∧ w1.drew.cell? ⟨R, 3, none⟩ = some (.int .i64 (j : Int)) ∧ w1.drew.cell? (ad.add (j * 8)) = some (.int .i64 t.k) ∧ w1.drew.cell? ⟨(ad.add (j * 8)).block, (ad.add (j * 8)).off + 1, none⟩ = some (.int .i64 t.n) ∧ w1.drew.cell? ⟨(ad.add (j * 8)).block, (ad.add (j * 8)).off + 2, none⟩ = some (.int .i64 t.i) ∧ w1.drew.cell? ⟨(ad.add (j * 8)).block, (ad.add (j * 8)).off + 3, none⟩ = some (.int .u64 t.b) ∧ w1.drew.cell? ⟨(ad.add (j * 8)).block, (ad.add (j * 8)).off + 4, none⟩ = some (.string ⟨t.t.toArray⟩) ∧ w1.drew.cell? ⟨(ad.add (j * 8)).block, (ad.add (j * 8)).off + 5, none⟩ = some (.slice VA vl vc) ∧ w1.drew.cell? ⟨(ad.add (j * 8)).block, (ad.add (j * 8)).off + 6, none⟩ = some (.slice KA kl kc) ∧ w1.drew.cell? ⟨(ad.add (j * 8)).block, (ad.add (j * 8)).off + 7, none⟩ = some (.slice (some aA) al ac) from K0.out)
  have K1 := Lib.hid (fun o => show (w1.alloc o).drew.cell? ⟨R, 1, none⟩ = some (.slice (some ad) n nc) ∧ (w1.alloc o).drew.cell? ⟨R, 3, none⟩ = some (.int .i64 (j : Int)) ∧ (w1.alloc o).drew.cell? (ad.add (j * 8)) = some (.int .i64 t.k) ∧ (w1.alloc o).drew.cell? ⟨(ad.add (j * 8)).block, (ad.add (j * 8)).off + 1, none⟩ = some (.int .i64 t.n) ∧ (w1.alloc o).drew.cell? ⟨(ad.add (j * 8)).block, (ad.add (j * 8)).off + 2, none⟩ = some (.int .i64 t.i) ∧ (w1.alloc o).drew.cell? ⟨(ad.add (j * 8)).block, (ad.add (j * 8)).off + 3, none⟩ = some (.int .u64 t.b) ∧ (w1.alloc o).drew.cell? ⟨(ad.add (j * 8)).block, (ad.add (j * 8)).off + 4, none⟩ = some (.string ⟨t.t.toArray⟩) ∧ (w1.alloc o).drew.cell? ⟨(ad.add (j * 8)).block, (ad.add (j * 8)).off + 5, none⟩ = some (.slice VA vl vc) ∧ (w1.alloc o).drew.cell? ⟨(ad.add (j * 8)).block, (ad.add (j * 8)).off + 6, none⟩ = some (.slice KA kl kc) ∧ (w1.alloc o).drew.cell? ⟨(ad.add (j * 8)).block, (ad.add (j * 8)).off + 7, none⟩ = some (.slice (some aA) al ac) from ⟨((Only.refl [] w1).alloc o).drew.cell (by simp) s1, ((Only.refl [] w1).alloc o).drew.cell (by simp) s3, HN1.out.only ((Only.refl [] w1).alloc o).drew (by simp)⟩)
  clear hm1 ho1 r0 s1 s3
  go_region_held3 (fun w' => w'.cell? ⟨R, 1, none⟩ = some (.slice (some ad) n nc) ∧ w'.cell? ⟨R, 3, none⟩ = some (.int .i64 (j : Int)) ∧ w'.cell? (ad.add (j * 8)) = some (.int .i64 t.k) ∧ w'.cell? ⟨(ad.add (j * 8)).block, (ad.add (j * 8)).off + 1, none⟩ = some (.int .i64 t.n) ∧ w'.cell? ⟨(ad.add (j * 8)).block, (ad.add (j * 8)).off + 2, none⟩ = some (.int .i64 t.i) ∧ w'.cell? ⟨(ad.add (j * 8)).block, (ad.add (j * 8)).off + 3, none⟩ = some (.int .u64 t.b) ∧ w'.cell? ⟨(ad.add (j * 8)).block, (ad.add (j * 8)).off + 4, none⟩ = some (.string ⟨t.t.toArray⟩) ∧ w'.cell? ⟨(ad.add (j * 8)).block, (ad.add (j * 8)).off + 5, none⟩ = some (.slice VA vl vc) ∧ w'.cell? ⟨(ad.add (j * 8)).block, (ad.add (j * 8)).off + 6, none⟩ = some (.slice KA kl kc) ∧ w'.cell? ⟨(ad.add (j * 8)).block, (ad.add (j * 8)).off + 7, none⟩ = some (.slice (some aA) al ac)) (first | with_reducible exact K0d.out | with_reducible exact K1.out _ | go_keep) (fail)
  obtain ⟨W2, hW2⟩ : ∃ W2, (w1.alloc (.cells #[.int .i64 t.k, .int .i64 t.n, .int .i64 t.i, .int .u64 t.b, .string ⟨t.t.toArray⟩, .slice VA vl vc, .slice KA kl kc, .slice (some aA) al ac] 42)).drew = W2 := ⟨_, rfl⟩
  have HO2 := Lib.hid (show Only [] w1 W2 by rw [← hW2]; exact ((Only.refl [] w1).alloc _).drew)
  have HT2 := Lib.hid (show Blk W2 w1.heap.size 42 #[.int .i64 t.k, .int .i64 t.n, .int .i64 t.i, .int .u64 t.b, .string ⟨t.t.toArray⟩, .slice VA vl vc, .slice KA kl kc, .slice (some aA) al ac] by rw [← hW2]; exact (Blk.new _ _ _).drew)
  have HR2 := Lib.hid (HR1.out.only HO2.out (by simp))
  have HM2 := Lib.hid (HM1.out.only HO2.out (by simp))
  have HOA := Lib.hid ((HO1.out.mono (cs := [R, M]) (by simp)).trans (HO2.out.mono (by simp)))
  have c0 : W2.cell? ⟨w1.heap.size, 0, none⟩ = some (.int .i64 t.k) := HT2.out.cell 0
  have c1 : W2.cell? ⟨w1.heap.size, 1, none⟩ = some (.int .i64 t.n) := HT2.out.cell 1
  have c4 : W2.cell? ⟨w1.heap.size, 4, none⟩ = some (.string ⟨t.t.toArray⟩) := HT2.out.cell 4
  have c7 : W2.cell? ⟨w1.heap.size, 7, none⟩ = some (.slice (some aA) al ac) := HT2.out.cell 7
  have hwz := HO2.out.size
  have hw0 := HO1.out.size
  have hrl := HR2.out.lt
  have hml := HM2.out.lt
  rw [hW2]
  clear hW2
  have HRD := Lib.hid (HR2.out.drew)
  have r2 : W2.drew.cell? ⟨R, 2, none⟩ = some (.slice SA sn sc) := HR2.out.cell 2
  have r3 : W2.drew.cell? ⟨R, 3, none⟩ = some (.int .i64 (j : Int)) := HR2.out.cell 3
  have r4 : W2.drew.cell? ⟨R, 4, none⟩ = some (.pointer EA) := HR2.out.cell 4
  have r2a : (W2.alloc (.cells #[.int .i64 (j : Int), .slice none 0 0, .pointer EA] 117)).drew.cell? ⟨R, 2, none⟩ = some (.slice SA sn sc) := (HR2.out.alloc _).drew.cell 2
  have HOW := Lib.hid (ownsRow_only (ownsRow_only HO.out HO1.out (fun k hk => by rw [HG.out k hk]; exact fun h => hGM (List.mem_singleton.1 h))) HO2.out (by simp))
  have HP1 := Lib.hid (show P1 ≤ W2.drew.heap.size by show P1 ≤ W2.heap.size; omega)
  go_upto_region 5 with fail
  go_region_law (first
    | (refine step_append_any _ rfl _ _ 79 rfl P1 117 i0 _ 3 40 undFr hi0 hz0 hz1 hz2 rfl (by decide) _ 0 [] rfl (World.ownsRow.drew (World.ownsRow.alloc HOW.out _)) _ _ _ _ [_, _, _] rfl (Reads.blk' (Blk.drew (Blk.new _ _ _)) rfl) (by simp [Value.oneCell']) (by unfold maxLen; omega) (by omega) (by have := HP1.out; show P1 ≤ (W2.alloc _).heap.size; simp; exact Nat.le_succ_of_le this) ?_; intro v2 w5 hown5 hgrow5 hor5; obtain ⟨g, c, hv, hgP⟩ := own_row hown5; subst hv; have HOR := Lib.hid (hown5); have HGP := Lib.hid hgP; have HG5 := Lib.hid (((Only.refl [G] W2).alloc (.cells #[.int .i64 (j : Int), .slice none 0 0, .pointer EA] 117)).drew.grown hgrow5 (fun k hk => .inl (by rw [HG.out k hk]; simp))); have HR5 := Lib.hid (HR2.out.only HG5.out (fun h => hGR (List.mem_singleton.1 h).symm)); have c5 : w5.cell? ⟨R, 2, none⟩ = some (.slice SA sn sc) := HR5.out.cell 2; have f5 := HR5.out.frozen 2; clear hown5 hgrow5 hor5 hgP)
    | fail)
  all_goals
    obtain ⟨W6, hW6⟩ : ∃ W6, w5.setCell ⟨R, 2, none⟩ (.slice (some ⟨g, 0, none⟩) 1 c) = W6 := ⟨_, rfl⟩
    have hR6 : Blk W6 R 83 (RC M (.slice (some ad) n nc) (.slice (some ⟨g, 0, none⟩) 1 c) (j : Int) (.pointer EA) val up) := by rw [← hW6]; exact HR5.out.set_ 2 (.slice (some ⟨g, 0, none⟩) 1 c)
    have ho6 : Only [R] w5 W6 := by rw [← hW6]; exact (Only.refl [R] w5).one
    have hn : ∀ k, k ≠ R → k ∉ [R] := fun k hk h => hk (List.mem_singleton.1 h)
    have hng : ∀ k, k ≠ G → k ∉ [G] := fun k hk h => hk (List.mem_singleton.1 h)
    have hnm : ∀ k, k ≠ M → k ∉ [M] := fun k hk h => hk (List.mem_singleton.1 h)
    have d7 : W6.cell? ⟨w1.heap.size, 7, none⟩ = some (.slice (some aA) al ac) := ((HT2.out.only HG5.out (hng _ (by omega))).only ho6 (hn _ (by omega))).cell 7
    have hba := HBA.out
    simp only [List.mem_cons, List.not_mem_nil, or_false, not_or] at hba
    have da : W6.cell? aA = some (.int .i64 a) := ho6.cell (hn _ hba.1) (HG5.out.cell (hng _ hba.2.2) (HO2.out.cell (by simp) (HO1.out.cell (hnm _ hba.2.1) HCA.out)))
    have d3 : W6.cell? ⟨R, 3, none⟩ = some (.int .i64 (j : Int)) := hR6.cell 3
    have df3 := hR6.frozen 3
    have HR6 := Lib.hid hR6
    have HM6 := Lib.hid ((HM2.out.only HG5.out (hng _ (fun h => hGM h.symm))).only ho6 (hn _ (fun h => hRM h.symm)))
    have HOR6 := Lib.hid (ownsRow_only HOR.out ho6 (fun k hk => by have := (World.ownsRow.lt HOR.out k hk).1; exact hn _ (by omega)))
    have HOA6 := Lib.hid ((HOA.out.mono (cs := [R, M, G]) (by simp)).trans ((HG5.out.mono (by simp)).trans (ho6.mono (by simp))))
    rw [hW6]
    clear hR6 ho6 hn hng hnm hba hW6
    go_wp2_with fail
    first | go_end0 | refine bodyPost_ret (results_none rfl _ _ _) rfl ?_
    exact ⟨rfl, g, c, HGP.out, ownsRow_only HOR6.out ((Only.refl [R] W6).one) (fun k hk h => by have := (World.ownsRow.lt HOR6.out k hk).1; have := List.mem_singleton.1 h; omega), HR6.out.set_ 3 (.int .i64 a), HM6.out.only ((Only.refl [R] W6).one) (fun h => hRM (List.mem_singleton.1 h).symm), HOA6.out.trans (((Only.refl [R] W6).one).mono (by simp))⟩

end Go.Proofs.YtmedfpejfpdpdaaGreatDoor
