/- Cps: the runner's fix of one function. -/
import Derived.Test.YtikkmalhdidhaaaGreatDoorCpsAt
import Derived.BigRegion
namespace Go.Proofs.YtikkmalhdidhaaaGreatDoor
open Go.RowKit LamM CpsM Go.Maps

theorem infoFnP : (Tryz.prog.info? 194).map (fun i => (i.zero, i.size, i.bytes)) = some (some (.pointer none), 1, 8) := by kernel_rfl
theorem undFns : Tryz.prog.underlying 193 = some (.slice 194) := by kernel_rfl
theorem spell_one {w : World} {ad : Addr} {v : Value} (h : w.cell? (ad.add 1) = some v) : w.cell? ⟨ad.block, ad.off + 1, none⟩ = some v := by
  have e := spell9 (i := 0) (j := 0) h
  rwa [show ad.add 0 = ad by simp [Addr.add]] at e
theorem spell_nil {w : World} {ad : Addr} {v : Value} (h : w.cell? (ad.add 0) = some v) : w.cell? ad = some v := by rwa [show ad.add 0 = ad by simp [Addr.add]] at h
/-- A function's value. -/
abbrev fnV (f : Nat) : Value := .iface 194 (.pointer (some ⟨f, 0, none⟩))

set_option maxRecDepth 100000 in
set_option maxHeartbeats 8000000 in
theorem fix_one (t : Fl) (v a0 a1 : Int) (VA KA AA : Option Addr) (kn vc kc ac R M B : Nat) (lv : Value) (at_ st : Int) (eo : Option Addr) (over : Bool) (w : World) (hv : IV w B (.slice VA 1 vc) [v]) (ha : IV w B (.slice AA 2 ac) [a0, a1]) (hBR : B ≤ R) (hR : Blk w R 88 (RQ M lv at_ (.pointer eo) over st)) :
    Calls Tryz.prog 77 #[runV R, .agg #[.int .i64 t.k, .int .i64 t.n, .int .i64 t.m, .int .i64 t.i, .int .u64 t.b, .string ⟨t.t.toArray⟩, .slice VA 1 vc, .slice KA kn kc, .slice AA 2 ac]] w fun e w' => e = .returned (.tuple #[]) ∧
      ∃ b f, w.heap.size ≤ b ∧ w.heap.size ≤ f ∧ b < w'.heap.size ∧ f < w'.heap.size ∧ b ≠ f ∧ Blk w' R 88 (RQ M lv a1 (.pointer (some ⟨b, 0, none⟩)) over st) ∧ Blk w' b 189 #[.int .i64 v, fnV f, .pointer eo] ∧ Blk w' f 196 #[.int .i64 a0, .pointer (some ⟨b, 0, none⟩)] ∧ Only [R] w w' := by
  obtain ⟨i0, hi0, hz0, hz1, hz2⟩ := info_parts infoFnP
  obtain ⟨va, rfl, hva, cv⟩ := hv.at_ (j := 0) rfl
  obtain ⟨aa, rfl, haa, ca⟩ := ha.at_ (j := 0) rfl
  obtain ⟨_, hq, _, cb⟩ := ha.at_ (j := 1) rfl
  obtain rfl := Option.some.inj hq
  have HL := Lib.hid hR.lt
  obtain ⟨W, hW⟩ : ∃ W, w.alloc (BoxF t (.slice (some va) 1 vc) (.slice KA kn kc) (.slice (some aa) 2 ac)) = W := ⟨_, rfl⟩
  have HO := Lib.hid (show Only [] w W by rw [← hW]; exact (Only.refl _ _).alloc _)
  have HX := Lib.hid (show Blk W w.heap.size 40 #[.int .i64 t.k, .int .i64 t.n, .int .i64 t.m, .int .i64 t.i, .int .u64 t.b, .string ⟨t.t.toArray⟩, .slice (some va) 1 vc, .slice KA kn kc, .slice (some aa) 2 ac] by rw [← hW]; exact Blk.new _ _ _)
  have HR := Lib.hid (hR.only HO.out (by simp))
  have HV := Lib.hid cv
  have HA := Lib.hid ca
  have HA1 := Lib.hid cb
  have HVB := Lib.hid hva
  have HAB := Lib.hid haa
  have HBR := Lib.hid hBR
  have c6 : W.cell? ⟨w.heap.size, 6, none⟩ = some (.slice (some va) 1 vc) := HX.out.cell 6
  unfold BoxF at hW
  clear hv ha hR cv ca cb hva haa hBR hq
  go_enter Tryz.func77, Tryz.ntmps77
  go_wp2_with (refine wpList_make_full _ rfl _ _ _ rfl w.heap.size 194 i0 (.pointer none) 1 undFns hi0 hz0 hz1 _ _ _ _ 1 rfl rfl (by omega) (by omega) (by rw [hz2]; omega) (by unfold maxLen; omega) (by have := HO.out.size; omega) ?_)
  intro w1 hown1 hgrow1
  rw [toList_madeCells_one] at hown1
  have ho1 : Only [] w w1 := HO.out.grown hgrow1 (fun k hk => by cases hk)
  obtain ⟨g, hg⟩ : ∃ g, g = W.heap.size := ⟨_, rfl⟩
  rw [← hg] at hown1 ⊢
  have HWS := Lib.hid (show g = w.heap.size + 1 by rw [hg, ← hW]; simp)
  have HO1 := Lib.hid ho1
  have HW1 := Lib.hid (show w1.ownsRow w.heap.size 194 1 (.slice (some ⟨g, 0, none⟩) 1 1) 1 [.pointer none] from hown1)
  have HX1 := Lib.hid (HX.out.only ((Only.refl [] W).grown hgrow1 (fun k hk => by cases hk)) (by simp))
  have HR1 := Lib.hid (HR.out.only ((Only.refl [] W).grown hgrow1 (fun k hk => by cases hk)) (by simp))
  have HS1 := Lib.hid (show g < w1.heap.size from (World.ownsRow.lt HW1.out g rfl).2)
  clear hown1 hgrow1 ho1 hg hW
  have b8 : w1.cell? ⟨w.heap.size, 8, none⟩ = some (.slice (some aa) 2 ac) := HX1.out.cell 8
  have ca0 : w1.cell? aa = some (.int .i64 a0) := by have := only_cellC HO1.out (by simp) HA.out; rwa [show aa.add 0 = aa by simp [Addr.add]] at this
  have cg0 : ∀ o, (w1.alloc o).cell? ⟨g, 0, none⟩ = some (.pointer none) := fun o => World.ownsRow.cellAt (World.ownsRow.alloc HW1.out o) 0 (by decide)
  have fg0 : ∀ o, (w1.alloc o).frozen? ⟨g, 0, none⟩ = false := fun o => World.ownsRow.frozenAt (World.ownsRow.alloc HW1.out o) 0
  go_wp2_with fail
  refine wp_loop_rounds 2 ?_
  rw [rounds_succ]
  go_upto_region 7 with fail
  obtain ⟨W2, hW2⟩ : ∃ W2, (w1.alloc (.cells #[.int .i64 a0, .pointer none] 196)).setCell ⟨g, 0, none⟩ (.pointer (some ⟨w1.heap.size, 0, none⟩)) = W2 := ⟨_, rfl⟩
  obtain ⟨f, hf⟩ : ∃ f, w1.heap.size = f := ⟨_, rfl⟩
  rw [hW2]
  have HFG := Lib.hid (show g < f by have := HS1.out; omega)
  have HRN := Lib.hid (show R < w.heap.size from HL.out)
  have HF2 := Lib.hid (show Blk W2 f 196 #[.int .i64 a0, .pointer none] by rw [← hW2, ← hf]; exact (Blk.new _ _ _).far (p := ⟨g, 0, none⟩) (by have := HS1.out; show w1.heap.size ≠ g; omega) _)
  have HR2 := Lib.hid (show Blk W2 R 88 (RQ M lv at_ (.pointer eo) over st) by rw [← hW2]; exact (HR1.out.alloc _).far (p := ⟨g, 0, none⟩) (by have := HWS.out; have := HL.out; show R ≠ g; omega) _)
  have HX2 := Lib.hid (show Blk W2 w.heap.size 40 #[.int .i64 t.k, .int .i64 t.n, .int .i64 t.m, .int .i64 t.i, .int .u64 t.b, .string ⟨t.t.toArray⟩, .slice (some va) 1 vc, .slice KA kn kc, .slice (some aa) 2 ac] by rw [← hW2]; exact (HX1.out.alloc _).far (p := ⟨g, 0, none⟩) (by have := HWS.out; show w.heap.size ≠ g; omega) _)
  have HW2 := Lib.hid (show W2.ownsRow w.heap.size 194 1 (.slice (some ⟨g, 0, none⟩) 1 1) 1 [.pointer (some ⟨f, 0, none⟩)] by rw [← hW2, ← hf]; exact (World.ownsRow.stored (World.ownsRow.alloc HW1.out _) 0 (.pointer (some ⟨w1.heap.size, 0, none⟩))).1)
  have HO2 := Lib.hid (show Only [] w W2 by rw [← hW2]; exact (HO1.out.alloc _).setCell (p := ⟨g, 0, none⟩) (.inr (by have := HWS.out; show w.heap.size ≤ g; omega)) _)
  have HZ2 := Lib.hid (show f < W2.heap.size from HF2.out.lt)
  clear hW2 b8 ca0 cg0 fg0 c6
  rw [hf]
  have d6 : W2.drew.cell? ⟨w.heap.size, 6, none⟩ = some (.slice (some va) 1 vc) := HX2.out.cell 6
  have dv : W2.drew.cell? va = some (.int .i64 v) := by have := only_cellC HO2.out (by simp) HV.out; rwa [show va.add 0 = va by simp [Addr.add]] at this
  have dg : W2.drew.cell? ⟨g, 0, none⟩ = some (.pointer (some ⟨f, 0, none⟩)) := World.ownsRow.cellAt HW2.out 0 (by decide)
  have d3 : W2.drew.cell? ⟨R, 3, none⟩ = some (.pointer eo) := HR2.out.cell 3
  have e3 : ∀ o, (W2.alloc o).drew.cell? ⟨R, 3, none⟩ = some (.pointer eo) := fun o => (HR2.out.alloc o).drew.cell 3
  have f3 : ∀ o, (W2.alloc o).drew.frozen? ⟨R, 3, none⟩ = false := fun o => (HR2.out.alloc o).drew.frozen 3
  go_region
  obtain ⟨W3, hW3⟩ : ∃ W3, ((W2.alloc (.cells #[.int .i64 v, fnV f, .pointer eo] 189)).setCell ⟨R, 3, none⟩ (.pointer (some ⟨W2.heap.size, 0, none⟩))).drew = W3 := ⟨_, rfl⟩
  obtain ⟨b, hb⟩ : ∃ b, W2.heap.size = b := ⟨_, rfl⟩
  rw [hW3]
  rw [hb]
  rw [hb] at hW3 HZ2
  have HZ3 := Lib.hid (show R < b by have := HZ2.out; have := HFG.out; have := HWS.out; have := HL.out; omega)
  have HB3 := Lib.hid (show Blk W3 b 189 #[.int .i64 v, fnV f, .pointer eo] by rw [← hW3]; exact (((blk_atC hb _ _).far (p := ⟨R, 3, none⟩) (by have := HZ3.out; show b ≠ R; omega) _)).drew)
  have HF3 := Lib.hid (show Blk W3 f 196 #[.int .i64 a0, .pointer none] by rw [← hW3]; exact ((HF2.out.alloc _).far (p := ⟨R, 3, none⟩) (by have := HFG.out; have := HWS.out; have := HL.out; show f ≠ R; omega) _).drew)
  have HX3 := Lib.hid (show Blk W3 w.heap.size 40 #[.int .i64 t.k, .int .i64 t.n, .int .i64 t.m, .int .i64 t.i, .int .u64 t.b, .string ⟨t.t.toArray⟩, .slice (some va) 1 vc, .slice KA kn kc, .slice (some aa) 2 ac] by rw [← hW3]; exact ((HX2.out.alloc _).far (p := ⟨R, 3, none⟩) (by have := HL.out; show w.heap.size ≠ R; omega) _).drew)
  have HR3 := Lib.hid (show Blk W3 R 88 (RQ M lv at_ (.pointer (some ⟨b, 0, none⟩)) over st) by rw [← hW3]; exact ((HR2.out.alloc _).set_ 3 (.pointer (some ⟨b, 0, none⟩))).drew)
  have HO23 := Lib.hid (show Only [R] W2 W3 by rw [← hW3]; exact (((Only.refl [R] W2).alloc _).one).drew)
  have HO3 := Lib.hid (show Only [R] w W3 from (HO2.out.mono (by simp)).trans HO23.out)
  have HW3 := Lib.hid (ownsRow_only HW2.out HO23.out (fun k hk => by obtain rfl : g = k := Option.some.inj hk; have := HWS.out; have := HL.out; simp only [List.mem_cons, List.not_mem_nil, or_false]; omega))
  clear hW3 d6 dv dg d3 e3 f3
  have g3 : W3.cell? ⟨R, 3, none⟩ = some (.pointer (some ⟨b, 0, none⟩)) := HR3.out.cell 3
  have g0 : W3.cell? ⟨g, 0, none⟩ = some (.pointer (some ⟨f, 0, none⟩)) := World.ownsRow.cellAt HW3.out 0 (by decide)
  have g1 : W3.cell? ⟨f, 1, none⟩ = some (.pointer none) := HF3.out.cell 1
  have k1 := HF3.out.frozen 1
  go_wp2_with fail
  rw [rounds_succ]
  go_wp2_with fail
  refine wp_loop_rounds 2 ?_
  rw [rounds_succ]
  go_wp2_with fail
  obtain ⟨W4, hW4⟩ : ∃ W4, W3.setCell ⟨f, 1, none⟩ (.pointer (some ⟨b, 0, none⟩)) = W4 := ⟨_, rfl⟩
  rw [hW4]
  have HB4 := Lib.hid (show Blk W4 b 189 #[.int .i64 v, fnV f, .pointer eo] by rw [← hW4]; exact HB3.out.far (p := ⟨f, 1, none⟩) (by have := HZ2.out; show b ≠ f; omega) _)
  have HF4 := Lib.hid (show Blk W4 f 196 #[.int .i64 a0, .pointer (some ⟨b, 0, none⟩)] by rw [← hW4]; exact HF3.out.set_ 1 (.pointer (some ⟨b, 0, none⟩)))
  have HX4 := Lib.hid (HX3.out.far (p := ⟨f, 1, none⟩) (by have := HFG.out; have := HWS.out; show w.heap.size ≠ f; omega) (.pointer (some ⟨b, 0, none⟩)))
  have HR4 := Lib.hid (HR3.out.far (p := ⟨f, 1, none⟩) (by have := HFG.out; have := HWS.out; have := HL.out; show R ≠ f; omega) (.pointer (some ⟨b, 0, none⟩)))
  have HO4 := Lib.hid (show Only [R] w W4 by rw [← hW4]; exact HO3.out.setCell (p := ⟨f, 1, none⟩) (.inr (by have := HFG.out; have := HWS.out; show w.heap.size ≤ f; omega)) _)
  rw [hW4] at HX4 HR4
  clear hW4 g3 g0 g1 k1
  have x8 : W4.cell? ⟨w.heap.size, 8, none⟩ = some (.slice (some aa) 2 ac) := HX4.out.cell 8
  have xa : W4.cell? ⟨aa.block, aa.off + 1, none⟩ = some (.int .i64 a1) := spell_one <| only_cellC HO4.out (by have := HAB.out; have := HBR.out; simp only [block_of_add, List.mem_cons, List.not_mem_nil, or_false]; omega) HA1.out
  have x2 : W4.cell? ⟨R, 2, none⟩ = some (.int .i64 at_) := HR4.out.cell 2
  have y2 := HR4.out.frozen 2
  rw [rounds_succ]
  go_wp2_with fail
  go_end0
  exact ⟨rfl, b, f, by have := HZ2.out; have := HFG.out; have := HWS.out; omega, by have := HFG.out; have := HWS.out; omega, by simpa [World.setCell] using HB4.out.lt, by simpa [World.setCell] using HF4.out.lt, by have := HZ2.out; omega, HR4.out.set_ 2 (.int .i64 a1), HB4.out.far (p := ⟨R, 2, none⟩) (by have := HZ3.out; show b ≠ R; omega) _, HF4.out.far (p := ⟨R, 2, none⟩) (by have := HFG.out; have := HWS.out; have := HL.out; show f ≠ R; omega) _, HO4.out.one⟩
end Go.Proofs.YtikkmalhdidhaaaGreatDoor
