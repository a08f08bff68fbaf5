/- Cps: the runner's call of a function of one variable. -/
import Derived.Test.YtikkmalhdidhaaaGreatDoorCpsRf
namespace Go.Proofs.YtikkmalhdidhaaaGreatDoor
open Go.RowKit LamM CpsM Go.Maps

theorem ta_fn (f : Nat) : ∀ w, (Instr.typeAssert (fnV f) 134 194 true).run Tryz.prog w = .ok (.tuple #[.pointer (some ⟨f, 0, none⟩), .bool true]) w := fun w => by kernel_rfl

set_option maxRecDepth 100000 in
set_option maxHeartbeats 8000000 in
theorem call_one (L : List Fl) (t : Fl) (node : Nat) (v a0 : Int) (x : Value) (ti : TypeId) (R M B g f : Nat) (ad : Addr) (c : Nat) (at_ st : Int) (env : Value) (eo : Option Addr) (over : Bool) (w : World) (ht : L[node]? = some t) (hv : t.vars = [v]) (ha : t.args = [a0]) (hN : NF w B (.slice (some ad) L.length c) L) (hBR : B ≤ R)
    (hR : Blk w R 88 (RQ M (.slice (some ad) L.length c) at_ env over st)) (hF : Blk w f 196 #[.int .i64 (node : Int), .pointer eo]) (hfR : f ≠ R) (hgR : g ≠ R) (h0 : w.cell? ⟨g, 0, none⟩ = some (fnV f)) (h1 : w.cell? ⟨g, 1, none⟩ = some (.iface ti x)) :
    Calls Tryz.prog 78 #[runV R, .slice (some ⟨g, 0, none⟩) 2 2] w fun e w' => e = .returned (.tuple #[]) ∧
      ∃ b, w.heap.size ≤ b ∧ b < w'.heap.size ∧ Blk w' R 88 (RQ M (.slice (some ad) L.length c) a0 (.pointer (some ⟨b, 0, none⟩)) over st) ∧ Blk w' b 189 #[.int .i64 v, .iface ti x, .pointer eo] ∧ Only [R] w w' := by
  have hil : node < L.length := (List.getElem?_eq_some_iff.1 ht).1
  have hi : (node : Int) < (L.length : Int) := by omega
  obtain ⟨adx, vv, kv, av, hadE, had, htv, p0, p1, p2, p3, p4, p5, p6, p7, p8⟩ := hN.at9 ht
  obtain rfl := Option.some.inj hadE
  have hvv := htv.v
  have hav := htv.a
  rw [hv] at hvv
  rw [ha] at hav
  obtain ⟨VA, vc, rfl, _, _⟩ := hvv.len
  obtain ⟨AA, ac, rfl, _, _⟩ := hav.len
  obtain ⟨va, rfl, hva, cv⟩ := hvv.at_ (j := 0) rfl
  obtain ⟨aa, rfl, haa, ca⟩ := hav.at_ (j := 0) rfl
  simp only [List.length_cons, List.length_nil, Nat.zero_add] at p6 p8
  have HR := Lib.hid hR
  have HF := Lib.hid hF
  have HN := Lib.hid (show ad.block < B from had)
  have HBR := Lib.hid hBR
  have HVB := Lib.hid hva
  have HAB := Lib.hid haa
  have HV := Lib.hid (spell_nil cv)
  have HA := Lib.hid (spell_nil ca)
  have HP6 := Lib.hid p6
  have HP8 := Lib.hid p8
  have HFR := Lib.hid hfR
  have HGR := Lib.hid hgR
  have HH1 := Lib.hid h1
  have hta := ta_fn f
  have r1 : w.cell? ⟨R, 1, none⟩ = some (.slice (some ad) L.length c) := hR.cell 1
  have r3 : w.cell? ⟨R, 3, none⟩ = some env := hR.cell 3
  have f3 := hR.frozen 3
  have q0 : w.cell? ⟨f, 0, none⟩ = some (.int .i64 (node : Int)) := hF.cell 0
  have q1 : w.cell? ⟨f, 1, none⟩ = some (.pointer eo) := hF.cell 1
  clear hvv hav htv hN hR hF hva haa cv ca had p0 p1 p2 p3 p4 p5 p7 ht hv ha hadE hBR hfR hgR h1 p8
  go_enter Tryz.func78, Tryz.ntmps78
  go_upto_region 1 with fail
  go_quiet (fail)
  go_upto_region 4 with fail
  obtain ⟨W1, hW1⟩ : ∃ W1, (w.drewN nq).setCell ⟨R, 3, none⟩ (.pointer eo) = W1 := ⟨_, rfl⟩
  rw [hW1]
  have HO1 := Lib.hid (show Only [R] w W1 by rw [← hW1]; exact ((Only.refl [R] w).drewN nq).one)
  have HR1 := Lib.hid (show Blk W1 R 88 (RQ M (.slice (some ad) L.length c) at_ (.pointer eo) over st) by rw [← hW1]; exact (HR.out.drewN nq).set_ 3 (.pointer eo))
  have HF1 := Lib.hid (HF.out.only HO1.out (by have := HFR.out; simpa using this))
  have c1 : W1.cell? ⟨R, 1, none⟩ = some (.slice (some ad) L.length c) := HR1.out.cell 1
  have c2 : W1.cell? ⟨f, 0, none⟩ = some (.int .i64 (node : Int)) := HF1.out.cell 0
  have c6 := only_cellC HO1.out (by have := HN.out; have := HBR.out; simp only [block_of_add, List.mem_cons, List.not_mem_nil, or_false]; omega) HP6.out
  clear hW1 r1 r3 f3 q0 q1 p6 h0 hta
  go_quiet (fail)
  obtain ⟨W2, hW2⟩ : ∃ W2, W1.drewN nq = W2 := ⟨_, rfl⟩
  rw [hW2]
  have HO2 := Lib.hid (show Only [R] w W2 by rw [← hW2]; exact HO1.out.drewN nq)
  have HR2 := Lib.hid (show Blk W2 R 88 (RQ M (.slice (some ad) L.length c) at_ (.pointer eo) over st) by rw [← hW2]; exact HR1.out.drewN nq)
  have HF2 := Lib.hid (HF.out.only HO2.out (by have := HFR.out; simpa using this))
  clear hW2 c1 c2 c6
  have cva : W2.cell? va = some (.int .i64 v) := only_cellC HO2.out (by have := HVB.out; have := HBR.out; simp only [List.mem_cons, List.not_mem_nil, or_false]; omega) HV.out
  have d1 : W2.drew.cell? ⟨g, 1, none⟩ = some (.iface ti x) := only_cellC (HO2.out.drew) (by have := HGR.out; simpa using this) HH1.out
  have d3 : W2.drew.cell? ⟨R, 3, none⟩ = some (.pointer eo) := HR2.out.cell 3
  have e3 : ∀ o, (W2.alloc o).drew.cell? ⟨R, 3, none⟩ = some (.pointer eo) := fun o => (HR2.out.alloc o).drew.cell 3
  have f3 : ∀ o, (W2.alloc o).drew.frozen? ⟨R, 3, none⟩ = false := fun o => (HR2.out.alloc o).drew.frozen 3
  go_wp2_with fail
  refine wp_loop_rounds 2 ?_
  rw [rounds_succ]
  go_upto_region 7 with fail
  clear cva
  go_region
  obtain ⟨b, hb⟩ : ∃ b, W2.heap.size = b := ⟨_, rfl⟩
  obtain ⟨W3, hW3⟩ : ∃ W3, ((W2.alloc (.cells #[.int .i64 v, .iface ti x, .pointer eo] 189)).setCell ⟨R, 3, none⟩ (.pointer (some ⟨W2.heap.size, 0, none⟩))).drew = W3 := ⟨_, rfl⟩
  rw [hW3]
  rw [hb] at hW3 ⊢
  have HWR := Lib.hid (show R < w.heap.size from HR.out.lt)
  have HB := Lib.hid (show w.heap.size ≤ b by rw [← hb]; exact HO2.out.size)
  have HB3 := Lib.hid (show Blk W3 b 189 #[.int .i64 v, .iface ti x, .pointer eo] by rw [← hW3]; exact (((blk_atC hb _ _).far (p := ⟨R, 3, none⟩) (by have := HWR.out; have := HB.out; show b ≠ R; omega) _)).drew)
  have HR3 := Lib.hid (show Blk W3 R 88 (RQ M (.slice (some ad) L.length c) at_ (.pointer (some ⟨b, 0, none⟩)) over st) by rw [← hW3]; exact ((HR2.out.alloc _).set_ 3 (.pointer (some ⟨b, 0, none⟩))).drew)
  have HO23 := Lib.hid (show Only [R] W2 W3 by rw [← hW3]; exact (((Only.refl [R] W2).alloc _).one).drew)
  have HO3 := Lib.hid (show Only [R] w W3 from HO2.out.trans HO23.out)
  have HF3 := Lib.hid (HF2.out.only HO23.out (by have := HFR.out; simpa using this))
  clear hW3 hb d1 d3 e3 f3
  go_wp2_with fail
  rw [rounds_succ]
  go_upto_region 9 with fail
  have k1 : W3.drew.cell? ⟨R, 1, none⟩ = some (.slice (some ad) L.length c) := HR3.out.cell 1
  have k0 : W3.drew.cell? ⟨f, 0, none⟩ = some (.int .i64 (node : Int)) := HF3.out.cell 0
  have k8 : W3.drew.cell? ⟨(ad.add (node * 9)).block, (ad.add (node * 9)).off + 8, none⟩ = some (.slice (some aa) 1 ac) := only_cellC (HO3.out.drew) (by have := HN.out; have := HBR.out; simp only [block_of_add, List.mem_cons, List.not_mem_nil, or_false]; omega) HP8.out
  have ka : W3.drew.cell? aa = some (.int .i64 a0) := only_cellC (HO3.out.drew) (by have := HAB.out; have := HBR.out; simp only [List.mem_cons, List.not_mem_nil, or_false]; omega) HA.out
  have k2 : W3.drew.cell? ⟨R, 2, none⟩ = some (.int .i64 at_) := HR3.out.cell 2
  have l2 : W3.drew.frozen? ⟨R, 2, none⟩ = false := HR3.out.frozen 2
  go_region
  go_end0
  exact ⟨rfl, b, HB.out, by simpa [World.setCell] using HB3.out.lt, (HR3.out.set_ 2 (.int .i64 a0)).drew, (HB3.out.far (p := ⟨R, 2, none⟩) (by have := HWR.out; have := HB.out; show b ≠ R; omega) _).drew, HO3.out.one.drew⟩
end Go.Proofs.YtikkmalhdidhaaaGreatDoor
