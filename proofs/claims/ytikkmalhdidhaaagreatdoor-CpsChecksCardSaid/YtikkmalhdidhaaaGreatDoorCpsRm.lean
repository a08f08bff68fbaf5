/- Cps: the runner's move. -/
import Derived.Test.YtikkmalhdidhaaaGreatDoorCpsRc
namespace Go.Proofs.YtikkmalhdidhaaaGreatDoor
open Go.RowKit LamM CpsM Go.Maps

set_option maxRecDepth 100000 in
set_option maxHeartbeats 8000000 in
theorem move_fix (t : Fl) (hk : t.k = 9) (v a0 a1 : Int) (VA KA AA : Option Addr) (kn vc kc ac R M B : Nat) (lv : Value) (at_ st : Int) (eo : Option Addr) (over : Bool) (w : World) (hv : IV w B (.slice VA 1 vc) [v]) (ha : IV w B (.slice AA 2 ac) [a0, a1]) (hBR : B ≤ R) (hR : Blk w R 88 (RQ M lv at_ (.pointer eo) over st)) :
    Calls Tryz.prog 48 #[runV R, .agg #[.int .i64 t.k, .int .i64 t.n, .int .i64 t.m, .int .i64 t.i, .int .u64 t.b, .string ⟨t.t.toArray⟩, .slice VA 1 vc, .slice KA kn kc, .slice AA 2 ac]] w fun e w' => e = .returned (.tuple #[]) ∧
      ∃ b f, w.heap.size ≤ b ∧ w.heap.size ≤ f ∧ b < w'.heap.size ∧ f < w'.heap.size ∧ b ≠ f ∧ Blk w' R 88 (RQ M lv a1 (.pointer (some ⟨b, 0, none⟩)) over st) ∧ Blk w' b 189 #[.int .i64 v, fnV f, .pointer eo] ∧ Blk w' f 196 #[.int .i64 a0, .pointer (some ⟨b, 0, none⟩)] ∧ Only [R] w w' := by
  obtain ⟨W, hW⟩ : ∃ W, w.alloc (BoxF t (.slice VA 1 vc) (.slice KA kn kc) (.slice AA 2 ac)) = W := ⟨_, rfl⟩
  have HO := Lib.hid (show Only [] w W by rw [← hW]; exact (Only.refl _ _).alloc _)
  have HX := Lib.hid (show Blk W w.heap.size 40 #[.int .i64 t.k, .int .i64 t.n, .int .i64 t.m, .int .i64 t.i, .int .u64 t.b, .string ⟨t.t.toArray⟩, .slice VA 1 vc, .slice KA kn kc, .slice AA 2 ac] by rw [← hW]; exact Blk.new _ _ _)
  have hbl : Below w.heap.size w W := by rw [← hW]; exact (Below.refl _ _).alloc (Nat.le_refl _) _
  have HRL := Lib.hid hR.lt
  have hkp : ∀ p : Addr, p.block < B → W.cell? p = w.cell? p := fun p hp => hbl.cell (by have := HRL.out; omega)
  have HC := Lib.hid (fix_one t v a0 a1 VA KA AA kn vc kc ac R M B lv at_ st eo over W (hv.keep hkp) (ha.keep hkp) hBR (hR.only HO.out (by simp)))
  unfold BoxF at hW
  rw [hk] at hW HX HC ⊢
  have c0 : W.cell? ⟨w.heap.size, 0, none⟩ = some (.int .i64 9) := HX.out.cell 0
  have c1 : W.cell? ⟨w.heap.size, 1, none⟩ = some (.int .i64 t.n) := HX.out.cell 1
  have c2 : W.cell? ⟨w.heap.size, 2, none⟩ = some (.int .i64 t.m) := HX.out.cell 2
  have c3 : W.cell? ⟨w.heap.size, 3, none⟩ = some (.int .i64 t.i) := HX.out.cell 3
  have c4 : W.cell? ⟨w.heap.size, 4, none⟩ = some (.int .u64 t.b) := HX.out.cell 4
  have c5 : W.cell? ⟨w.heap.size, 5, none⟩ = some (.string ⟨t.t.toArray⟩) := HX.out.cell 5
  have c6 : W.cell? ⟨w.heap.size, 6, none⟩ = some (.slice VA 1 vc) := HX.out.cell 6
  have c7 : W.cell? ⟨w.heap.size, 7, none⟩ = some (.slice KA kn kc) := HX.out.cell 7
  have c8 : W.cell? ⟨w.heap.size, 8, none⟩ = some (.slice AA 2 ac) := HX.out.cell 8
  clear hv ha hR hbl hkp hBR hk
  go_enter Tryz.func48, Tryz.ntmps48
  go_wp2_with (go_at_call 77; ((with_reducible refine (HC.out).mono ?_); rintro e w4 ⟨rfl, b, f, h1, h2, h3, h4, h5, h6, h7, h8, h9⟩; have HP := Lib.hid (show _ ∧ _ from ⟨h1, h2⟩); have HR := Lib.hid (show w.heap.size ≤ W.heap.size from HO.out.size); have HQ := Lib.hid (show _ ∧ _ ∧ _ ∧ _ ∧ _ ∧ _ ∧ _ from ⟨h3, h4, h5, h6, h7, h8, (HO.out.mono (by simp)).trans h9⟩); clear h1 h2 h3 h4 h5 h6 h7 h8 h9))
  go_end0
  exact ⟨rfl, b, f, Nat.le_trans HR.out HP.out.1, Nat.le_trans HR.out HP.out.2, HQ.out⟩

set_option maxRecDepth 100000 in
set_option maxHeartbeats 8000000 in
theorem move_halt (t : Fl) (hk : t.k = 13) (VA KA AA : Option Addr) (vn kn an vc kc ac R M : Nat) (lv : Value) (at_ st : Int) (env : Value) (over : Bool) (w : World) (hR : Blk w R 88 (RQ M lv at_ env over st)) :
    Calls Tryz.prog 48 #[runV R, .agg #[.int .i64 t.k, .int .i64 t.n, .int .i64 t.m, .int .i64 t.i, .int .u64 t.b, .string ⟨t.t.toArray⟩, .slice VA vn vc, .slice KA kn kc, .slice AA an ac]] w fun e w' => e = .returned (.tuple #[]) ∧
      Blk w' R 88 (RQ M lv at_ env true 1) ∧ Only [R] w w' := by
  obtain ⟨W, hW⟩ : ∃ W, w.alloc (BoxF t (.slice VA vn vc) (.slice KA kn kc) (.slice AA an ac)) = W := ⟨_, rfl⟩
  have HO := Lib.hid (show Only [] w W by rw [← hW]; exact (Only.refl _ _).alloc _)
  have HX := Lib.hid (show Blk W w.heap.size 40 #[.int .i64 t.k, .int .i64 t.n, .int .i64 t.m, .int .i64 t.i, .int .u64 t.b, .string ⟨t.t.toArray⟩, .slice VA vn vc, .slice KA kn kc, .slice AA an ac] by rw [← hW]; exact Blk.new _ _ _)
  have HR := Lib.hid (hR.only HO.out (by simp))
  unfold BoxF at hW
  rw [hk] at hW HX ⊢
  have c0 : W.cell? ⟨w.heap.size, 0, none⟩ = some (.int .i64 13) := HX.out.cell 0
  have c8 : W.cell? ⟨w.heap.size, 8, none⟩ = some (.slice AA an ac) := HX.out.cell 8
  have r4 : W.cell? ⟨R, 4, none⟩ = some (.bool over) := HR.out.cell 4
  have r6 : W.cell? ⟨R, 6, none⟩ = some (.int .i64 st) := HR.out.cell 6
  have f4 := HR.out.frozen 4
  have f6 := HR.out.frozen 6
  clear hR hk
  go_enter Tryz.func48, Tryz.ntmps48
  go_wp2_with fail
  go_end0
  exact ⟨rfl, (HR.out.set_ 4 (.bool true)).set_ 6 (.int .i64 1), ((HO.out.mono (by simp)).one).one⟩

set_option maxRecDepth 100000 in
set_option maxHeartbeats 8000000 in
theorem move_call (L : List Fl) (t tn : Fl) (hk : t.k = 11) (node : Nat) (i0 i1 v a0 : Int) (x : Value) (ti : TypeId) (VA KA AA : Option Addr) (vn kn vc kc ac R M B f : Nat) (ad : Addr) (c : Nat) (at_ st : Int) (env : Value) (eo : Option Addr) (over : Bool) (w : World) (ht : L[node]? = some tn) (hv : tn.vars = [v]) (ha : tn.args = [a0]) (hI : IV w B (.slice AA 2 ac) [i0, i1])
    (hN : NF w B (.slice (some ad) L.length c) L) (hBR : B ≤ R) (hR : Blk w R 88 (RQ M (.slice (some ad) L.length c) at_ env over st)) (hF : Blk w f 196 #[.int .i64 (node : Int), .pointer eo]) (hfR : f ≠ R)
    (hA0 : ∀ w', Only [] w w' → Calls Tryz.prog 75 #[runV R, .int .i64 i0] w' fun e w'' => e = .returned (fnV f) ∧ Only [] w' w'') (hA1 : ∀ w', Only [] w w' → Calls Tryz.prog 75 #[runV R, .int .i64 i1] w' fun e w'' => e = .returned (.iface ti x) ∧ Only [] w' w'') :
    Calls Tryz.prog 48 #[runV R, .agg #[.int .i64 t.k, .int .i64 t.n, .int .i64 t.m, .int .i64 t.i, .int .u64 t.b, .string ⟨t.t.toArray⟩, .slice VA vn vc, .slice KA kn kc, .slice AA 2 ac]] w fun e w' => e = .returned (.tuple #[]) ∧
      ∃ b, w.heap.size ≤ b ∧ b < w'.heap.size ∧ Blk w' R 88 (RQ M (.slice (some ad) L.length c) a0 (.pointer (some ⟨b, 0, none⟩)) over st) ∧ Blk w' b 189 #[.int .i64 v, .iface ti x, .pointer eo] ∧ Only [R] w w' := by
  obtain ⟨W, hW⟩ : ∃ W, w.alloc (BoxF t (.slice VA vn vc) (.slice KA kn kc) (.slice AA 2 ac)) = W := ⟨_, rfl⟩
  have HO := Lib.hid (show Only [] w W by rw [← hW]; exact (Only.refl _ _).alloc _)
  have HX := Lib.hid (show Blk W w.heap.size 40 #[.int .i64 t.k, .int .i64 t.n, .int .i64 t.m, .int .i64 t.i, .int .u64 t.b, .string ⟨t.t.toArray⟩, .slice VA vn vc, .slice KA kn kc, .slice AA 2 ac] by rw [← hW]; exact Blk.new _ _ _)
  have hRL := hR.lt
  have hkp : ∀ (W' : World), Only [] w W' → ∀ p : Addr, p.block < B → W'.cell? p = w.cell? p := fun W' ho p hp => World.cell?_of_block (ho.block _ (by omega) (by simp))
  have HIW := Lib.hid (iv_more (hI.keep (hkp W HO.out)) (show B ≤ W.heap.size by have := HO.out.size; omega))
  have HAT := Lib.hid (atoms_any R [i0, i1] (.slice AA 2 ac) [fnV f, .iface ti x] W HIW.out rfl (by simp) (by simp) (fun i a y hi hy w' ho => by
    rcases i with _ | _ | i
    · obtain rfl : i0 = a := by simpa using hi
      obtain rfl : fnV f = y := by simpa using hy
      exact hA0 w' (HO.out.trans ho)
    · obtain rfl : i1 = a := by simpa using hi
      obtain rfl : Value.iface ti x = y := by simpa using hy
      exact hA1 w' (HO.out.trans ho)
    · simp at hi))
  have HC := Lib.hid (fun (g : Nat) (w' : World) (ho : Only [] w w') (hg : w.heap.size < g) (h0 : w'.cell? ⟨g, 0, none⟩ = some (fnV f)) (h1 : w'.cell? ⟨g, 1, none⟩ = some (.iface ti x)) =>
    call_one L tn node v a0 x ti R M B g f ad c at_ st env eo over w' ht hv ha (hN.keep (hkp w' ho)) hBR (hR.only ho (by simp)) (hF.only ho (by simp)) hfR (by omega) h0 h1)
  have HWS := Lib.hid (show W.heap.size = w.heap.size + 1 by rw [← hW]; simp)
  unfold BoxF at hW
  rw [hk] at hW HX ⊢
  have c0 : W.cell? ⟨w.heap.size, 0, none⟩ = some (.int .i64 11) := HX.out.cell 0
  have c8 : W.cell? ⟨w.heap.size, 8, none⟩ = some (.slice AA 2 ac) := HX.out.cell 8
  clear ht hv ha hI hN hBR hR hF hfR hA0 hA1 hRL hkp hk
  go_enter Tryz.func48, Tryz.ntmps48
  go_wp2_with (first
    | (go_at_call 73; ((with_reducible refine (HAT.out).mono ?_); rintro e w4 ⟨g, rfl, hg, hown, ho⟩; have HG := Lib.hid hg; have HO4 := Lib.hid (HO.out.trans ho); have HCC := Lib.hid (HC.out g w4 HO4.out (by have := HWS.out; have := HG.out; omega) (World.ownsRow.cellAt hown 0 (show 0 < 2 * 1 by decide)) (World.ownsRow.cellAt hown 1 (show 1 < 2 * 1 by decide))); clear hg hown ho; try clear c0 c8))
    | (go_at_call 78; ((with_reducible refine (HCC.out).mono ?_); rintro e w5 ⟨rfl, b, h1, h2, h3, h4, h5⟩; have HP := Lib.hid h1; have HQ := Lib.hid (show _ ∧ _ ∧ _ ∧ _ from ⟨h2, h3, h4, (HO4.out.mono (by simp)).trans h5⟩); clear h1 h2 h3 h4 h5)))
  go_end0
  exact ⟨rfl, b, Nat.le_trans HO4.out.size HP.out, HQ.out⟩
end Go.Proofs.YtikkmalhdidhaaaGreatDoor
