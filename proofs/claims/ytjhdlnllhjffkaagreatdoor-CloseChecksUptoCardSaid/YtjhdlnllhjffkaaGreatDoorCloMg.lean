/- Close: how functions lie in memory; params. Close: the runner's move: a call by number without arguments, the end. Close: the runner's move. Close: what Run defers. -/
import Derived.Test.YtjhdlnllhjffkaaGreatDoorCpsD
import Derived.Test.YtjhdlnllhjffkaaGreatDoorCloMa
import Derived.BigQuiet
import Derived.Test.YtjhdlnllhjffkaaGreatDoorCloMd
import Derived.BigRegion
import Derived.Deep.RegionHeld3
namespace Go.Proofs.YtjhdlnllhjffkaaGreatDoor
open Go.RowKit LamM CpsM CloM

/-- A slice of functions. -/
def FnV (w : World) (B : Nat) (v : Value) (fs : List FnD) : Prop :=
  ∃ A c, v = .slice A fs.length c ∧ fs.length ≤ c ∧ fs.length ≤ 1300000000000 ∧ ∀ i f, fs[i]? = some f → ∃ ad PA pc, A = some ad ∧ ad.block < B ∧ IV w B (.slice PA f.params.length pc) f.params ∧ (-9223372036854775808 ≤ f.body ∧ f.body ≤ 9223372036854775807) ∧ f.params.length ≤ 17592186044416 ∧
    w.cell? (ad.add (i * 2)) = some (.slice PA f.params.length pc) ∧ w.cell? (ad.add (i * 2 + 1)) = some (.int .i64 f.body)
section
variable {w w' : World} {B B' : Nat}
theorem FnV.keep {v : Value} {fs : List FnD} (h : FnV w B v fs) (hk : ∀ p : Addr, p.block < B → w'.cell? p = w.cell? p) : FnV w' B v fs := by
  obtain ⟨A, c, e, h1, h2, h3⟩ := h
  refine ⟨A, c, e, h1, h2, fun i f hf => ?_⟩
  obtain ⟨ad, PA, pc, hA, hb, hp, hr, hl, c0, c1⟩ := h3 i f hf
  exact ⟨ad, PA, pc, hA, hb, hp.keep hk, hr, hl, (hk _ (by rw [block_of_add]; exact hb)).trans c0, (hk _ (by rw [block_of_add]; exact hb)).trans c1⟩
theorem FnV.more {v : Value} {fs : List FnD} (h : FnV w B v fs) (hB : B ≤ B') : FnV w B' v fs := by
  obtain ⟨A, c, e, h1, h2, h3⟩ := h
  refine ⟨A, c, e, h1, h2, fun i f hf => ?_⟩
  obtain ⟨ad, PA, pc, hA, hb, hp, hr, hl, c0, c1⟩ := h3 i f hf
  exact ⟨ad, PA, pc, hA, Nat.lt_of_lt_of_le hb hB, iv_more hp hB, hr, hl, c0, c1⟩
theorem FnV.below {v : Value} {fs : List FnD} (h : FnV w w.heap.size v fs) (hb : Below w.heap.size w w') : FnV w' w'.heap.size v fs :=
  (h.keep (fun _ hp => hb.cell hp)).more hb.size
theorem FnV.len {v : Value} {fs : List FnD} (h : FnV w B v fs) : ∃ A c, v = .slice A fs.length c ∧ fs.length ≤ c ∧ fs.length ≤ 1300000000000 := by
  obtain ⟨A, c, e, h1, h2, _⟩ := h; exact ⟨A, c, e, h1, h2⟩
/-- A function's cells, spelled as the walks spell them. -/
theorem FnV.at2 {A : Option Addr} {n c : Nat} {fs : List FnD} (h : FnV w B (.slice A n c) fs) {i : Nat} {f : FnD} (hi : fs[i]? = some f) :
    ∃ ad PA pc, A = some ad ∧ ad.block < B ∧ IV w B (.slice PA f.params.length pc) f.params ∧ (-9223372036854775808 ≤ f.body ∧ f.body ≤ 9223372036854775807) ∧ f.params.length ≤ 17592186044416 ∧
      w.cell? (ad.add (i * 2)) = some (.slice PA f.params.length pc) ∧ w.cell? ⟨(ad.add (i * 2)).block, (ad.add (i * 2)).off + 1, none⟩ = some (.int .i64 f.body) := by
  obtain ⟨A', c', e, _, _, h3⟩ := h
  injection e with e1 e2 e3
  subst e1 e3
  obtain ⟨ad, PA, pc, hA, hb, hp, hr, hl, c0, c1⟩ := h3 i f hi
  exact ⟨ad, PA, pc, hA, hb, hp, hr, hl, c0, spell9 (j := 0) c1⟩
end

set_option maxRecDepth 100000 in
set_option maxHeartbeats 4000000 in
theorem fparams_any (l : List Int) (v : Value) (B : Nat) (w : World) (hV : IV w B v l) : Calls Tryz.prog 25 #[v] w fun e w' => e = .returned (.bool (parG l)) ∧ Only [] w w' := by
  by_cases h65 : l.length = 65
  · match l, h65 with
    | x :: r, h65 =>
      have hr : r.length = 64 := by simpa using h65
      obtain ⟨A, c, rfl, hc0, hcm⟩ := hV.len
      have hT := hV.tail
      obtain ⟨ad, c', he, hlt, cx, hc, _⟩ := hV.cons
      injection he with he1 he2 he3
      subst he1 he3
      have hne : ¬ c = 1 := by omega
      rw [if_neg hne, hr] at hT
      have hT' : IV w B (.slice (some ⟨ad.block, ad.off + 1, none⟩) 64 (c - 1)) r := hT
      have HCO := Lib.hid (fun n => con_any r _ x B (w.drewN n) (hT'.keep (fun _ _ => rfl)))
      have HPA := Lib.hid (fun n => cparams_any r _ B (w.drewN n) (hT'.keep (fun _ _ => rfl)))
      obtain ⟨R, hR⟩ : ∃ R, parG (x :: r) = R := ⟨_, rfl⟩
      rw [hR]
      have hR2 : (decide (0 ≤ x) && (!r.contains x && parOk r)) = R := by rw [← hR]; unfold parG; rw [if_pos (by rw [List.length_cons, hr])]
      rw [h65]
      have h1c : (1 : Int) ≤ (c : Int) := by omega
      have h65c : (65 : Int) ≤ (c : Int) := by omega
      clear hR hT hT' hV hlt hcm h65 hr hc0 he2 hc
      by_cases h0 : 0 ≤ x
      · have q0 := decide_eq_true h0
        rw [q0, Bool.true_and] at hR2
        cases hx1 : r.contains x
        · simp only [hx1] at HCO
          rw [hx1] at hR2
          rw [Bool.not_false, Bool.true_and] at hR2
          simp only [hR2] at HPA
          clear hx1 h0 hR2
          go_enter Tryz.func25, Tryz.ntmps25
          go_upto_region 2 with fail
          go_quiet (first
              | (go_at_call 15; exact Calls.quiet_of_same ((HCO.out _).mono fun _ _ hh => ⟨hh.1, hh.2.symm⟩))
              | (go_at_call 54; exact Calls.quiet_of_same ((HPA.out _).mono fun _ _ hh => ⟨hh.1, hh.2.symm⟩)))
          go_wp2_with fail
          go_ret
          exact ⟨rfl, (Only.refl _ _).drewN _⟩
        · rw [hx1] at hR2
          obtain rfl : R = false := by rw [← hR2]; rfl
          obtain ⟨cb, hcb⟩ : ∃ cb, r.contains x = cb := ⟨_, rfl⟩
          simp only [hcb] at HCO
          have hq : (!cb) = false := by rw [← hcb, hx1]; rfl
          clear hx1 h0 hR2 HPA hcb
          go_enter Tryz.func25, Tryz.ntmps25
          go_upto_region 2 with fail
          go_quiet (first | (go_at_call 15; exact Calls.quiet_of_same ((HCO.out _).mono fun _ _ hh => ⟨hh.1, hh.2.symm⟩)))
          go_wp2_with fail
          go_ret
          exact ⟨rfl, (Only.refl _ _).drewN _⟩
      · have q0 := decide_eq_false h0
        obtain rfl : R = false := by rw [← hR2, q0]; rfl
        clear h0 hR2 HPA HCO
        go_enter Tryz.func25, Tryz.ntmps25
        go_upto_region 2 with fail
        go_quiet (fail)
        go_wp2_with fail
        go_ret
        exact ⟨rfl, (Only.refl _ _).drewN _⟩
  · have HPA := Lib.hid (cparams_any l v B w hV)
    obtain ⟨A, c, rfl, h1, h2⟩ := hV.len
    have q := b_false (show (l.length : Int) ≠ 65 by omega)
    have hp : parG l = parOk l := if_neg h65
    rw [hp]
    clear hV h65 hp
    go_enter Tryz.func25, Tryz.ntmps25
    go_wp2_with (go_at_call 54; ((with_reducible refine (HPA.out).mono ?_); rintro e w' ⟨rfl, rfl⟩))
    go_ret
    exact ⟨rfl, Only.refl _ _⟩
end Go.Proofs.YtjhdlnllhjffkaaGreatDoor

namespace Go.Proofs.YtjhdlnllhjffkaaGreatDoor
open Go.RowKit LamM CpsM CloM

/-- The runner's cells: machine, nodes, functions, entry, place, scope, done?, outcome. -/
def RF (M : Nat) (lv fv : Value) (en at_ : Int) (env : Value) (over : Bool) (st : Int) : Array Value := #[.pointer (some ⟨M, 0, none⟩), lv, fv, .int .i64 en, .int .i64 at_, env, .bool over, .slice none 0 0, .int .i64 st, .string ⟨#[]⟩, .int .i64 0]
theorem infoVlF : (Tryz.prog.info? 136).map (fun i => (i.zero, i.size, i.bytes)) = some (some .nilIface, 1, 16) := by kernel_rfl
theorem undVlF : Tryz.prog.underlying 129 = some (.slice 136) := by kernel_rfl

set_option maxRecDepth 100000 in
set_option maxHeartbeats 4000000 in
theorem fatoms0_any (R : Nat) (A : Option Addr) (c : Nat) (w : World) : Calls Tryz.prog 65 #[runV R, .slice A 0 c] w fun e w' => ∃ g, e = .returned (.slice (some ⟨g, 0, none⟩) 0 0) ∧ Only [] w w' := by
  obtain ⟨i0, hi0, hz0, hz1, hz2⟩ := info_parts infoVlF
  go_enter Tryz.func65, Tryz.ntmps65
  go_wp2_with (refine wpList_make_full _ rfl _ _ _ rfl w.heap.size 136 i0 .nilIface 1 undVlF hi0 hz0 hz1 _ _ _ _ 0 rfl rfl (by omega) (by omega) (by rw [hz2]; omega) (by unfold maxLen; omega) (Nat.le_refl _) ?_)
  intro w1 hown1 hgrow1
  have HO1 := Lib.hid (show Only [] w w1 from (Only.refl [] w).grown hgrow1 (fun k hk => by cases hk))
  clear hown1 hgrow1
  go_wp2_with fail
  refine wp_loop_rounds 1 ?_
  rw [rounds_succ]
  go_wp2_with fail
  go_ret
  exact ⟨_, rfl, HO1.out⟩

set_option maxRecDepth 100000 in
set_option maxHeartbeats 4000000 in
theorem fenter0_any (fs : List FnD) (f : FnD) (m R M g B : Nat) (fad : Addr) (fc : Nat) (lv : Value) (en at_ st : Int) (env : Value) (over : Bool) (w : World) (hf : fs[m]? = some f) (hp : f.params = []) (hF : FnV w B (.slice (some fad) fs.length fc) fs) (hBR : B ≤ R)
    (hR : Blk w R 88 (RF M lv (.slice (some fad) fs.length fc) en at_ env over st)) :
    Calls Tryz.prog 70 #[runV R, .int .i64 (m : Int), .slice (some ⟨g, 0, none⟩) 0 0] w fun e w' => e = .returned (.tuple #[]) ∧ Blk w' R 88 (RF M lv (.slice (some fad) fs.length fc) en f.body (.pointer none) over st) ∧ Only [R] w w' := by
  have hml : m < fs.length := (List.getElem?_eq_some_iff.1 hf).1
  have hm0 : (m : Int) < (fs.length : Int) := by omega
  have hm2 : decide (fs.length ≤ m) = false := decide_eq_false (by omega)
  obtain ⟨adx, PA, pc, hadE, hfb, _, _, _, d0, d1⟩ := hF.at2 hf
  obtain rfl := Option.some.inj hadE
  rw [hp, List.length_nil] at d0
  have HR := Lib.hid hR
  have r2 : w.cell? ⟨R, 2, none⟩ = some (.slice (some fad) fs.length fc) := hR.cell 2
  have r5 : w.cell? ⟨R, 5, none⟩ = some env := hR.cell 5
  have r4 : w.cell? ⟨R, 4, none⟩ = some (.int .i64 at_) := hR.cell 4
  have f4 := hR.frozen 4
  have f5 := hR.frozen 5
  have HW1 := Lib.hid (show Blk (w.setCell ⟨R, 5, none⟩ (.pointer none)) R 88 (RF M lv (.slice (some fad) fs.length fc) en at_ (.pointer none) over st) from hR.set_ 5 (.pointer none))
  have hne : (fad.add (m * 2)).block ≠ R := by rw [block_of_add]; omega
  have HO := Lib.hid (show Only [R] w (w.setCell ⟨R, 5, none⟩ (.pointer none)) from (Only.refl _ _).one)
  have e0 : (w.setCell ⟨R, 5, none⟩ (.pointer none)).cell? (fad.add (m * 2)) = some (.slice PA 0 pc) := only_cell HO.out (by simpa using hne) d0
  have e1 : (w.setCell ⟨R, 5, none⟩ (.pointer none)).cell? ⟨(fad.add (m * 2)).block, (fad.add (m * 2)).off + 1, none⟩ = some (.int .i64 f.body) := only_cell HO.out (by simpa using hne) d1
  have s2 : (w.setCell ⟨R, 5, none⟩ (.pointer none)).cell? ⟨R, 2, none⟩ = some (.slice (some fad) fs.length fc) := HW1.out.cell 2
  have s4 : (w.setCell ⟨R, 5, none⟩ (.pointer none)).cell? ⟨R, 4, none⟩ = some (.int .i64 at_) := HW1.out.cell 4
  have t4 := HW1.out.frozen 4
  clear hR hF hf hp hadE hfb hBR hml hne
  go_enter Tryz.func70, Tryz.ntmps70
  go_wp2_with fail
  refine wp_loop_rounds 1 ?_
  rw [rounds_succ]
  go_wp2_with fail
  go_end0
  exact ⟨rfl, HW1.out.set_ 4 (.int .i64 f.body), HO.out.one⟩
end Go.Proofs.YtjhdlnllhjffkaaGreatDoor

namespace Go.Proofs.YtjhdlnllhjffkaaGreatDoor
open Go.RowKit LamM CpsM CloM

set_option maxRecDepth 100000 in
set_option maxHeartbeats 8000000 in
theorem fmove_go (fs : List FnD) (f : FnD) (t : Fl) (hk : t.k = 15) (m : Nat) (hm : t.m = (m : Int)) (VA KA AA : Option Addr) (vn kn vc kc ac R M B : Nat) (fad : Addr) (fc : Nat) (lv : Value) (en at_ st : Int) (env : Value) (over : Bool) (w : World) (hf : fs[m]? = some f) (hp : f.params = [])
    (hF : FnV w B (.slice (some fad) fs.length fc) fs) (hBR : B ≤ R) (hR : Blk w R 88 (RF M lv (.slice (some fad) fs.length fc) en at_ env over st)) :
    Calls Tryz.prog 47 #[runV R, .agg #[.int .i64 t.k, .int .i64 t.n, .int .i64 t.m, .int .i64 t.i, .int .u64 t.b, .string ⟨t.t.toArray⟩, .slice VA vn vc, .slice KA kn kc, .slice AA 0 ac]] w fun e w' => e = .returned (.tuple #[]) ∧
      Blk w' R 88 (RF M lv (.slice (some fad) fs.length fc) en f.body (.pointer none) over st) ∧ Only [R] w w' := by
  obtain ⟨W, hW⟩ : ∃ W, w.alloc (BoxF t (.slice VA vn vc) (.slice KA kn kc) (.slice AA 0 ac)) = W := ⟨_, rfl⟩
  have HO := Lib.hid (show Only [] w W by rw [← hW]; exact (Only.refl _ _).alloc _)
  have HX := Lib.hid (show Blk W w.heap.size 43 #[.int .i64 t.k, .int .i64 t.n, .int .i64 t.m, .int .i64 t.i, .int .u64 t.b, .string ⟨t.t.toArray⟩, .slice VA vn vc, .slice KA kn kc, .slice AA 0 ac] by rw [← hW]; exact Blk.new _ _ _)
  have hRl := hR.lt
  have HEN := Lib.hid (fun (w2 : World) (g : Nat) (ho : Only [] w w2) => fenter0_any fs f m R M g B fad fc lv en at_ st env over w2 hf hp (hF.keep (fun p hp => World.cell?_of_block (ho.block p.block (by omega) (by simp)))) hBR (hR.only ho (by simp)))
  have HAT := Lib.hid (fun w2 => fatoms0_any R AA ac w2)
  have HRW := Lib.hid (show ¬ w.heap.size = R by omega)
  unfold BoxF at hW
  rw [hk, hm] at hW HX ⊢
  have c0 : W.cell? ⟨w.heap.size, 0, none⟩ = some (.int .i64 15) := HX.out.cell 0
  have c8 : W.cell? ⟨w.heap.size, 8, none⟩ = some (.slice AA 0 ac) := HX.out.cell 8
  have K0 := Lib.hid (show W.drew.cell? ⟨w.heap.size, 2, none⟩ = some (.int .i64 (m : Int)) ∧ W.drew.cell? ⟨w.heap.size, 8, none⟩ = some (.slice AA 0 ac) from ⟨HX.out.drew.cell 2, HX.out.drew.cell 8⟩)
  clear hf hp hF hBR hR hRl hk hm
  go_enter Tryz.func47, Tryz.ntmps47
  go_upto_region 21 with fail
  clear hW
  go_region_held3 (fun w' => w'.cell? ⟨w.heap.size, 2, none⟩ = some (.int .i64 (m : Int)) ∧ w'.cell? ⟨w.heap.size, 8, none⟩ = some (.slice AA 0 ac)) (first | with_reducible exact K0.out | with_reducible exact K4.out | with_reducible exact K5.out)
    (first
      | (go_at_call 65; ((with_reducible refine (HAT.out _).mono ?_); rintro e w4 ⟨g, rfl, ho4⟩; have HO4 := Lib.hid ((HO.out.drew).trans ho4); have HX4 := Lib.hid (HX.out.drew.only ho4 (by simp)); have HEN4 := Lib.hid (HEN.out w4 g HO4.out); have K4 := Lib.hid (show w4.cell? ⟨w.heap.size, 2, none⟩ = some (.int .i64 (m : Int)) ∧ w4.cell? ⟨w.heap.size, 8, none⟩ = some (.slice AA 0 ac) from ⟨HX4.out.cell 2, HX4.out.cell 8⟩); clear ho4))
      | (go_at_call 70; ((with_reducible refine (HEN4.out).mono ?_); rintro e w5 ⟨rfl, h1, h2⟩; have HQ := Lib.hid (show _ ∧ _ from ⟨h1, (HO4.out.mono (by simp)).trans h2⟩); have HNE := Lib.hid (h1.lt); have K5 := Lib.hid (show w5.cell? ⟨w.heap.size, 2, none⟩ = some (.int .i64 (m : Int)) ∧ w5.cell? ⟨w.heap.size, 8, none⟩ = some (.slice AA 0 ac) from ⟨(HX4.out.only h2 (by simpa using HRW.out)).cell 2, (HX4.out.only h2 (by simpa using HRW.out)).cell 8⟩); clear h1 h2)))
  all_goals
    go_wp2_with fail
    go_end0
    exact ⟨rfl, HQ.out⟩

set_option maxRecDepth 100000 in
set_option maxHeartbeats 4000000 in
theorem fmove_halt (t : Fl) (hk : t.k = 13) (VA KA AA : Option Addr) (vn kn an vc kc ac R M : Nat) (lv fv : Value) (en at_ st : Int) (env : Value) (over : Bool) (w : World) (hR : Blk w R 88 (RF M lv fv en at_ env over st)) :
    Calls Tryz.prog 47 #[runV R, .agg #[.int .i64 t.k, .int .i64 t.n, .int .i64 t.m, .int .i64 t.i, .int .u64 t.b, .string ⟨t.t.toArray⟩, .slice VA vn vc, .slice KA kn kc, .slice AA an ac]] w fun e w' => e = .returned (.tuple #[]) ∧
      Blk w' R 88 (RF M lv fv en at_ env true 1) ∧ Only [R] w w' := by
  obtain ⟨W, hW⟩ : ∃ W, w.alloc (BoxF t (.slice VA vn vc) (.slice KA kn kc) (.slice AA an ac)) = W := ⟨_, rfl⟩
  have HO := Lib.hid (show Only [] w W by rw [← hW]; exact (Only.refl _ _).alloc _)
  have HX := Lib.hid (show Blk W w.heap.size 43 #[.int .i64 t.k, .int .i64 t.n, .int .i64 t.m, .int .i64 t.i, .int .u64 t.b, .string ⟨t.t.toArray⟩, .slice VA vn vc, .slice KA kn kc, .slice AA an ac] by rw [← hW]; exact Blk.new _ _ _)
  have HR := Lib.hid (hR.only HO.out (by simp))
  unfold BoxF at hW
  rw [hk] at hW HX ⊢
  have c0 : W.cell? ⟨w.heap.size, 0, none⟩ = some (.int .i64 13) := HX.out.cell 0
  have c8 : W.cell? ⟨w.heap.size, 8, none⟩ = some (.slice AA an ac) := HX.out.cell 8
  have r6 : W.cell? ⟨R, 6, none⟩ = some (.bool over) := HR.out.cell 6
  have r8 : W.cell? ⟨R, 8, none⟩ = some (.int .i64 st) := HR.out.cell 8
  have f6 := HR.out.frozen 6
  have f8 := HR.out.frozen 8
  clear hR hk
  go_enter Tryz.func47, Tryz.ntmps47
  go_wp2_with fail
  go_end0
  exact ⟨rfl, (HR.out.set_ 6 (.bool true)).set_ 8 (.int .i64 1), ((HO.out.mono (by simp)).one).one⟩
end Go.Proofs.YtjhdlnllhjffkaaGreatDoor

namespace Go.Proofs.YtjhdlnllhjffkaaGreatDoor
open Go.RowKit LamM Go.Maps

theorem anyS_step {P : Program} {md : Region.Mode} {ops : Array Oper} {Q : Exit → Act → List Frame → World → Prop} {fuel : Nat} {listed : Array Bool} {a : Act} {cs : List Frame} {w : World} {rs : List Nat} (hr : Region.ready md ops listed = rs) (hne : rs ≠ [])
    (h : ∀ i ∈ rs, opS P ops Q i (anyS P md ops Q fuel (listed.setIfInBounds i true)) a cs w) : anyS P md ops Q (fuel + 1) listed a cs w :=
  ⟨fun h0 => absurd (hr.symm.trans h0) hne, by rw [hr]; exact h⟩

set_option maxRecDepth 100000 in
set_option maxHeartbeats 8000000 in
theorem frun1_ret (rb R M ob on oc : Nat) (oa : Option Addr) (dv : Value) (steps fuel : Int) (st ex oo sp : Value) (w : World) (hrb : w.cell? ⟨rb, 0, none⟩ = some (.pointer (some ⟨R, 0, none⟩))) (hR0 : w.cell? ⟨R, 0, none⟩ = some (.pointer (some ⟨M, 0, none⟩)))
    (hM : Blk w M 119 (MC (.slice oa on oc) steps fuel dv)) (hO : Blk w ob 58 #[oo, st, ex, sp]) (hMO : M ≠ ob) :
    CallsD Tryz.prog 44 #[.pointer (some ⟨rb, 0, none⟩), .pointer (some ⟨ob, 0, none⟩)] .returning w fun e u' w' => e = .returned (.tuple #[]) ∧ u' = .returning ∧ Blk w' ob 58 #[.slice oa on oc, st, ex, .int .i64 steps] ∧ Only [ob] w w' := by
  have HE := Lib.hid (ended_nil M ob on oc oa dv steps fuel oo st ex sp w.drew hM.drew hO.drew hMO)
  clear hM hO hMO
  refine callsD_of_wpS Tryz.func44 rfl fun c₀ cs hu => ?_
  apply wpS_region_any (by kernel_rfl)
  generalize hQ : (bodyPostS Tryz.prog Tryz.f44 c₀ cs fun e u' w' => e = .returned (.tuple #[]) ∧ u' = .returning ∧ Blk w' ob 58 #[.slice oa on oc, st, ex, .int .i64 steps] ∧ Only [ob] w w') = Q
  change anyS _ _ _ _ 6 (Array.replicate 6 false) { tmps := #[.pointer (some ⟨rb, 0, none⟩), .pointer (some ⟨ob, 0, none⟩), undef, undef, undef, undef, undef, undef], defers := [] } _ _
  refine anyS_step (rs := [0, 4]) (by kernel_rfl) (by simp) ?_
  intro i hi
  rcases List.mem_cons.1 hi with rfl | hi
  · simp [opS, go_sem, hrb]
    refine anyS_step (rs := [1, 4]) (by kernel_rfl) (by simp) ?_
    intro i hi
    rcases List.mem_cons.1 hi with rfl | hi
    · simp [opS, go_sem]
      refine anyS_step (rs := [2, 4]) (by kernel_rfl) (by simp) ?_
      intro i hi
      rcases List.mem_cons.1 hi with rfl | hi
      · simp [opS, go_sem]
        refine anyS_step (rs := [3, 4]) (by kernel_rfl) (by simp) ?_
        intro i hi
        rcases List.mem_cons.1 hi with rfl | hi
        · simp [opS, go_sem, hR0]
          refine anyS_step (rs := [4]) (by kernel_rfl) (by simp) ?_
          intro i hi
          obtain rfl := List.mem_singleton.1 hi
          simp [opS, go_sem, recoverD, hu]
          refine anyS_step (rs := [5]) (by kernel_rfl) (by simp) ?_
          intro i hi
          obtain rfl := List.mem_singleton.1 hi
          simp [opS, go_sem]
          refine (HE.out).mono ?_
          rintro e w' ⟨rfl, h1, h2⟩
          show anyS _ _ _ _ 0 _ _ _ _
          refine ⟨by kernel_rfl, ?_⟩
          rw [← hQ]
          exact ⟨rfl, _, (by cases c₀; simp_all), _, results_none rfl _ _ _, rfl, rfl, h1, ((Only.refl [ob] w).drew).trans h2⟩
        · obtain rfl := List.mem_singleton.1 hi
          simp [opS, go_sem, recoverD, hu]
          refine anyS_step (rs := [3]) (by kernel_rfl) (by simp) ?_
          intro i hi
          obtain rfl := List.mem_singleton.1 hi
          simp [opS, go_sem, hR0]
          refine anyS_step (rs := [5]) (by kernel_rfl) (by simp) ?_
          intro i hi
          obtain rfl := List.mem_singleton.1 hi
          simp [opS, go_sem]
          refine (HE.out).mono ?_
          rintro e w' ⟨rfl, h1, h2⟩
          show anyS _ _ _ _ 0 _ _ _ _
          refine ⟨by kernel_rfl, ?_⟩
          rw [← hQ]
          exact ⟨rfl, _, (by cases c₀; simp_all), _, results_none rfl _ _ _, rfl, rfl, h1, ((Only.refl [ob] w).drew).trans h2⟩
      · obtain rfl := List.mem_singleton.1 hi
        simp [opS, go_sem, recoverD, hu]
        refine anyS_step (rs := [2]) (by kernel_rfl) (by simp) ?_
        intro i hi
        obtain rfl := List.mem_singleton.1 hi
        simp [opS, go_sem]
        refine anyS_step (rs := [3]) (by kernel_rfl) (by simp) ?_
        intro i hi
        obtain rfl := List.mem_singleton.1 hi
        simp [opS, go_sem, hR0]
        refine anyS_step (rs := [5]) (by kernel_rfl) (by simp) ?_
        intro i hi
        obtain rfl := List.mem_singleton.1 hi
        simp [opS, go_sem]
        refine (HE.out).mono ?_
        rintro e w' ⟨rfl, h1, h2⟩
        show anyS _ _ _ _ 0 _ _ _ _
        refine ⟨by kernel_rfl, ?_⟩
        rw [← hQ]
        exact ⟨rfl, _, (by cases c₀; simp_all), _, results_none rfl _ _ _, rfl, rfl, h1, ((Only.refl [ob] w).drew).trans h2⟩
    · obtain rfl := List.mem_singleton.1 hi
      simp [opS, go_sem, recoverD, hu]
      refine anyS_step (rs := [1]) (by kernel_rfl) (by simp) ?_
      intro i hi
      obtain rfl := List.mem_singleton.1 hi
      simp [opS, go_sem]
      refine anyS_step (rs := [2]) (by kernel_rfl) (by simp) ?_
      intro i hi
      obtain rfl := List.mem_singleton.1 hi
      simp [opS, go_sem]
      refine anyS_step (rs := [3]) (by kernel_rfl) (by simp) ?_
      intro i hi
      obtain rfl := List.mem_singleton.1 hi
      simp [opS, go_sem, hR0]
      refine anyS_step (rs := [5]) (by kernel_rfl) (by simp) ?_
      intro i hi
      obtain rfl := List.mem_singleton.1 hi
      simp [opS, go_sem]
      refine (HE.out).mono ?_
      rintro e w' ⟨rfl, h1, h2⟩
      show anyS _ _ _ _ 0 _ _ _ _
      refine ⟨by kernel_rfl, ?_⟩
      rw [← hQ]
      exact ⟨rfl, _, (by cases c₀; simp_all), _, results_none rfl _ _ _, rfl, rfl, h1, ((Only.refl [ob] w).drew).trans h2⟩
  · obtain rfl := List.mem_singleton.1 hi
    simp [opS, go_sem, recoverD, hu]
    refine anyS_step (rs := [0]) (by kernel_rfl) (by simp) ?_
    intro i hi
    obtain rfl := List.mem_singleton.1 hi
    simp [opS, go_sem, hrb]
    refine anyS_step (rs := [1]) (by kernel_rfl) (by simp) ?_
    intro i hi
    obtain rfl := List.mem_singleton.1 hi
    simp [opS, go_sem]
    refine anyS_step (rs := [2]) (by kernel_rfl) (by simp) ?_
    intro i hi
    obtain rfl := List.mem_singleton.1 hi
    simp [opS, go_sem]
    refine anyS_step (rs := [3]) (by kernel_rfl) (by simp) ?_
    intro i hi
    obtain rfl := List.mem_singleton.1 hi
    simp [opS, go_sem, hR0]
    refine anyS_step (rs := [5]) (by kernel_rfl) (by simp) ?_
    intro i hi
    obtain rfl := List.mem_singleton.1 hi
    simp [opS, go_sem]
    refine (HE.out).mono ?_
    rintro e w' ⟨rfl, h1, h2⟩
    show anyS _ _ _ _ 0 _ _ _ _
    refine ⟨by kernel_rfl, ?_⟩
    rw [← hQ]
    exact ⟨rfl, _, (by cases c₀; simp_all), _, results_none rfl _ _ _, rfl, rfl, h1, ((Only.refl [ob] w).drew).trans h2⟩

set_option maxRecDepth 100000 in
set_option maxHeartbeats 8000000 in
theorem frun1_pan (rb R M ob on oc : Nat) (oa : Option Addr) (dv : Value) (steps fuel : Int) (st ex oo sp : Value) (w : World) (hrb : w.cell? ⟨rb, 0, none⟩ = some (.pointer (some ⟨R, 0, none⟩))) (hR0 : w.cell? ⟨R, 0, none⟩ = some (.pointer (some ⟨M, 0, none⟩)))
    (hM : Blk w M 119 (MC (.slice oa on oc) steps fuel dv)) (hO : Blk w ob 58 #[oo, st, ex, sp]) (hMO : M ≠ ob) :
    CallsD Tryz.prog 44 #[.pointer (some ⟨rb, 0, none⟩), .pointer (some ⟨ob, 0, none⟩)] (.panicking [{ v := overV, recovered := false }]) w fun e u' w' => e = .returned (.tuple #[]) ∧ u' = .panicking [{ v := overV, recovered := true }] ∧ Blk w' ob 58 #[.slice oa on oc, .int .i64 3, .string ⟨#[]⟩, .int .i64 steps] ∧ Only [ob] w w' := by
  have HE := Lib.hid (ended_over M ob on oc oa dv steps fuel oo st ex sp w.drew hM.drew hO.drew hMO)
  clear hM hO hMO
  refine callsD_of_wpS Tryz.func44 rfl fun c₀ cs hu => ?_
  apply wpS_region_any (by kernel_rfl)
  generalize hQ : (bodyPostS Tryz.prog Tryz.f44 c₀ cs fun e u' w' => e = .returned (.tuple #[]) ∧ u' = .panicking [{ v := overV, recovered := true }] ∧ Blk w' ob 58 #[.slice oa on oc, .int .i64 3, .string ⟨#[]⟩, .int .i64 steps] ∧ Only [ob] w w') = Q
  change anyS _ _ _ _ 6 (Array.replicate 6 false) { tmps := #[.pointer (some ⟨rb, 0, none⟩), .pointer (some ⟨ob, 0, none⟩), undef, undef, undef, undef, undef, undef], defers := [] } _ _
  refine anyS_step (rs := [0, 4]) (by kernel_rfl) (by simp) ?_
  intro i hi
  rcases List.mem_cons.1 hi with rfl | hi
  · simp [opS, go_sem, hrb]
    refine anyS_step (rs := [1, 4]) (by kernel_rfl) (by simp) ?_
    intro i hi
    rcases List.mem_cons.1 hi with rfl | hi
    · simp [opS, go_sem]
      refine anyS_step (rs := [2, 4]) (by kernel_rfl) (by simp) ?_
      intro i hi
      rcases List.mem_cons.1 hi with rfl | hi
      · simp [opS, go_sem]
        refine anyS_step (rs := [3, 4]) (by kernel_rfl) (by simp) ?_
        intro i hi
        rcases List.mem_cons.1 hi with rfl | hi
        · simp [opS, go_sem, hR0]
          refine anyS_step (rs := [4]) (by kernel_rfl) (by simp) ?_
          intro i hi
          obtain rfl := List.mem_singleton.1 hi
          simp [opS, go_sem, recoverD, hu]
          refine anyS_step (rs := [5]) (by kernel_rfl) (by simp) ?_
          intro i hi
          obtain rfl := List.mem_singleton.1 hi
          simp [opS, go_sem]
          refine (HE.out).mono ?_
          rintro e w' ⟨rfl, h1, h2⟩
          show anyS _ _ _ _ 0 _ _ _ _
          refine ⟨by kernel_rfl, ?_⟩
          rw [← hQ]
          exact ⟨rfl, _, rfl, _, results_none rfl _ _ _, rfl, rfl, h1, ((Only.refl [ob] w).drew).trans h2⟩
        · obtain rfl := List.mem_singleton.1 hi
          simp [opS, go_sem, recoverD, hu]
          refine anyS_step (rs := [3]) (by kernel_rfl) (by simp) ?_
          intro i hi
          obtain rfl := List.mem_singleton.1 hi
          simp [opS, go_sem, hR0]
          refine anyS_step (rs := [5]) (by kernel_rfl) (by simp) ?_
          intro i hi
          obtain rfl := List.mem_singleton.1 hi
          simp [opS, go_sem]
          refine (HE.out).mono ?_
          rintro e w' ⟨rfl, h1, h2⟩
          show anyS _ _ _ _ 0 _ _ _ _
          refine ⟨by kernel_rfl, ?_⟩
          rw [← hQ]
          exact ⟨rfl, _, rfl, _, results_none rfl _ _ _, rfl, rfl, h1, ((Only.refl [ob] w).drew).trans h2⟩
      · obtain rfl := List.mem_singleton.1 hi
        simp [opS, go_sem, recoverD, hu]
        refine anyS_step (rs := [2]) (by kernel_rfl) (by simp) ?_
        intro i hi
        obtain rfl := List.mem_singleton.1 hi
        simp [opS, go_sem]
        refine anyS_step (rs := [3]) (by kernel_rfl) (by simp) ?_
        intro i hi
        obtain rfl := List.mem_singleton.1 hi
        simp [opS, go_sem, hR0]
        refine anyS_step (rs := [5]) (by kernel_rfl) (by simp) ?_
        intro i hi
        obtain rfl := List.mem_singleton.1 hi
        simp [opS, go_sem]
        refine (HE.out).mono ?_
        rintro e w' ⟨rfl, h1, h2⟩
        show anyS _ _ _ _ 0 _ _ _ _
        refine ⟨by kernel_rfl, ?_⟩
        rw [← hQ]
        exact ⟨rfl, _, rfl, _, results_none rfl _ _ _, rfl, rfl, h1, ((Only.refl [ob] w).drew).trans h2⟩
    · obtain rfl := List.mem_singleton.1 hi
      simp [opS, go_sem, recoverD, hu]
      refine anyS_step (rs := [1]) (by kernel_rfl) (by simp) ?_
      intro i hi
      obtain rfl := List.mem_singleton.1 hi
      simp [opS, go_sem]
      refine anyS_step (rs := [2]) (by kernel_rfl) (by simp) ?_
      intro i hi
      obtain rfl := List.mem_singleton.1 hi
      simp [opS, go_sem]
      refine anyS_step (rs := [3]) (by kernel_rfl) (by simp) ?_
      intro i hi
      obtain rfl := List.mem_singleton.1 hi
      simp [opS, go_sem, hR0]
      refine anyS_step (rs := [5]) (by kernel_rfl) (by simp) ?_
      intro i hi
      obtain rfl := List.mem_singleton.1 hi
      simp [opS, go_sem]
      refine (HE.out).mono ?_
      rintro e w' ⟨rfl, h1, h2⟩
      show anyS _ _ _ _ 0 _ _ _ _
      refine ⟨by kernel_rfl, ?_⟩
      rw [← hQ]
      exact ⟨rfl, _, rfl, _, results_none rfl _ _ _, rfl, rfl, h1, ((Only.refl [ob] w).drew).trans h2⟩
  · obtain rfl := List.mem_singleton.1 hi
    simp [opS, go_sem, recoverD, hu]
    refine anyS_step (rs := [0]) (by kernel_rfl) (by simp) ?_
    intro i hi
    obtain rfl := List.mem_singleton.1 hi
    simp [opS, go_sem, hrb]
    refine anyS_step (rs := [1]) (by kernel_rfl) (by simp) ?_
    intro i hi
    obtain rfl := List.mem_singleton.1 hi
    simp [opS, go_sem]
    refine anyS_step (rs := [2]) (by kernel_rfl) (by simp) ?_
    intro i hi
    obtain rfl := List.mem_singleton.1 hi
    simp [opS, go_sem]
    refine anyS_step (rs := [3]) (by kernel_rfl) (by simp) ?_
    intro i hi
    obtain rfl := List.mem_singleton.1 hi
    simp [opS, go_sem, hR0]
    refine anyS_step (rs := [5]) (by kernel_rfl) (by simp) ?_
    intro i hi
    obtain rfl := List.mem_singleton.1 hi
    simp [opS, go_sem]
    refine (HE.out).mono ?_
    rintro e w' ⟨rfl, h1, h2⟩
    show anyS _ _ _ _ 0 _ _ _ _
    refine ⟨by kernel_rfl, ?_⟩
    rw [← hQ]
    exact ⟨rfl, _, rfl, _, results_none rfl _ _ _, rfl, rfl, h1, ((Only.refl [ob] w).drew).trans h2⟩

end Go.Proofs.YtjhdlnllhjffkaaGreatDoor
