/- Close: Run of the two programs that the law runs. Close: what the converter's move calls, reads and writes. -/
import Derived.Test.YtjhdlnllhjffkaaGreatDoorCloRu
import Derived.Test.YtjhdlnllhjffkaaGreatDoorCloSo
import Derived.Test.YtjhdlnllhjffkaaGreatDoorCpsB
import Derived.Maps.OwnSet
import Derived.Maps.OwnOps
namespace CloM
open LamM CpsM
def goFl : Fl := ⟨15, 0, 0, 0, 0, [], [], [], []⟩
def loopF : List Fl := [goFl]
def loopFs : List FnD := [⟨[], 0⟩]
def numFl : Fl := ⟨2, 0, 0, 0, 0, [], [], [], []⟩
def endFl : Fl := ⟨13, 0, 0, 0, 0, [], [], [], [0]⟩
def convF : List Fl := [numFl, endFl]
def convFs : List FnD := [⟨[], 1⟩]
theorem check_loopF : checkF prims loopF loopFs 0 = 0 := by decide
theorem check_convF : checkF prims convF convFs 0 = 0 := by decide
end CloM
namespace Go.Proofs.YtjhdlnllhjffkaaGreatDoor
open Go.RowKit LamM CpsM CloM Go.Maps

theorem keepF {w w' : World} {M B : Nat} (ho : Only [M] w w') (hB : B ≤ w.heap.size) (hM : B ≤ M) : ∀ p : Addr, p.block < B → w'.cell? p = w.cell? p :=
  fun p hp => World.cell?_of_block (ho.block p.block (by omega) (by simp; omega))
set_option maxRecDepth 100000 in
theorem frun_loop (ad : Addr) (nc : Nat) (fad : Addr) (fc : Nat) (w : World) (hN : NF w w.heap.size (.slice (some ad) loopF.length nc) loopF) (hF : FnV w w.heap.size (.slice (some fad) loopFs.length fc) loopFs) :
    Calls Tryz.prog 21 #[.agg #[.slice (some ad) loopF.length nc, .slice (some fad) loopFs.length fc, .int .i64 0], .slice none 0 0, .int .i64 100] w fun e w' => e = .returned (.tuple #[.agg #[.slice none 0 0, .int .i64 3, .string ⟨#[]⟩, .int .i64 100], .int .i64 0]) ∧ Below w.heap.size w w' := by
  refine (frun_any loopF loopFs 0 ⟨[], 0⟩ 0 0 rfl rfl rfl ad nc fad fc w (fun st steps => st = 3 ∧ steps = 100) (fun R M _ w' => Blk w' R 88 (RF M (.slice (some ad) loopF.length nc) (.slice (some fad) loopFs.length fc) 0 0 (.pointer none) false 0)) check_loopF (by decide) (by decide) hF hN (fun R M w' h _ => h) (fun R M k w' dv hS hb hR hM hMc => ?_)).mono ?_
  · have hz := hb.size
    refine ⟨0, .pointer none, .inr ⟨hS, fun _ => ⟨rfl, rfl⟩, goFl, rfl, fun VA KA AA vc kc ac hFV w'' ho => ?_⟩⟩
    have hne := hMc.ne_ hS (by decide)
    refine (fmove_go loopFs ⟨[], 0⟩ goFl rfl 0 rfl VA KA AA _ _ vc kc ac R M w.heap.size fad fc _ 0 0 0 _ false w'' rfl rfl ((hF.keep (fun p hp => hb.cell hp)).keep (keepF ho hz hM)) hR (hS.only ho (by simp; omega))).mono ?_
    rintro e w3 ⟨he, h1, h2⟩
    exact ⟨he, h1, h2⟩
  · rintro e w' ⟨st, steps, rfl, ⟨rfl, rfl⟩, hb⟩
    exact ⟨rfl, hb⟩
set_option maxRecDepth 100000 in
theorem frun_conv (ad : Addr) (nc : Nat) (fad : Addr) (fc : Nat) (w : World) (hN : NF w w.heap.size (.slice (some ad) convF.length nc) convF) (hF : FnV w w.heap.size (.slice (some fad) convFs.length fc) convFs) :
    Calls Tryz.prog 21 #[.agg #[.slice (some ad) convF.length nc, .slice (some fad) convFs.length fc, .int .i64 0], .slice none 0 0, .int .i64 100] w fun e w' => ∃ steps, e = .returned (.tuple #[.agg #[.slice none 0 0, .int .i64 1, .string ⟨#[]⟩, .int .i64 steps], .int .i64 0]) ∧ Below w.heap.size w w' := by
  refine (frun_any convF convFs 0 ⟨[], 1⟩ 0 1 rfl rfl rfl ad nc fad fc w (fun st _ => st = 1) (fun R M k w' => (k = 0 ∧ Blk w' R 88 (RF M (.slice (some ad) convF.length nc) (.slice (some fad) convFs.length fc) 0 1 (.pointer none) false 0)) ∨ Blk w' R 88 (RF M (.slice (some ad) convF.length nc) (.slice (some fad) convFs.length fc) 0 1 (.pointer none) true 1)) check_convF (by decide) (by decide) hF hN (fun R M w' h _ => .inl ⟨rfl, h⟩) (fun R M k w' dv hS hb hR hM hMc => ?_)).mono ?_
  · rcases hS with ⟨rfl, hS⟩ | hS
    · refine ⟨1, .pointer none, .inr ⟨hS, fun h => absurd h (by decide), endFl, rfl, fun VA KA AA vc kc ac hFV w'' ho => ?_⟩⟩
      have hne := hMc.ne_ hS (by decide)
      refine (fmove_halt endFl rfl VA KA AA _ _ _ vc kc ac R M _ _ 0 1 0 _ false w'' (hS.only ho (by simp; omega))).mono ?_
      rintro e w3 ⟨he, h1, h2⟩
      exact ⟨he, .inr h1, h2⟩
    · exact ⟨1, .pointer none, .inl ⟨hS, rfl⟩⟩
  · rintro e w' ⟨st, steps, rfl, rfl, hb⟩
    exact ⟨steps, rfl, hb⟩
end Go.Proofs.YtjhdlnllhjffkaaGreatDoor

namespace Go.Proofs.YtjhdlnllhjffkaaGreatDoor
open Go.RowKit LamM CpsM CloM Go.Maps

abbrev nilV : Value := .slice none 0 0
theorem blk_atC {w : World} {n : Nat} (h : w.heap.size = n) (t : TypeId) (cs : Array Value) : Blk (w.alloc (.cells cs t)) n t cs := by subst h; exact Blk.new w t cs
theorem one_nil : ∀ u ∈ [nilV, nilV, nilV], u.oneCell' = true := by decide
theorem fatom2 (w : World) : Calls Tryz.prog 29 #[.int .i64 2] w fun e w' => e = .returned (.bool true) ∧ w = w' := catom_any 2 w
theorem undKs : Tryz.prog.underlying 41 = some (.slice 151) := by kernel_rfl
set_option maxRecDepth 100000 in
set_option maxHeartbeats 4000000 in
theorem clone_nil (w : World) : Calls Tryz.prog 78 #[.slice none 0 0] w fun e w' => e = .returned (.slice none 0 0) ∧ w = w' := by
  have qn : ∀ (w : World) (a : Option Addr) (n c n' c' : Nat), (binOp .eql 41 (.slice a n c) (.slice none n' c')).run Tryz.prog w = .ok (.bool a.isNone) w := fun w a n c n' c' => Lib.run_eql_slice_nil w _ _ a n c n' c' undKs
  go_enter Tryz.func78, Tryz.ntmps78
  go_wp2_with fail
  go_ret
  exact ⟨rfl, rfl⟩
set_option maxRecDepth 100000 in
set_option maxHeartbeats 4000000 in
theorem next_none (C : Nat) (w : World) (h : w.cell? ⟨C, 7, none⟩ = some (.slice none 0 0)) :
    Calls Tryz.prog 52 #[.pointer (some ⟨C, 7, none⟩)] w fun e w' => e = .returned (.tuple #[.agg #[.pointer none, .int .i64 0], .bool false]) ∧ Only [] w w' := by
  have h2 : ∀ o p, ((w.alloc o).alloc p).cell? ⟨C, 7, none⟩ = some (.slice none 0 0) := fun o p => only_cell (((Only.refl [] w).alloc o).alloc p) (by simp) h
  clear h
  go_enter Tryz.func52, Tryz.ntmps52
  go_wp2_with fail
  refine bodyPost_ret (v := .tuple #[.agg #[.pointer none, .int .i64 0], .bool false]) ?_ rfl ⟨rfl, ?_⟩
  · simp [results, Tryz.results52, go_sem]
  · repeat (first | exact (Only.refl [] w).alloc _ | refine Only.alloc ?_ _ | refine Only.setCell ?_ (.inr (by simp)) _)
theorem undMI : Tryz.prog.underlying 97 = some (.map 3 3) := by kernel_rfl
theorem undInt : Tryz.prog.underlying 3 = some (.int .i64) := by kernel_rfl
theorem zeroInt (w : World) : (zeroValue 3).run Tryz.prog w = .ok (.int .i64 0) w := by kernel_rfl
/-- A map of numbers. -/
def MapI (w : World) (M n : Nat) (D : DataW Value) : Prop := w.ownsMap Tryz.prog 3 (plainElem Tryz.prog 3) M n D
section
variable {w w' : World} {M n : Nat} {D : DataW Value}
theorem MapI.only {bs : List Nat} (h : MapI w M n D) (ho : Only bs w w') (hM : M ∉ bs) : MapI w' M n D := by
  obtain ⟨es, clock, hb, F, hz, hD⟩ := h
  exact ⟨es, clock, (ho.block M (Array.getElem?_eq_some_iff.1 hb).1 hM).trans hb, F, hz, hD⟩
theorem MapI.lt (h : MapI w M n D) : M < w.heap.size := World.ownsMap.lt h
theorem MapI.ne {g : Nat} {t : TypeId} {cs : Array Value} (h : MapI w M n D) (hg : Blk w g t cs) : M ≠ g := by
  obtain ⟨es, clock, hb, _⟩ := h
  rintro rfl
  have := hb.symm.trans hg
  cases this
theorem look_none (h : MapI w M n (.map [])) : (Instr.lookup 97 (.map (some M)) (.int .i64 1) true).run Tryz.prog w = .ok (.tuple #[.int .i64 0, .bool false]) w := by
  obtain ⟨v, ps, h1, h2⟩ := World.ownsMap.look_ok h (int_keyed undInt) undMI (zeroInt w) (plainElem_int undInt (by decide)) (keyOf_int_mk undInt (a := 1) (by decide))
  obtain ⟨c, rfl, hc, _⟩ := plainElem_int_inv undInt h2
  have h3 : (DataW.map [] : DataW Value).atKey (.int .i64 1) (.lit (.int .i64 0)) = .lit (.int .i64 c) := (Prod.mk.inj hc).1
  have h4 : (DataW.lit (.int .i64 0) : DataW Value) = .lit (.int .i64 c) := h3
  have h6 : (0 : Int) = c := congrArg (fun d : DataW Value => match d with | .lit (.int _ x) => x | _ => 0) h4
  rw [← h6] at h1
  exact h1
end
end Go.Proofs.YtjhdlnllhjffkaaGreatDoor
