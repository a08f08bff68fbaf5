/- Lambda: the runner's end: Step at the end of fuel, Ended. Lambda: what Run defers: a region that draws its order and recovers. -/
import Derived.Test.YtmedfpejfpdpdaaGreatDoorLamAK
import Derived.Recover
import Derived.Orders
namespace Go.Proofs.YtmedfpejfpdpdaaGreatDoor
open Go.RowKit LamM Go.Maps

/-- What Step panics with. -/
abbrev overV : Value := .iface 103 (.agg #[.int .i64 3])
set_option maxRecDepth 100000 in
set_option maxHeartbeats 2000000 in
theorem step_over (M : Nat) (out dv : Value) (steps fuel : Int) (w : World) (h : fuel ≤ steps) (hM : Blk w M 97 (MC out steps fuel dv)) :
    Calls Tryz.prog 55 #[runV M] w fun e w' => e = .panicked [{ v := overV, recovered := false }] ∧ Only [] w w' := by
  have c1 : w.cell? ⟨M, 1, none⟩ = some (.int .i64 steps) := hM.cell 1
  have c2 : w.cell? ⟨M, 2, none⟩ = some (.int .i64 fuel) := hM.cell 2
  have q1 : decide (fuel ≤ steps) = true := decide_eq_true (by omega)
  clear hM
  go_enter Tryz.func55, Tryz.ntmps55
  go_upto_region 0 with fail
  go_quiet (fail)
  go_wp2_with fail
  exact ⟨rfl, rfl, (Only.refl [] w).drewN nq⟩
theorem ta_over_nil : ∀ w, (Instr.typeAssert .nilIface 20 103 true).run Tryz.prog w = .ok (.tuple #[.agg #[.int .i64 0], .bool false]) w := fun w => by kernel_rfl
theorem ta_over : ∀ w, (Instr.typeAssert overV 20 103 true).run Tryz.prog w = .ok (.tuple #[.agg #[.int .i64 3], .bool true]) w := fun w => by kernel_rfl
set_option maxRecDepth 100000 in
set_option maxHeartbeats 4000000 in
theorem ended_nil (M ob on oc : Nat) (oa : Option Addr) (dv : Value) (steps fuel : Int) (oo st ex sp : Value) (w : World) (hM : Blk w M 97 (MC (.slice oa on oc) steps fuel dv)) (hO : Blk w ob 59 #[oo, st, ex, sp]) (_ : M ≠ ob) :
    Calls Tryz.prog 42 #[runV M, .nilIface, .pointer (some ⟨ob, 0, none⟩)] w fun e w' => e = .returned (.tuple #[]) ∧ Blk w' ob 59 #[.slice oa on oc, st, ex, .int .i64 steps] ∧ Only [ob] w w' := by
  have hta := ta_over_nil
  have HM0 := Lib.hid hM
  have HO0 := Lib.hid hO
  clear hM hO
  go_enter Tryz.func42, Tryz.ntmps42
  go_upto_region 5 with fail
  obtain ⟨W1, hW⟩ : ∃ W1, w.alloc (.cells #[.int .i64 0] 103) = W1 := ⟨_, rfl⟩
  have HO1 := Lib.hid (show Only [] w W1 by rw [← hW]; exact (Only.refl [] w).alloc _)
  rw [hW]
  clear hW
  have HM := Lib.hid (HM0.out.only HO1.out (by simp))
  have HO := Lib.hid (HO0.out.only HO1.out (by simp))
  have g0 : W1.cell? ⟨ob, 0, none⟩ = some oo := HO.out.cell 0
  have g3 : W1.cell? ⟨ob, 3, none⟩ = some sp := HO.out.cell 3
  have e0 : W1.frozen? ⟨ob, 0, none⟩ = false := HO.out.frozen 0
  have e3 : W1.frozen? ⟨ob, 3, none⟩ = false := HO.out.frozen 3
  have c0 : W1.drew.cell? ⟨M, 0, none⟩ = some (.slice oa on oc) := HM.out.cell 0
  have c1 : W1.drew.cell? ⟨M, 1, none⟩ = some (.int .i64 steps) := HM.out.cell 1
  have d0 : W1.drew.cell? ⟨ob, 0, none⟩ = some oo := HO.out.cell 0
  have d3 : W1.drew.cell? ⟨ob, 3, none⟩ = some sp := HO.out.cell 3
  have f0 : W1.drew.frozen? ⟨ob, 0, none⟩ = false := HO.out.frozen 0
  have f3 : W1.drew.frozen? ⟨ob, 3, none⟩ = false := HO.out.frozen 3
  go_region
  all_goals
    go_end0
    exact ⟨rfl, ((HO.out.set_ 0 (.slice oa on oc)).set_ 3 (.int .i64 steps)).drew, (((HO1.out.mono (by simp)).one).one).drew⟩
set_option maxRecDepth 100000 in
set_option maxHeartbeats 4000000 in
theorem ended_over (M ob on oc : Nat) (oa : Option Addr) (dv : Value) (steps fuel : Int) (oo st ex sp : Value) (w : World) (hM : Blk w M 97 (MC (.slice oa on oc) steps fuel dv)) (hO : Blk w ob 59 #[oo, st, ex, sp]) (hMO : M ≠ ob) :
    Calls Tryz.prog 42 #[runV M, overV, .pointer (some ⟨ob, 0, none⟩)] w fun e w' => e = .returned (.tuple #[]) ∧ Blk w' ob 59 #[.slice oa on oc, .int .i64 3, .string ⟨#[]⟩, .int .i64 steps] ∧ Only [ob] w w' := by
  have hta := ta_over
  have HM0 := Lib.hid hM
  have HO0 := Lib.hid hO
  clear hM hO
  go_enter Tryz.func42, Tryz.ntmps42
  have HOL := Lib.hid HO0.out.lt
  have z0 : (w.alloc (.cells #[.int .i64 3] 103)).cell? ⟨ob, 0, none⟩ = some oo := (HO0.out.alloc _).cell 0
  have z1 : (w.alloc (.cells #[.int .i64 3] 103)).cell? ⟨ob, 1, none⟩ = some st := (HO0.out.alloc _).cell 1
  have z2 : (w.alloc (.cells #[.int .i64 3] 103)).cell? ⟨ob, 2, none⟩ = some ex := (HO0.out.alloc _).cell 2
  have z3 : (w.alloc (.cells #[.int .i64 3] 103)).cell? ⟨ob, 3, none⟩ = some sp := (HO0.out.alloc _).cell 3
  have y0 := (HO0.out.alloc (.cells #[.int .i64 3] 103)).frozen 0
  have y1 := (HO0.out.alloc (.cells #[.int .i64 3] 103)).frozen 1
  have y2 := (HO0.out.alloc (.cells #[.int .i64 3] 103)).frozen 2
  have y3 := (HO0.out.alloc (.cells #[.int .i64 3] 103)).frozen 3
  go_upto_region 5 with fail
  clear z0 z1 z2 z3 y0 y1 y2 y3
  obtain ⟨W1, hW⟩ : ∃ W1, ((((w.alloc (.cells #[.int .i64 3] 103)).setCell ⟨ob, 0, none⟩ (.slice none 0 0)).setCell ⟨ob, 1, none⟩ (.int .i64 3)).setCell ⟨ob, 2, none⟩ (.string ⟨#[]⟩)).setCell ⟨ob, 3, none⟩ (.int .i64 0) = W1 := ⟨_, rfl⟩
  have HO1 := Lib.hid (show Only [ob] w W1 by rw [← hW]; exact (((((Only.refl [ob] w).alloc _).one).one).one).one)
  have HOX := Lib.hid (show Blk W1 ob 59 #[.slice none 0 0, .int .i64 3, .string ⟨#[]⟩, .int .i64 0] by rw [← hW]; exact ((((HO0.out.alloc _).set_ 0 (.slice none 0 0)).set_ 1 (.int .i64 3)).set_ 2 (.string ⟨#[]⟩)).set_ 3 (.int .i64 0))
  rw [hW]
  clear hW
  have HM := Lib.hid (HM0.out.only HO1.out (fun h => hMO (List.mem_singleton.1 h)))
  have HO := HOX
  have g0 : W1.cell? ⟨ob, 0, none⟩ = some (.slice none 0 0) := HO.out.cell 0
  have g3 : W1.cell? ⟨ob, 3, none⟩ = some (.int .i64 0) := HO.out.cell 3
  have e0 : W1.frozen? ⟨ob, 0, none⟩ = false := HO.out.frozen 0
  have e3 : W1.frozen? ⟨ob, 3, none⟩ = false := HO.out.frozen 3
  have c0 : W1.drew.cell? ⟨M, 0, none⟩ = some (.slice oa on oc) := HM.out.cell 0
  have c1 : W1.drew.cell? ⟨M, 1, none⟩ = some (.int .i64 steps) := HM.out.cell 1
  have d0 : W1.drew.cell? ⟨ob, 0, none⟩ = some (.slice none 0 0) := HO.out.cell 0
  have d3 : W1.drew.cell? ⟨ob, 3, none⟩ = some (.int .i64 0) := HO.out.cell 3
  have f0 : W1.drew.frozen? ⟨ob, 0, none⟩ = false := HO.out.frozen 0
  have f3 : W1.drew.frozen? ⟨ob, 3, none⟩ = false := HO.out.frozen 3
  go_region
  all_goals
    go_end0
    exact ⟨rfl, ((HO.out.set_ 0 (.slice oa on oc)).set_ 3 (.int .i64 steps)).drew, ((HO1.out.one).one).drew⟩
end Go.Proofs.YtmedfpejfpdpdaaGreatDoor

namespace Go.Proofs.YtmedfpejfpdpdaaGreatDoor
open Go.RowKit LamM Go.Maps

section
variable {P : Program} {md : Region.Mode} {ops : Array Oper} {Q : Exit → Act → List Frame → World → Prop}
theorem upon_mono {o : Oper} {a : Act} {K K' : Act → World → Prop} {QQ : Exit → Act → World → Prop} (h : ∀ a w, K a w → K' a w) : ∀ {r : Result Next}, o.upon P a K QQ r → o.upon P a K' QQ r := by
  intro r hr
  cases r with
  | ok n w' =>
    cases n <;> simp only [Oper.upon] at hr ⊢
    case value v => exact h _ _ hr
    case skip => exact h _ _ hr
    case defer d => exact h _ _ hr
    case enter f args =>
      refine Calls.mono hr fun e w'' he => ?_
      cases e with
      | returned v => exact h _ _ he
      | panicked c => exact he
      | outgrown => exact he
    case row row args => exact Rows.mono hr fun v w'' hv => h _ _ hv
  | halt x w' => cases x <;> simp only [Oper.upon] at hr ⊢ <;> exact hr
/-- One operation, the frames beside it. -/
def opS (P : Program) (ops : Array Oper) (Q : Exit → Act → List Frame → World → Prop) (i : Nat) (K : Act → List Frame → World → Prop) (a : Act) (cs : List Frame) (w : World) : Prop :=
  match ops[i]? with
  | none => K a cs w
  | some o =>
    if Region.wanted o (yielded ops a.tmps) then
      match (execOp a.eval o).run P w with
      | .ok .recover w' =>
        match recoverD cs with
        | some (v, cs') => K (a.put o.dst v) cs' w'
        | none => K (a.put o.dst .nilIface) cs w'
      | r => o.upon P a (fun a' w' => K a' cs w') (fun e a' w' => Q e a' cs w') r
    else K (a.put o.dst undef) cs w
theorem opS_mono {i : Nat} {K K' : Act → List Frame → World → Prop} (h : ∀ a cs w, K a cs w → K' a cs w) {a : Act} {cs : List Frame} {w : World} (hk : opS P ops Q i K a cs w) : opS P ops Q i K' a cs w := by
  unfold opS at hk ⊢
  split at hk
  · exact h _ _ _ hk
  · split at hk
    · next hw =>
      rw [if_pos hw]
      generalize (execOp a.eval _).run P w = r at hk ⊢
      rcases r with ⟨n, w'⟩ | ⟨x, w'⟩
      · cases n with
        | recover =>
          simp only at hk ⊢
          cases hrec : recoverD cs with
          | none => rw [hrec] at hk; exact h _ _ _ hk
          | some q => rw [hrec] at hk; exact h _ _ _ hk
        | value v => exact upon_mono (K := fun a' w' => K a' cs w') (fun a w hh => h a cs w hh) hk
        | skip => exact upon_mono (K := fun a' w' => K a' cs w') (fun a w hh => h a cs w hh) hk
        | defer d => exact upon_mono (K := fun a' w' => K a' cs w') (fun a w hh => h a cs w hh) hk
        | enter f args => exact upon_mono (K := fun a' w' => K a' cs w') (fun a w hh => h a cs w hh) hk
        | row row args => exact upon_mono (K := fun a' w' => K a' cs w') (fun a w hh => h a cs w hh) hk
        | _ => exact hk
      · exact upon_mono (K := fun a' w' => K a' cs w') (fun a w hh => h a cs w hh) hk
    · next hw => rw [if_neg hw]; exact h _ _ _ hk
theorem opsS_cons {i : Nat} {rest : List Nat} {a : Act} {cs : List Frame} {w : World} : wpOpsS P ops Q (i :: rest) a cs w = opS P ops Q i (wpOpsS P ops Q rest) a cs w := by
  unfold opS
  rw [wpOpsS]
  rfl
/-- Whatever order is picked. -/
def anyS (P : Program) (md : Region.Mode) (ops : Array Oper) (Q : Exit → Act → List Frame → World → Prop) : Nat → Array Bool → Act → List Frame → World → Prop
  | 0, listed, a, cs, w => Region.ready md ops listed = [] ∧ Q .normal a cs w
  | fuel + 1, listed, a, cs, w => (Region.ready md ops listed = [] → Q .normal a cs w) ∧ ∀ i ∈ Region.ready md ops listed, opS P ops Q i (anyS P md ops Q fuel (listed.setIfInBounds i true)) a cs w
theorem anyS_sound : ∀ (fuel t : Nat) (listed : Array Bool) (a : Act) (cs : List Frame) (w : World), anyS P md ops Q fuel listed a cs w → wpOpsS P ops Q (Region.linearise.go md ops fuel t listed []) a cs w := by
  intro fuel
  induction fuel with
  | zero => intro t listed a cs w h; simpa [Region.linearise.go, wpOpsS] using h.2
  | succ fuel ih =>
    intro t listed a cs w h
    obtain ⟨h0, h1⟩ := h
    simp only [Region.linearise.go]
    change wpOpsS P ops Q (match (Region.ready md ops listed)[t % (Region.ready md ops listed).length]? with
      | some i => Region.linearise.go md ops fuel (t / (Region.ready md ops listed).length) (listed.setIfInBounds i true) [i]
      | none => [].reverse) a cs w
    cases hi : (Region.ready md ops listed)[t % (Region.ready md ops listed).length]? with
    | none =>
      have hnil : Region.ready md ops listed = [] := by
        rcases hl : Region.ready md ops listed with _ | ⟨x, xs⟩
        · rfl
        · rw [hl, List.getElem?_eq_none_iff] at hi
          have := Nat.mod_lt t (show 0 < (x :: xs).length by simp)
          omega
      simpa [wpOpsS] using h0 hnil
    | some i =>
      simp only []
      rw [linearise_go_acc, List.reverse_singleton, List.singleton_append, opsS_cons]
      exact opS_mono (fun a cs w => ih _ _ a cs w) (h1 i (List.mem_of_getElem? hi))
theorem wpS_region_any {id : Nat} {a : Act} {cs : List Frame} {w : World} (hm : P.follows .mixedOrders = true) (h : anyS P .any ops Q ops.size (Array.replicate ops.size false) a cs w.drew) : (Code.region id ops true).wpS P Q a cs w := by
  intro b k hb hr
  have hs : wpOpsS P ops Q (Region.schedule (P.follows .mixedOrders) ops (w.tape w.drawn (.order b.fn id))) a cs { w with drawn := w.drawn + 1 } := by
    simp only [Region.schedule, hm, Bool.true_or, if_true]
    exact anyS_sound ops.size _ _ a cs _ h
  obtain ⟨e, a', cs', w', q, r⟩ := wp_opsS _ a cs _ hs b k hb hr
  exact ⟨e, a', cs', w', q, .of_steps (.one step_region_draw) r⟩
end
end Go.Proofs.YtmedfpejfpdpdaaGreatDoor
