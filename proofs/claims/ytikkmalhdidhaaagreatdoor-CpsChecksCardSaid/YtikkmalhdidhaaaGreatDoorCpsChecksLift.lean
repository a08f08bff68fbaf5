/- For every list of nodes and every root, 'cps' and the document agree on which are programs and which variables are free: the lift of the walk to the row. -/
import Derived.Test.YtikkmalhdidhaaaGreatDoorCpsLaw
import Derived.Test.YtikkmalhdidhaaaGreatDoorCpsAU
import Derived.Test.YtikkmalhdidhaaaGreatDoorRows
import Derived.ProofKit
import Derived.Handed
import Derived.LaidOnce
import Derived.MakeChecks
import Derived.Lay
import Derived.Carry
import Derived.LaidLaws
import Derived.Lib.SmallJoins
import Derived.ChangeFn
namespace Go
variable {H : Type} {enc : TypeId × Value → H}
/-- The plain wrap with a condition more, and the form's own reach handed on. -/
theorem returnsIn_and_sized {a : Assume} {C : Checked} {os : Os} {f : FuncId} {fn : Func} {s : ChangeSpec} {conds : List PathCond} {apart fresh handsOn again : Bool} {X : World → Array Value → Prop}
    (own : ownKnob C.prog.godebug = none) (started : os.Started) (noInit : C.prog.inits.idxOf? f = none) (hfn : C.prog.funcs[f]? = some fn)
    (witness : ∃ (w : World) (tape : Tape) (i : Input), w.os = os ∧ (w.forCall tape i).Shaped C.prog ∧ i.vars = [] ∧ Input.okWide C.prog (w.forCall tape i) .any w.heap.size f i ∧
      ((s.pre enc C.prog fn conds apart (w.forCall tape i).memory i.args ∧ X (w.forCall tape i).memory i.args) ∧ sizedMet enc C.prog fn (OpenSpec.ofChange s) apart (w.forCall tape i).memory i.args) ∧ a.holds C.prog (lone (Frame.enter C.prog f i.args .normal) [] (w.forCall tape i)))
    (contract : ∀ (W : World) (base : Nat) (args : Array Value) (ds gs : List (DataW H)) (before : List MemPlace),
      (∀ (j : Nat) t v, fn.params[j]? = some t → args[j]? = some v → Value.okWide C.prog W .any base t v) →
      DataW.Whole enc C.prog fn.params.toList s.vars apart W args.toList ds gs before →
      (DataW.weightsEach C.prog (fn.params.toList ++ s.plain.varTypes C.prog) (ds ++ gs)).all (· ≤ reachBytes) = true →
      Calls C.prog f args W fun e W' => ∃ v, e = .returned v ∧ s.post enc C.prog fn apart fresh handsOn again W args v W') :
    ReturnsInHanded a C os f .any (fun w args => (s.pre enc C.prog fn conds apart w args ∧ X w args) ∧ sizedMet enc C.prog fn (OpenSpec.ofChange s) apart w args) (s.post enc C.prog fn apart fresh handsOn again) := by
  refine returnsInHanded_of_calls own started noInit witness ?_
  intro w tape i _ _ _ hok hpre _
  obtain ⟨_, _, _, fn', hfn', _, _, _, _, hval⟩ := hok
  have e : fn' = fn := Option.some.inj (hfn'.symm.trans hfn)
  subst e
  obtain ⟨⟨⟨ds, gs, before, hw, _⟩, _⟩, hz⟩ := hpre
  have hw' := DataW.Whole.of_heap (w' := w.forCall tape i) (by rfl) hw
  refine (contract (w.forCall tape i) w.heap.size i.args ds gs before hval hw' (hz.weights hw)).mono fun e W' ⟨v, he, hp⟩ => ?_
  subst he
  exact ChangeSpec.post_blind hp
end Go
namespace Go.Proofs.YtikkmalhdidhaaaGreatDoor
open Go.Deep Go.RowKit Go.ChangeShapes Go.WideShapes Go.ChangeAt Go.Joins LamM CpsM

theorem own_none : ownKnob Tryz.prog.godebug = none := by kernel_rfl
theorem laid_out : laidOutB Tryz.prog = true := by kernel_rfl

theorem light_one {H : Type} {P : Program} {t : TypeId} {d : DataW H} (h : (DataW.weightsEach P [t] [d]).all (· ≤ reachBytes) = true) : Light P t d := fun n hn => by
  have := List.all_eq_true.1 h n (DataW.weights_mem_each (ts := [t]) (ds := [d]) (j := 0) rfl rfl n hn)
  simpa using this
set_option maxRecDepth 100000 in
/-- The argument, opened: nodes and a root. -/
theorem arg_read {H : Type} {enc : TypeId × Value → H} {r : Reach} {b0 : Nat} {w : World} {v : Value} {d : DataW H} {p : List MemPlace} (hv : Value.okWide Tryz.prog w r b0 24 v)
    (h : DataW.Trod enc Tryz.prog w 0 (fun _ => true) true 24 v d p) (hz : (DataW.weightsEach Tryz.prog [24] [d]).all (· ≤ reachBytes) = true) :
    ∃ (L : List Fl) (x : Value) (root : Int), v = .agg #[x, .int .i64 root] ∧ NF w w.heap.size x L := by
  have hL := light_one hz
  have hC : Tryz.prog.cellsOf 24 = 2 := by kernel_rfl
  obtain ⟨f0, f1, hs, hone, e0, e1⟩ : ∃ f0 f1, Tryz.prog.underlying 24 = some (.struct #[f0, f1]) ∧ oneCellFields Tryz.prog #[f0, f1] = true ∧ f0.type = 22 ∧ f1.type = 3 :=
    ⟨_, _, Tryz.underlying24, by kernel_rfl, rfl, rfl⟩
  obtain ⟨v0, v1, y0, y1, n, rfl, rfl, _, t0, t1⟩ := open_agg2 hs hone hC hv h
  have l0 := Light.agg hL hs (j := 0) (f := f0) (d := y0.1) rfl rfl
  rw [e0] at t0 l0
  rw [e1] at t1
  obtain ⟨root, e2, _, _⟩ := DataW.trod_int (by kernel_rfl : Tryz.prog.underlying 3 = some (.int .i64)) t1
  injection e2 with e2
  subst e2
  obtain ⟨L, hN⟩ := nodes_readF (P := Tryz.prog) (t := 22) Tryz.underlying22 (by kernel_rfl) Tryz.underlying40 (by kernel_rfl) (by kernel_rfl) (by kernel_rfl) (by kernel_rfl) (by kernel_rfl) (by kernel_rfl) (by kernel_rfl) (by kernel_rfl)
    rfl rfl rfl Tryz.underlying25 (by kernel_rfl) (by kernel_rfl) (by kernel_rfl) Tryz.underlying38 Tryz.underlying113 (by kernel_rfl) (by kernel_rfl) (by kernel_rfl) (by kernel_rfl) (by kernel_rfl) (by kernel_rfl) t0 l0
  exact ⟨L, v0, root, rfl, hN⟩

set_option maxRecDepth 100000 in
theorem cpsChecks_lifted (os : Os) (started : os.Started) (H : Type) (enc : TypeId × Value → H) :
    ReturnsInHanded {} Tryz.checked os 3 .any (fun w args => (Rows.cpsChecksSpec.pre enc Tryz.prog Tryz.f3 [] false w args ∧ laidMetH Tryz.prog Rows.cpsChecksRow.laid w) ∧ sizedMet enc Tryz.prog Tryz.f3 (OpenSpec.ofChange Rows.cpsChecksSpec) false w args)
      (Rows.cpsChecksSpec.post enc Tryz.prog Tryz.f3 false true false false) := by
  refine returnsIn_and_sized (C := Tryz.checked) (X := fun w _ => laidMetH Tryz.prog Rows.cpsChecksRow.laid w) own_none started (by kernel_rfl) Tryz.func3
    (ChangeSpec.witness_shaped (enc := enc) (C := Tryz.checked) (os := os) (X := fun w _ => laidMetH Tryz.prog Rows.cpsChecksRow.laid w) false (World.laidAll Tryz.prog os Rows.cpsChecksRow.laid) #[.agg #[.slice none 0 0, .int .i64 0]] 8 (World.laidAll_os _ _ _)
      (World.shaped_of_ZipB (by kernel_rfl) (by kernel_rfl)) (by kernel_rfl) (by kernel_rfl) (by kernel_rfl)
      (by rw [MakeChecks.laidMetH_plain _ _ _ (by kernel_rfl)]; exact laidMet_laidAll _ (by kernel_rfl) (by kernel_rfl))) ?_
  intro W base args ds gs before hval0 hW hsz0
  have hsz : (DataW.weightsEach Tryz.prog (Tryz.f3.params.toList ++ Rows.cpsChecksSpec.plain.varTypes Tryz.prog) (ds ++ gs)).all (· ≤ reachBytes) = true := hsz0
  clear hsz0
  have hval : ∀ (j : Nat) t v, Tryz.f3.params[j]? = some t → args[j]? = some v → Value.okWide Tryz.prog W .any base t v := hval0
  have hW' := hW
  obtain ⟨p, q, hA0, hV, rfl, _, _⟩ := hW
  have hA : DataW.TrodAll enc Tryz.prog W 0 (fun _ => true) true Tryz.f3.params.toList args.toList ds p := hA0
  rw [Tryz.params3] at hA hval hsz
  obtain ⟨v0, d0, rfl, rfl, h0⟩ := trodAll_one hA
  obtain ⟨rfl, rfl⟩ := trodVars_none hV
  have hz : (DataW.weightsEach Tryz.prog [24] [d0]).all (· ≤ reachBytes) = true := hsz
  obtain ⟨L, x, root, rfl, hN⟩ := arg_read (hval 0 24 v0 rfl rfl) h0 hz
  simp only [List.append_nil] at hW'
  refine (law_any L x root W hN).mono fun e W' ⟨he, hb⟩ => ?_
  subst he
  exact ⟨_, rfl, _, _, _, [], p, [], hW', trodAll_mk1 (shut_bool Tryz.underlying4 _), trodAll_mk1 (Below.trod laid_out (by kernel_rfl) (of_decide_eq_true (by kernel_rfl)) h0 hb (fun y hy => by simpa using hW'.lt y hy)), rfl, hb.frame _, fun h => by cases h⟩

end Go.Proofs.YtikkmalhdidhaaaGreatDoor
