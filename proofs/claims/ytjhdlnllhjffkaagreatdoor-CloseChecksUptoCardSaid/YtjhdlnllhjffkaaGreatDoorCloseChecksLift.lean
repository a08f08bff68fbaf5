/- For every flat program whose values and letters are at most 1048576, 'close' and the document agree on whether it is one: the lift of the walk to the row of the second form. -/
import Derived.Test.YtjhdlnllhjffkaaGreatDoorCloLaw
import Derived.Test.YtjhdlnllhjffkaaGreatDoorCloMp
import Derived.Test.YtjhdlnllhjffkaaGreatDoorRows
import Derived.ProofKit
import Derived.Handed
import Derived.LaidOnce
import Derived.MakeChecks
import Derived.Lay
import Derived.Carry
import Derived.LaidLaws
import Derived.Lib.SmallJoins
import Derived.ChangeFn
import Derived.Deep.DeepHandedRow
namespace Go.Proofs.YtjhdlnllhjffkaaGreatDoor
open Go.Deep Go.RowKit Go.ChangeShapes Go.WideShapes Go.ChangeAt Go.Joins LamM CpsM CloM

theorem own_none : ownKnob Tryz.prog.godebug = none := by kernel_rfl
theorem laid_out : laidOutB Tryz.prog = true := by kernel_rfl

theorem light_one {H : Type} {P : Program} {t : TypeId} {d : DataW H} (h : (DataW.weightsEach P [t] [d]).all (· ≤ reachBytes) = true) : Light P t d := fun n hn => by
  have := List.all_eq_true.1 h n (DataW.weights_mem_each (ts := [t]) (ds := [d]) (j := 0) rfl rfl n hn)
  simpa using this
/-- What the bound says of the one argument. -/
theorem small_one {H : Type} {d : DataW H} (h : Rows.uptoSmall H [d] = true) : Rows.uptoBulk d ≤ 1048576 := by
  have h1 : Rows.uptoBulkAll [d] ≤ 1048576 := of_decide_eq_true h
  simp only [Rows.uptoBulkAll] at h1
  omega
set_option maxRecDepth 100000 in
/-- The argument, opened: nodes, functions and an entry. -/
theorem arg_read {H : Type} {enc : TypeId × Value → H} {r : Reach} {b0 : Nat} {w : World} {v : Value} {d : DataW H} {p : List MemPlace} (hv : Value.okWide Tryz.prog w r b0 25 v)
    (h : DataW.Trod enc Tryz.prog w 0 (fun _ => true) true 25 v d p) (hz : (DataW.weightsEach Tryz.prog [25] [d]).all (· ≤ reachBytes) = true) (hB : Rows.uptoBulk d ≤ 1048576) :
    ∃ (L : List Fl) (fs : List FnD) (x y : Value) (entry : Int), v = .agg #[x, y, .int .i64 entry] ∧ NF w w.heap.size x L ∧ FnV w w.heap.size y fs ∧ ∀ t ∈ L, t.args.length ≤ 1048576 := by
  have hL := light_one hz
  have hC : Tryz.prog.cellsOf 25 = 3 := by kernel_rfl
  obtain ⟨f0, f1, f2, hs, hone, e0, e1, e2⟩ : ∃ f0 f1 f2, Tryz.prog.underlying 25 = some (.struct #[f0, f1, f2]) ∧ oneCellFields Tryz.prog #[f0, f1, f2] = true ∧ f0.type = 22 ∧ f1.type = 23 ∧ f2.type = 3 :=
    ⟨_, _, _, Tryz.underlying25, by kernel_rfl, rfl, rfl, rfl⟩
  obtain ⟨v0, v1, v2, y0, y1, y2, n, rfl, rfl, _, t0, t1, t2⟩ := open_agg3 hs hone hC hv h
  have l0 := Light.agg hL hs (j := 0) (f := f0) (d := y0.1) rfl rfl
  have l1 := Light.agg hL hs (j := 1) (f := f1) (d := y1.1) rfl rfl
  rw [e0] at t0 l0
  rw [e1] at t1 l1
  rw [e2] at t2
  have b0' := bulk_part (d := y0.1) (l := [y0.1, y1.1, y2.1]) (by simp)
  have b1' := bulk_part (d := y1.1) (l := [y0.1, y1.1, y2.1]) (by simp)
  have hB' : Rows.uptoBulkAll [y0.1, y1.1, y2.1] + 1 ≤ 1048576 := by simpa only [Rows.uptoBulk] using hB
  clear hB
  obtain ⟨entry, e3, _, _⟩ := DataW.trod_int (by kernel_rfl : Tryz.prog.underlying 3 = some (.int .i64)) t2
  injection e3 with e3
  subst e3
  obtain ⟨L, hN, hA⟩ := nodes_readB (P := Tryz.prog) (t := 22) Tryz.underlying22 (by kernel_rfl) Tryz.underlying43 (by kernel_rfl) (by kernel_rfl) (by kernel_rfl) (by kernel_rfl) (by kernel_rfl) (by kernel_rfl) (by kernel_rfl) (by kernel_rfl)
    rfl rfl rfl Tryz.underlying31 (by kernel_rfl) (by kernel_rfl) (by kernel_rfl) Tryz.underlying41 Tryz.underlying151 (by kernel_rfl) (by kernel_rfl) (by kernel_rfl) (by kernel_rfl) (by kernel_rfl) (by kernel_rfl) t0 l0
  obtain ⟨fs, hF⟩ := funs_read (P := Tryz.prog) (t := 23) Tryz.underlying23 (by kernel_rfl) Tryz.underlying33 (by kernel_rfl) (by kernel_rfl) rfl (by kernel_rfl) Tryz.underlying31 (by kernel_rfl) (by kernel_rfl) (by kernel_rfl) t1 l1 (by omega)
  exact ⟨L, fs, v0, v1, entry, rfl, hN, hF, fun t ht => Nat.le_trans (hA t ht) (by omega)⟩

theorem laid_met (os : Os) (args : Array Value) : laidMetH Tryz.prog Rows.closeChecksUptoRow.laid ((World.laidAll Tryz.prog os Rows.closeChecksUptoRow.laid).forCall (fun _ _ => 0) ⟨#[], args, []⟩).memory := by
  rw [MakeChecks.laidMetH_plain _ _ _ (by kernel_rfl)]
  exact laidMet_laidAll _ (by kernel_rfl) (by kernel_rfl)
set_option maxRecDepth 100000 in
theorem witness_row (os : Os) {H : Type} (enc : TypeId × Value → H) :
    (Rows.OpenSpec.upto Rows.closeChecksSpec).preRow enc Tryz.prog Tryz.f3 Rows.closeChecksUptoRow.domain false Rows.closeChecksUptoRow.laid ((World.laidAll Tryz.prog os Rows.closeChecksUptoRow.laid).forCall (fun _ _ => 0) ⟨#[], #[.agg #[.slice none 0 0, .slice none 0 0, .int .i64 0]], []⟩).memory #[.agg #[.slice none 0 0, .slice none 0 0, .int .i64 0]] := by
  have hw : (DataW.whole enc Tryz.prog ((World.laidAll Tryz.prog os Rows.closeChecksUptoRow.laid).forCall (fun _ _ => 0) ⟨#[], #[.agg #[.slice none 0 0, .slice none 0 0, .int .i64 0]], []⟩).memory Tryz.f3.params.toList (Rows.OpenSpec.upto Rows.closeChecksSpec).vars false #[Value.agg #[.slice none 0 0, .slice none 0 0, .int .i64 0]].toList 8).map (fun x => (x.1, x.2.1)) =
      some ([.agg [.nil, .nil, .lit (.int .i64 0)]], []) := by kernel_rfl
  obtain ⟨⟨x1, x2, x3⟩, hx, hx1⟩ := Option.map_eq_some_iff.1 hw
  simp only [Prod.mk.injEq] at hx1
  obtain ⟨rfl, rfl⟩ := hx1
  exact OpenSpec.preRow_of_cond 8 hx (by kernel_rfl) (fun k hk => by cases hk; kernel_rfl) (by kernel_rfl) (laid_met os _)
set_option maxRecDepth 100000 in
theorem closeChecks_lifted (os : Os) (started : os.Started) (H : Type) (enc : TypeId × Value → H) (F : Stop.Interp) :
    ReturnsInHanded {} Tryz.checked os 3 .any ((Rows.OpenSpec.upto Rows.closeChecksSpec).preRow enc Tryz.prog Tryz.f3 Rows.closeChecksUptoRow.domain false Rows.closeChecksUptoRow.laid) (((Rows.OpenSpec.upto Rows.closeChecksSpec).at F).post enc Tryz.prog Tryz.f3 false true false false) := by
  refine returnsInHanded_of_row (C := Tryz.checked) (s := Rows.OpenSpec.upto Rows.closeChecksSpec) own_none started (by kernel_rfl) Tryz.func3
    ⟨World.laidAll Tryz.prog os Rows.closeChecksUptoRow.laid, fun _ _ => 0, ⟨#[], #[.agg #[.slice none 0 0, .slice none 0 0, .int .i64 0]], []⟩, World.laidAll_os _ _ _, World.shaped_of_ZipB (by kernel_rfl) (by kernel_rfl),
      rfl, (Input.okWide_of_okWideB (by kernel_rfl)).2, witness_row os enc, by
        simp only [Assume.holds]
        exact ⟨by simp, by simp, fun _ => Modest.zero, by simp, by simp⟩⟩ ?_
  intro W base args ds gs before hval0 hW _ hcond hsz0 _ _ _
  have hsz : (DataW.weightsEach Tryz.prog (Tryz.f3.params.toList ++ (Rows.OpenSpec.upto Rows.closeChecksSpec).bare.plain.varTypes Tryz.prog) (ds ++ gs)).all (· ≤ reachBytes) = true := hsz0
  have hk : Rows.uptoSmall H (ds ++ gs) = true := hcond _ rfl
  clear hsz0 hcond
  have hval : ∀ (j : Nat) t v, Tryz.f3.params[j]? = some t → args[j]? = some v → Value.okWide Tryz.prog W .any base t v := hval0
  have hW' := hW
  obtain ⟨p, q, hA0, hV, rfl, _, _⟩ := hW
  have hA : DataW.TrodAll enc Tryz.prog W 0 (fun _ => true) true Tryz.f3.params.toList args.toList ds p := hA0
  rw [Tryz.params3] at hA hval hsz
  obtain ⟨v0, d0, rfl, rfl, h0⟩ := trodAll_one hA
  obtain ⟨rfl, rfl⟩ := trodVars_none hV
  have hz : (DataW.weightsEach Tryz.prog [25] [d0]).all (· ≤ reachBytes) = true := hsz
  have hk' : Rows.uptoSmall H [d0] = true := hk
  obtain ⟨L, fs, x, y, entry, rfl, hN, hF, hla⟩ := arg_read (hval 0 25 v0 rfl rfl) h0 hz (small_one hk')
  simp only [List.append_nil] at hW'
  refine (flaw_any L fs x y entry W hN hF hla).mono fun e W' ⟨he, hb⟩ => ?_
  subst he
  exact ⟨_, rfl, _, _, _, [], p, [], hW', trodAll_mk1 (shut_bool Tryz.underlying4 _), trodAll_mk1 (Below.trod laid_out (by kernel_rfl) (of_decide_eq_true (by kernel_rfl)) h0 hb (fun y hy => by simpa using hW'.lt y hy)), rfl, hb.frame _, fun h => by cases h⟩

end Go.Proofs.YtjhdlnllhjffkaaGreatDoor
