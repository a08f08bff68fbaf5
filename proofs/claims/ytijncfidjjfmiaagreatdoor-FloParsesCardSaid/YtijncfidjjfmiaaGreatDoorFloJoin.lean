/- From a row's start to what the walks ask. -/
import Derived.Test.YtijncfidjjfmiaaGreatDoorFloWalkKM
import Derived.Test.YtijncfidjjfmiaaGreatDoorRows
import Derived.Lib.LaidU8
import Derived.Handed
import Derived.ProofKit
import Derived.PinnedBridge
import Derived.Lay
import Derived.LaidOnce
import Derived.MakeChecks
namespace Go
variable {H : Type} {enc : TypeId × Value → H}
/-- The plain wrap with a condition more, the world's shape kept. -/
theorem returnsIn_and_shaped {a : Assume} {C : Checked} {os : Os} {f : FuncId} {fn : Func} {s : ChangeSpec} {conds : List PathCond} {apart fresh handsOn again : Bool} {X : World → Array Value → Prop}
    (hX : ∀ (w w' : World) (args : Array Value), w.heap = w'.heap → X w args → X w' args)
    (own : ownKnob C.prog.godebug = none) (started : os.Started) (noInit : C.prog.inits.idxOf? f = none) (hfn : C.prog.funcs[f]? = some fn)
    (witness : ∃ (w : World) (tape : Tape) (i : Input), w.os = os ∧ (w.forCall tape i).Shaped C.prog ∧ i.vars = [] ∧ Input.okWide C.prog (w.forCall tape i) .any w.heap.size f i ∧
      ((s.pre enc C.prog fn conds apart (w.forCall tape i).memory i.args ∧ X (w.forCall tape i).memory i.args) ∧ sizedMet enc C.prog fn (OpenSpec.ofChange s) apart (w.forCall tape i).memory i.args) ∧ a.holds C.prog (lone (Frame.enter C.prog f i.args .normal) [] (w.forCall tape i)))
    (contract : ∀ (W : World) (base : Nat) (args : Array Value) (ds gs : List (DataW H)) (before : List MemPlace),
      (∀ (j : Nat) t v, fn.params[j]? = some t → args[j]? = some v → Value.okWide C.prog W .any base t v) →
      DataW.Whole enc C.prog fn.params.toList s.vars apart W args.toList ds gs before →
      X W args → W.ShapedOpen C.prog →
      Calls C.prog f args W fun e W' => ∃ v, e = .returned v ∧ s.post enc C.prog fn apart fresh handsOn again W args v W') :
    ReturnsInHanded a C os f .any (fun w args => (s.pre enc C.prog fn conds apart w args ∧ X w args) ∧ sizedMet enc C.prog fn (OpenSpec.ofChange s) apart w args) (s.post enc C.prog fn apart fresh handsOn again) := by
  refine returnsInHanded_of_calls own started noInit witness ?_
  intro w tape i _ hsh _ hok hpre _
  obtain ⟨_, _, _, fn', hfn', _, _, _, _, hval⟩ := hok
  have e : fn' = fn := Option.some.inj (hfn'.symm.trans hfn)
  subst e
  obtain ⟨⟨⟨ds, gs, before, hw, _⟩, hx⟩, _⟩ := hpre
  have hw' := DataW.Whole.of_heap (w' := w.forCall tape i) (by rfl) hw
  refine (contract (w.forCall tape i) w.heap.size i.args ds gs before hval hw' (hX _ _ _ (by rfl) hx) hsh).mono fun e W' ⟨v, he, hp⟩ => ?_
  subst he
  exact ChangeSpec.post_blind hp
end Go
namespace Go.Proofs.YtijncfidjjfmiaaGreatDoor
open Go.RowKit FloM Go.Lib

theorem own_none : ownKnob Tryz.prog.godebug = none := by kernel_rfl

def laidAllRows : List (String × DataW Unit) := Rows.floTextsRow.laid

theorem gPow : Tryz.prog.globalNamed "internal/strconv.pow10Tab" = some 8 := by kernel_rfl
theorem yPow : (Tryz.prog.globals[8]?).map (·.type) = some 198 := by kernel_rfl
theorem uPow : Tryz.prog.underlying 198 = some (.array 696 197) := by kernel_rfl
theorem yTab : (Tryz.prog.globals[7]?).map (·.type) = some 182 := by kernel_rfl
theorem uTab : Tryz.prog.underlying 182 = some (.array 20 22) := by kernel_rfl
theorem cTab : Tryz.prog.cellsOf 182 = 20 := by kernel_rfl
theorem c64 : Tryz.prog.cellsOf 22 = 1 := by kernel_rfl
theorem u64u : Tryz.prog.underlying 22 = some (.int .u64) := by kernel_rfl
theorem cPow : Tryz.prog.cellsOf 197 = 2 := by kernel_rfl

theorem tab_of {w : World} (h : VarReads Tryz.prog w "internal/strconv.uint64pow10" (tabData .u64 Lib.pow10Tab)) : Lib.TabIs Tryz.prog w "internal/strconv.uint64pow10" .u64 Lib.pow10Tab := by
  obtain ⟨g, t, cs, fuel, p, hg, hty, hvar, hd⟩ := h
  obtain rfl := Option.some.inj (gTab.symm.trans hg)
  obtain rfl := Option.some.inj (yTab.symm.trans hty)
  unfold TabIs
  rw [hvar, ← cells_of_tab uTab u64u c64 cTab hd]

theorem sPow : Tryz.prog.underlying 197 = some (TypeDesc.struct #[{ name := "hi", type := 22, offset := 0, embedded := false, tag := "", pkgPath := "internal/strconv", byteOffset := 0 }, { name := "lo", type := 22, offset := 1, embedded := false, tag := "", pkgPath := "internal/strconv", byteOffset := 8 }]) := by kernel_rfl
theorem rows_len : Pinned.pow10Rows.length = 696 := by decide +kernel
theorem pow_of {w : World} (h : VarReads Tryz.prog w "internal/strconv.pow10Tab" Pinned.pow10Tab) : PowTab w := by
  obtain ⟨g, t, cs, fuel, p, hg, hty, hvar, hd⟩ := h
  obtain rfl := Option.some.inj (gPow.symm.trans hg)
  obtain rfl := Option.some.inj (yPow.symm.trans hty)
  have key : ∀ i, i < 696 → w.cell? ⟨8, i * 2, none⟩ = some (.int .u64 ((pw i).1 : Int)) ∧ w.cell? ⟨8, i * 2 + 1, none⟩ = some (.int .u64 ((pw i).2 : Int)) := by
    intro i hi
    obtain ⟨fuel', d, q, hdi, he⟩ := array_elem uPow hd i hi
    have hpw : Pinned.pow10Rows[i]? = some (pw i) := by
      unfold pw
      rw [List.getD_eq_getElem?_getD, List.getElem?_eq_getElem (by rw [rows_len]; exact hi)]
      rfl
    rw [List.getElem?_map, hpw] at hdi
    simp only [Option.map_some, Option.some.injEq] at hdi
    subst hdi
    rw [cPow] at he
    have hcs := ints_of_struct (zs := [((pw i).1 : Int), ((pw i).2 : Int)]) sPow (fun j f hj => by
      match j, hj with
      | 0, hj => simp at hj; subst hj; exact ⟨u64u, rfl, c64⟩
      | 1, hj => simp at hj; subst hj; exact ⟨u64u, rfl, c64⟩
      | j + 2, hj => simp at hj) (by rw [cPow]; rfl) he
    have e0 := congrArg (·[0]?) hcs
    have e1 := congrArg (·[1]?) hcs
    simp only [List.getElem?_take, List.getElem?_drop] at e0 e1
    constructor
    · rw [World.var?_cell gPow hvar (i * 2), ← Array.getElem?_toList]
      simpa using e0
    · rw [World.var?_cell gPow hvar (i * 2 + 1), ← Array.getElem?_toList]
      simpa using e1
  refine ⟨?_, key⟩
  have h0 := (key 0 (by decide)).1
  rcases Nat.lt_or_ge 8 w.heap.size with h | h
  · exact h
  · unfold World.cell? at h0
    rw [Array.getElem?_eq_none h] at h0
    simp at h0

theorem tab_eq : (Rows.laid_internal_strconv_uint64pow10 : DataW Unit) = tabData .u64 Lib.pow10Tab := by rfl
theorem gBig : Tryz.prog.globalNamed "math/bits.deBruijn64tab" = some 16 := by kernel_rfl
theorem big_of {w : World} {d : DataW Unit} (h : VarReads Tryz.prog w "math/bits.deBruijn64tab" d) : 17 ≤ w.heap.size := by
  obtain ⟨g, t, cs, fuel, p, hg, hty, hvar, hd⟩ := h
  unfold World.var? at hvar
  rw [gBig] at hvar
  rcases Nat.lt_or_ge 16 w.heap.size with h | h
  · exact h
  · simp [Array.getElem?_eq_none h] at hvar

/-- What the walks ask, of a row's start. -/
theorem env_of {W : World} (hL : laidMetH Tryz.prog laidAllRows W) (hsh : W.ShapedOpen Tryz.prog) : Env W := by
  rw [MakeChecks.laidMetH_plain _ _ _ (by kernel_rfl)] at hL
  refine ⟨pow_of (laidMet.reads hL (by simp [laidAllRows, Rows.floTextsRow, Rows.laid_internal_strconv_pow10Tab])), tab_of (laidMet.reads hL ?_), Tryz.laysM145.s1_3 W hsh, big_of (d := Rows.laid_math_bits_deBruijn64tab) (laidMet.reads hL ?_)⟩
  · rw [← tab_eq]
    simp only [laidAllRows, Rows.floTextsRow]
    exact .tail _ (.tail _ (.tail _ (.head _)))
  · simp only [laidAllRows, Rows.floTextsRow]
    exact .tail _ (.head _)

end Go.Proofs.YtijncfidjjfmiaaGreatDoor
