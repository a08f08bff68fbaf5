/- From the start of the rows of Parse to what their walks ask. -/
import Derived.Test.YtijncfidjjfmiaaGreatDoorFloJoin
import Derived.Test.YtijncfidjjfmiaaGreatDoorFloFastB
namespace Go.Proofs.YtijncfidjjfmiaaGreatDoor
open Go.RowKit FloM Go.Lib

section
variable {H : Type} {enc : TypeId × Value → H} {P : Program} {w : World} {base : Nat} {sp : Nat → Bool} {held : Bool} {fuel : Nat} {t : TypeId} {cs : List Value} {x : DataW H × List MemPlace}
theorem trod_flt {k : FloatKind} (ht : P.underlying t = some (.float k)) (h : DataW.trod enc P w base sp held fuel t cs = some x) : ∃ n, cs = [.float k n] ∧ x = (.lit (.float k n), []) := by
  cases fuel with
  | zero => simp [DataW.trod] at h
  | succ n =>
    unfold DataW.trod at h
    rw [ht] at h
    split at h <;> simp_all
end

/-- A variable that is a slice of floats. -/
theorem fltSlice_of_reads {P : Program} {w : World} {name : String} {g : Nat} {t e : TypeId} {l : List Nat} (hn : P.globalNamed name = some g) (hy : (P.globals[g]?).map (·.type) = some t)
    (ht : P.underlying t = some (.slice e)) (he : P.underlying e = some (.float .f64)) (hc : P.cellsOf e = 1) (h : VarReads P w name (.slice (l.map fun (x : Nat) => .lit (.float .f64 x)) [])) :
    ∃ ad cap, w.cell? ⟨g, 0, none⟩ = some (.slice (some ad) l.length cap) ∧ ∀ k, k < l.length → w.cell? (ad.add k) = some (.float .f64 (l.getD k 0)) := by
  obtain ⟨g', t', cs, fuel, p, hg, hty, hvar, hd⟩ := h
  obtain rfl := Option.some.inj (hn.symm.trans hg)
  obtain rfl := Option.some.inj (hy.symm.trans hty)
  rcases DataW.trod_slice ht hd with ⟨_, hx⟩ | ⟨a, len, cap, el, rs, m, rfl, hcs, hx, _, hlc, _, hel, helem, hsp, _⟩
  · cases hx
  have e0 := congrArg Prod.fst hx
  simp only [DataW.slice.injEq] at e0
  obtain ⟨eE, eR⟩ := e0
  have hlen : len = l.length := by
    have := congrArg List.length eE
    simp at this
    omega
  refine ⟨a, cap, ?_, ?_⟩
  · rw [World.var?_cell hg hvar 0, ← Array.getElem?_toList, hcs, hlen]
    rfl
  · intro i hi
    have h1 := helem i (by omega)
    rw [hc] at h1
    obtain ⟨b, hb⟩ : ∃ b, el[i]? = some b := ⟨el[i]'(by omega), List.getElem?_eq_getElem (by omega)⟩
    rw [hb] at h1
    obtain ⟨ce, hce, hte⟩ := Option.bind_eq_some_iff.1 h1
    obtain ⟨z, hz, hbz⟩ := trod_flt he hte
    have hb1 : b.1 = .lit (.float .f64 (l.getD i 0)) := by
      have := congrArg (·[i]?) eE
      simp [hb, hi] at this
      have e2 : l.getD i 0 = l[i] := by simp [List.getD, List.getElem?_eq_getElem hi]
      rw [e2]
      exact this.symm
    rw [hbz] at hb1
    simp only [DataW.lit.injEq, Lit.float.injEq, true_and] at hb1
    obtain ⟨_, _, hcc⟩ := World.cells?_some hce
    have := hcc 0 (by omega)
    rw [hz] at this
    simp only [Nat.mul_one] at this
    have e1 : (a.add i).add 0 = a.add i := by simp [Addr.add]
    rw [e1] at this
    rw [this, ← hb1]
    rfl

theorem gOpt : Tryz.prog.globalNamed "internal/strconv.optimize" = some 1 := by kernel_rfl
theorem yOpt : (Tryz.prog.globals[1]?).map (·.type) = some 4 := by kernel_rfl
theorem gInf : Tryz.prog.globalNamed "internal/strconv.float64info" = some 11 := by kernel_rfl
theorem yInf : (Tryz.prog.globals[11]?).map (·.type) = some 214 := by kernel_rfl
theorem sInf : Tryz.prog.underlying 214 = some (TypeDesc.struct #[{ name := "mantbits", type := 87, offset := 0, embedded := false, tag := "", pkgPath := "internal/strconv", byteOffset := 0 }, { name := "expbits", type := 87, offset := 1, embedded := false, tag := "", pkgPath := "internal/strconv", byteOffset := 8 }, { name := "bias", type := 3, offset := 2, embedded := false, tag := "", pkgPath := "internal/strconv", byteOffset := 16 }]) := by kernel_rfl
theorem uUint : Tryz.prog.underlying 87 = some (.int .u64) := by kernel_rfl
theorem cUint : Tryz.prog.cellsOf 87 = 1 := by kernel_rfl
theorem gP10 : Tryz.prog.globalNamed "internal/strconv.float64pow10" = some 14 := by kernel_rfl
theorem yP10 : (Tryz.prog.globals[14]?).map (·.type) = some 232 := by kernel_rfl
theorem uP10 : Tryz.prog.underlying 232 = some (.slice 24) := by kernel_rfl
theorem uFlt : Tryz.prog.underlying 24 = some (.float .f64) := by kernel_rfl
theorem cFlt : Tryz.prog.cellsOf 24 = 1 := by kernel_rfl

theorem opt_of {w : World} (h : VarReads Tryz.prog w "internal/strconv.optimize" (.lit (.bool true))) : w.cell? ⟨1, 0, none⟩ = some (.bool true) := by
  obtain ⟨g, t, cs, fuel, p, hg, hty, hvar, hd⟩ := h
  obtain rfl := Option.some.inj (gOpt.symm.trans hg)
  obtain rfl := Option.some.inj (yOpt.symm.trans hty)
  obtain ⟨b, hb, hx⟩ := DataW.trod_bool Tryz.underlying4 hd
  have e0 := congrArg Prod.fst hx
  simp only [DataW.lit.injEq, Lit.bool.injEq] at e0
  rw [World.var?_cell gOpt hvar 0, ← Array.getElem?_toList, hb, ← e0]
  rfl
theorem inf_of {w : World} (h : VarReads Tryz.prog w "internal/strconv.float64info" (.agg [.lit (.int .u64 52), .lit (.int .u64 11), .lit (.int .i64 (-1023))])) : w.cell? ⟨11, 0, none⟩ = some (.int .u64 52) := by
  obtain ⟨g, t, cs, fuel, p, hg, hty, hvar, hd⟩ := h
  obtain rfl := Option.some.inj (gInf.symm.trans hg)
  obtain rfl := Option.some.inj (yInf.symm.trans hty)
  obtain ⟨xs, n, rfl, hx, hl, hxl, hall⟩ := DataW.trod_struct sInf hd
  have h1 : DataW.trod (fun _ => ()) Tryz.prog w 0 (fun _ => true) false n 87 ((cs.toList.drop 0).take (Tryz.prog.cellsOf 87)) = xs[0]? := hall 0 _ rfl
  obtain ⟨b, hb⟩ : ∃ b, xs[0]? = some b := by
    have : 0 < xs.length := by rw [hxl]; decide
    exact ⟨xs[0], List.getElem?_eq_getElem this⟩
  rw [hb] at h1
  rw [cUint] at h1
  obtain ⟨z, hcz, rfl, _⟩ := DataW.trod_int uUint h1
  have e0 := congrArg Prod.fst hx
  simp only [DataW.agg.injEq] at e0
  have e1 := congrArg (·[0]?) e0
  simp only [List.getElem?_map, hb] at e1
  have e2 : z = 52 := by simpa using e1.symm
  subst e2
  rw [World.var?_cell gInf hvar 0, ← Array.getElem?_toList]
  have := congrArg (·[0]?) hcz
  simpa [List.getElem?_take, List.getElem?_drop] using this
theorem p10_of {w : World} (h : VarReads Tryz.prog w "internal/strconv.float64pow10" (.slice (p10T.map fun (x : Nat) => .lit (.float .f64 x)) [])) :
    ∃ ad cap, w.cell? ⟨14, 0, none⟩ = some (.slice (some ad) 23 cap) ∧ ∀ k, k < 23 → w.cell? (ad.add k) = some (.float .f64 (p10 k)) :=
  fltSlice_of_reads gP10 yP10 uP10 uFlt cFlt h

/-- What the walks ask, of a list of what is laid. -/
theorem penv_of {W : World} {l : List (String × DataW Unit)} (hL : laidMet Tryz.prog l W) (hsh : W.ShapedOpen Tryz.prog)
    (m1 : ("internal/strconv.pow10Tab", (Rows.laid_internal_strconv_pow10Tab : DataW Unit)) ∈ l) (m2 : ("internal/strconv.uint64pow10", (Rows.laid_internal_strconv_uint64pow10 : DataW Unit)) ∈ l)
    (m3 : ("math/bits.deBruijn64tab", (Rows.laid_math_bits_deBruijn64tab : DataW Unit)) ∈ l) (m4 : ("internal/strconv.optimize", (Rows.laid_internal_strconv_optimize : DataW Unit)) ∈ l)
    (m5 : ("internal/strconv.float64info", (Rows.laid_internal_strconv_float64info : DataW Unit)) ∈ l) (m6 : ("internal/strconv.float64pow10", (Rows.laid_internal_strconv_float64pow10 : DataW Unit)) ∈ l) : PEnv W :=
  ⟨⟨pow_of (laidMet.reads hL m1), tab_of (laidMet.reads hL (by rw [← tab_eq]; exact m2)), Tryz.laysM145.s1_3 W hsh, big_of (laidMet.reads hL m3)⟩,
    opt_of (laidMet.reads hL m4), inf_of (laidMet.reads hL m5), p10_of (laidMet.reads hL m6)⟩

theorem penv_back {W : World} (hL : laidMetH Tryz.prog Rows.floBackRow.laid W) (hsh : W.ShapedOpen Tryz.prog) : PEnv W := by
  rw [MakeChecks.laidMetH_plain _ _ _ (by kernel_rfl)] at hL
  refine penv_of hL hsh ?_ ?_ ?_ ?_ ?_ ?_
  all_goals simp only [Rows.floBackRow]
  · exact .tail _ (.tail _ (.tail _ (.tail _ (.tail _ (.tail _ (.tail _ (.tail _ (.tail _ (.tail _ (.tail _ (.tail _ (.tail _ (.head _)))))))))))))
  · exact .tail _ (.tail _ (.tail _ (.tail _ (.tail _ (.tail _ (.tail _ (.tail _ (.head _))))))))
  · exact .tail _ (.head _)
  · exact .tail _ (.tail _ (.tail _ (.tail _ (.head _))))
  · exact .tail _ (.tail _ (.tail _ (.head _)))
  · exact .tail _ (.tail _ (.tail _ (.tail _ (.tail _ (.tail _ (.head _))))))
end Go.Proofs.YtijncfidjjfmiaaGreatDoor
