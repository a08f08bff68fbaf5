/- From the start of the rows of Parse to what their walks ask. From FloParses' start to what its walks ask: the library's tables. -/
import Derived.Test.YtijncfidjjfmiaaGreatDoorFloJoin
import Derived.Test.YtijncfidjjfmiaaGreatDoorFloFastB
import Derived.LaidLaws
namespace Go.Proofs.YtijncfidjjfmiaaGreatDoor
open Go.RowKit FloM Go.Lib

section
variable {H : Type} {enc : TypeId × Value → H} {P : Program} {w : World} {base : Nat} {sp : Nat → Bool} {held : Bool} {fuel : Nat} {t : TypeId} {cs : List Value} {x : DataW H × List MemPlace}
theorem trod_flt {k : FloatKind} (ht : P.underlying t = some (.float k)) (h : DataW.trod enc P w base sp held fuel t cs = some x) : ∃ n, cs = [.float k n] ∧ x = (.lit (.float k n), []) := by
  cases fuel with
  | zero => simp [DataW.trod] at h
  | succ n =>
    unfold DataW.trod at h
    rw [ht] at h
    split at h <;> simp_all
end

/-- A variable that is a slice of floats. -/
theorem fltSlice_of_reads {P : Program} {w : World} {name : String} {g : Nat} {t e : TypeId} {l : List Nat} (hn : P.globalNamed name = some g) (hy : (P.globals[g]?).map (·.type) = some t)
    (ht : P.underlying t = some (.slice e)) (he : P.underlying e = some (.float .f64)) (hc : P.cellsOf e = 1) (h : VarReads P w name (.slice (l.map fun (x : Nat) => .lit (.float .f64 x)) [])) :
    ∃ ad cap, w.cell? ⟨g, 0, none⟩ = some (.slice (some ad) l.length cap) ∧ ∀ k, k < l.length → w.cell? (ad.add k) = some (.float .f64 (l.getD k 0)) := by
  obtain ⟨g', t', cs, fuel, p, hg, hty, hvar, hd⟩ := h
  obtain rfl := Option.some.inj (hn.symm.trans hg)
  obtain rfl := Option.some.inj (hy.symm.trans hty)
  rcases DataW.trod_slice ht hd with ⟨_, hx⟩ | ⟨a, len, cap, el, rs, m, rfl, hcs, hx, _, hlc, _, hel, helem, hsp, _⟩
  · cases hx
  have e0 := congrArg Prod.fst hx
  simp only [DataW.slice.injEq] at e0
  obtain ⟨eE, eR⟩ := e0
  have hlen : len = l.length := by
    have := congrArg List.length eE
    simp at this
    omega
  refine ⟨a, cap, ?_, ?_⟩
  · rw [World.var?_cell hg hvar 0, ← Array.getElem?_toList, hcs, hlen]
    rfl
  · intro i hi
    have h1 := helem i (by omega)
    rw [hc] at h1
    obtain ⟨b, hb⟩ : ∃ b, el[i]? = some b := ⟨el[i]'(by omega), List.getElem?_eq_getElem (by omega)⟩
    rw [hb] at h1
    obtain ⟨ce, hce, hte⟩ := Option.bind_eq_some_iff.1 h1
    obtain ⟨z, hz, hbz⟩ := trod_flt he hte
    have hb1 : b.1 = .lit (.float .f64 (l.getD i 0)) := by
      have := congrArg (·[i]?) eE
      simp [hb, hi] at this
      have e2 : l.getD i 0 = l[i] := by simp [List.getD, List.getElem?_eq_getElem hi]
      rw [e2]
      exact this.symm
    rw [hbz] at hb1
    simp only [DataW.lit.injEq, Lit.float.injEq, true_and] at hb1
    obtain ⟨_, _, hcc⟩ := World.cells?_some hce
    have := hcc 0 (by omega)
    rw [hz] at this
    simp only [Nat.mul_one] at this
    have e1 : (a.add i).add 0 = a.add i := by simp [Addr.add]
    rw [e1] at this
    rw [this, ← hb1]
    rfl

theorem gOpt : Tryz.prog.globalNamed "internal/strconv.optimize" = some 1 := by kernel_rfl
theorem yOpt : (Tryz.prog.globals[1]?).map (·.type) = some 4 := by kernel_rfl
theorem gInf : Tryz.prog.globalNamed "internal/strconv.float64info" = some 11 := by kernel_rfl
theorem yInf : (Tryz.prog.globals[11]?).map (·.type) = some 214 := by kernel_rfl
theorem sInf : Tryz.prog.underlying 214 = some (TypeDesc.struct #[{ name := "mantbits", type := 87, offset := 0, embedded := false, tag := "", pkgPath := "internal/strconv", byteOffset := 0 }, { name := "expbits", type := 87, offset := 1, embedded := false, tag := "", pkgPath := "internal/strconv", byteOffset := 8 }, { name := "bias", type := 3, offset := 2, embedded := false, tag := "", pkgPath := "internal/strconv", byteOffset := 16 }]) := by kernel_rfl
theorem uUint : Tryz.prog.underlying 87 = some (.int .u64) := by kernel_rfl
theorem cUint : Tryz.prog.cellsOf 87 = 1 := by kernel_rfl
theorem gP10 : Tryz.prog.globalNamed "internal/strconv.float64pow10" = some 14 := by kernel_rfl
theorem yP10 : (Tryz.prog.globals[14]?).map (·.type) = some 232 := by kernel_rfl
theorem uP10 : Tryz.prog.underlying 232 = some (.slice 24) := by kernel_rfl
theorem uFlt : Tryz.prog.underlying 24 = some (.float .f64) := by kernel_rfl
theorem cFlt : Tryz.prog.cellsOf 24 = 1 := by kernel_rfl

theorem opt_of {w : World} (h : VarReads Tryz.prog w "internal/strconv.optimize" (.lit (.bool true))) : w.cell? ⟨1, 0, none⟩ = some (.bool true) := by
  obtain ⟨g, t, cs, fuel, p, hg, hty, hvar, hd⟩ := h
  obtain rfl := Option.some.inj (gOpt.symm.trans hg)
  obtain rfl := Option.some.inj (yOpt.symm.trans hty)
  obtain ⟨b, hb, hx⟩ := DataW.trod_bool Tryz.underlying4 hd
  have e0 := congrArg Prod.fst hx
  simp only [DataW.lit.injEq, Lit.bool.injEq] at e0
  rw [World.var?_cell gOpt hvar 0, ← Array.getElem?_toList, hb, ← e0]
  rfl
theorem inf_of {w : World} (h : VarReads Tryz.prog w "internal/strconv.float64info" (.agg [.lit (.int .u64 52), .lit (.int .u64 11), .lit (.int .i64 (-1023))])) : w.cell? ⟨11, 0, none⟩ = some (.int .u64 52) := by
  obtain ⟨g, t, cs, fuel, p, hg, hty, hvar, hd⟩ := h
  obtain rfl := Option.some.inj (gInf.symm.trans hg)
  obtain rfl := Option.some.inj (yInf.symm.trans hty)
  obtain ⟨xs, n, rfl, hx, hl, hxl, hall⟩ := DataW.trod_struct sInf hd
  have h1 : DataW.trod (fun _ => ()) Tryz.prog w 0 (fun _ => true) false n 87 ((cs.toList.drop 0).take (Tryz.prog.cellsOf 87)) = xs[0]? := hall 0 _ rfl
  obtain ⟨b, hb⟩ : ∃ b, xs[0]? = some b := by
    have : 0 < xs.length := by rw [hxl]; decide
    exact ⟨xs[0], List.getElem?_eq_getElem this⟩
  rw [hb] at h1
  rw [cUint] at h1
  obtain ⟨z, hcz, rfl, _⟩ := DataW.trod_int uUint h1
  have e0 := congrArg Prod.fst hx
  simp only [DataW.agg.injEq] at e0
  have e1 := congrArg (·[0]?) e0
  simp only [List.getElem?_map, hb] at e1
  have e2 : z = 52 := by simpa using e1.symm
  subst e2
  rw [World.var?_cell gInf hvar 0, ← Array.getElem?_toList]
  have := congrArg (·[0]?) hcz
  simpa [List.getElem?_take, List.getElem?_drop] using this
theorem p10_of {w : World} (h : VarReads Tryz.prog w "internal/strconv.float64pow10" (.slice (p10T.map fun (x : Nat) => .lit (.float .f64 x)) [])) :
    ∃ ad cap, w.cell? ⟨14, 0, none⟩ = some (.slice (some ad) 23 cap) ∧ ∀ k, k < 23 → w.cell? (ad.add k) = some (.float .f64 (p10 k)) :=
  fltSlice_of_reads gP10 yP10 uP10 uFlt cFlt h
end Go.Proofs.YtijncfidjjfmiaaGreatDoor

namespace Go.Proofs.YtijncfidjjfmiaaGreatDoor
open Go.RowKit FloM Go.Lib Go.ChangeShapes

/-- A slice that a variable is laid as: its header, and each element's cells. -/
theorem slice_reads {P : Program} {w : World} {name : String} {g : Nat} {t e : TypeId} {l : List (DataW Unit)} {c : Nat} (hn : P.globalNamed name = some g) (hy : (P.globals[g]?).map (·.type) = some t)
    (ht : P.underlying t = some (.slice e)) (hc : P.cellsOf e = c) (h : VarReads P w name (.slice l [])) :
    ∃ ad cap, w.cell? ⟨g, 0, none⟩ = some (.slice (some ad) l.length cap) ∧
      ∀ i d, l[i]? = some d → ∃ fuel ce q, DataW.trod (fun _ => ()) P w 0 (fun _ => true) false fuel e ce = some (d, q) ∧ ce.length = c ∧ ∀ j, j < c → w.cell? (ad.add (i * c + j)) = ce[j]? := by
  obtain ⟨g', t', cs, fuel, p, hg, hty, hvar, hd⟩ := h
  obtain rfl := Option.some.inj (hn.symm.trans hg)
  obtain rfl := Option.some.inj (hy.symm.trans hty)
  rcases DataW.trod_slice ht hd with ⟨_, hx⟩ | ⟨a, len, cap, el, rs, m, rfl, hcs, hx, _, hlc, _, hel, helem, hsp, _⟩
  · cases hx
  have e0 := congrArg Prod.fst hx
  simp only [DataW.slice.injEq] at e0
  obtain ⟨eE, eR⟩ := e0
  have hlen : len = l.length := by
    have := congrArg List.length eE
    simp at this
    omega
  refine ⟨a, cap, ?_, ?_⟩
  · rw [World.var?_cell hg hvar 0, ← Array.getElem?_toList, hcs, hlen]
    rfl
  · intro i d hid
    have hi : i < l.length := (List.getElem?_eq_some_iff.1 hid).1
    have h1 := helem i (by omega)
    rw [hc] at h1
    obtain ⟨b, hb⟩ : ∃ b, el[i]? = some b := ⟨el[i]'(by omega), List.getElem?_eq_getElem (by omega)⟩
    rw [hb] at h1
    obtain ⟨ce, hce, hte⟩ := Option.bind_eq_some_iff.1 h1
    have hb1 : b.1 = d := by
      have := congrArg (·[i]?) eE
      simp only [List.getElem?_map, hb, hid, Option.map_some, Option.some.injEq] at this
      exact this.symm
    obtain ⟨_, hl2, hcc⟩ := World.cells?_some hce
    refine ⟨_, ce, b.2, by rw [hte, ← hb1], hl2, fun j hj => ?_⟩
    have := hcc j hj
    have e1 : (a.add (i * c)).add j = a.add (i * c + j) := Addr.add_add a (i * c) j
    rw [e1] at this
    exact this

theorem gPt : Tryz.prog.globalNamed "internal/strconv.powtab" = some 13 := by kernel_rfl
theorem yPt : (Tryz.prog.globals[13]?).map (·.type) = some 231 := by kernel_rfl
theorem uPt : Tryz.prog.underlying 231 = some (.slice 3) := by kernel_rfl
theorem uInt : Tryz.prog.underlying 3 = some (.int .i64) := by kernel_rfl
theorem cInt : Tryz.prog.cellsOf 3 = 1 := by kernel_rfl
theorem gLc : Tryz.prog.globalNamed "internal/strconv.leftcheats" = some 9 := by kernel_rfl
theorem yLc : (Tryz.prog.globals[9]?).map (·.type) = some 203 := by kernel_rfl
theorem uLc : Tryz.prog.underlying 203 = some (.slice 202) := by kernel_rfl
theorem cLc : Tryz.prog.cellsOf 202 = 2 := by kernel_rfl
theorem sLc : Tryz.prog.underlying 202 = some (TypeDesc.struct #[{ name := "delta", type := 3, offset := 0, embedded := false, tag := "", pkgPath := "internal/strconv", byteOffset := 0 }, { name := "cutoff", type := 9, offset := 1, embedded := false, tag := "", pkgPath := "internal/strconv", byteOffset := 8 }]) := by kernel_rfl
theorem uStr : Tryz.prog.underlying 9 = some .string := by kernel_rfl
theorem cStr : Tryz.prog.cellsOf 9 = 1 := by kernel_rfl
theorem gRng : Tryz.prog.globalNamed "strconv.ErrRange" = some 6 := by kernel_rfl
theorem yRng : (Tryz.prog.globals[6]?).map (·.type) = some 44 := by kernel_rfl

theorem rng_of {w : World} {n : String} {d : DataW Unit} (h : VarReads Tryz.prog w "strconv.ErrRange" (.iface n d)) : ∃ ev, w.cell? ⟨6, 0, none⟩ = some ev ∧ (ev = .nilIface ∨ ∃ te pe, ev = .iface te pe) := by
  obtain ⟨g, t, cs, fuel, p, hg, hty, hvar, hd⟩ := h
  obtain rfl := Option.some.inj (gRng.symm.trans hg)
  obtain rfl := Option.some.inj (yRng.symm.trans hty)
  obtain ⟨_, u, v, hcs, _, _⟩ := iface_of_trod Tryz.underlying44 hd
  refine ⟨.iface u v, ?_, .inr ⟨u, v, rfl⟩⟩
  rw [World.var?_cell gRng hvar 0, ← Array.getElem?_toList, hcs]; rfl
theorem pt_of {w : World} (h : VarReads Tryz.prog w "internal/strconv.powtab" Rows.laid_internal_strconv_powtab) : ∃ ad cap, w.cell? ⟨13, 0, none⟩ = some (.slice (some ad) 9 cap) ∧ ∀ k, k < 9 → w.cell? (ad.add k) = some (.int .i64 (ptN k : Int)) := by
  obtain ⟨ad, cap, h1, h2⟩ := slice_reads gPt yPt uPt cInt h
  refine ⟨ad, cap, h1, fun k hk => ?_⟩
  have key : ∀ z : Int, ([.lit (.int .i64 1), .lit (.int .i64 3), .lit (.int .i64 6), .lit (.int .i64 9), .lit (.int .i64 13), .lit (.int .i64 16), .lit (.int .i64 19), .lit (.int .i64 23), .lit (.int .i64 26)] : List (DataW Unit))[k]? = some (.lit (.int .i64 z)) → w.cell? (ad.add k) = some (.int .i64 z) := by
    intro z hz
    obtain ⟨f, ce, q, hte, hl, hc⟩ := h2 k _ hz
    obtain ⟨z', hce, hx, _⟩ := DataW.trod_int uInt hte
    have e := congrArg Prod.fst hx
    simp only [DataW.lit.injEq, Lit.int.injEq, true_and] at e
    have := hc 0 (by decide)
    rw [hce, Nat.mul_one, Nat.add_zero] at this
    rw [this, e]; rfl
  refine key _ ?_
  rcases k with _ | _ | _ | _ | _ | _ | _ | _ | _ | k
  all_goals first | rfl | omega
theorem lc_of {w : World} (h : VarReads Tryz.prog w "internal/strconv.leftcheats" Pinned.leftcheats) : ∃ ad cap, w.cell? ⟨9, 0, none⟩ = some (.slice (some ad) 61 cap) ∧ ∀ k, k < 61 → w.cell? (ad.add (k * 2)) = some (.int .i64 ((lcR k).1 : Int)) ∧ w.cell? (ad.add (k * 2 + 1)) = some (.string ⟨(lcR k).2.toArray⟩) := by
  obtain ⟨ad, cap, h1, h2⟩ := slice_reads gLc yLc uLc cLc h
  have hlen : Pinned.cheatRows.length = 61 := by kernel_rfl
  rw [List.length_map, hlen] at h1
  refine ⟨ad, cap, h1, fun k hk => ?_⟩
  have hrow : Pinned.cheatRows[k]? = some (lcR k) := by
    unfold lcR
    rw [List.getD_eq_getElem?_getD, List.getElem?_eq_getElem (by rw [hlen]; exact hk)]
    rfl
  obtain ⟨f, ce, q, hte, hl, hc⟩ := h2 k (.agg [.lit (.int .i64 (lcR k).1), .lit (.string (lcR k).2)]) (by rw [List.getElem?_map, hrow]; rfl)
  obtain ⟨y0, y1, n, hx, _, g0, g1⟩ := trod_struct2 sLc hte
  have e := congrArg Prod.fst hx
  simp only [DataW.agg.injEq, List.cons.injEq, and_true] at e
  obtain ⟨e0, e1⟩ := e
  have i0 := hc 0 (by decide)
  have i1 := hc 1 (by decide)
  simp only [cInt, cStr, List.drop_zero] at g0 g1
  obtain ⟨z, hz, hx0, _⟩ := DataW.trod_int uInt g0
  obtain ⟨s, hs, hx1, _⟩ := DataW.trod_string uStr g1
  have a0 : ce[0]? = some (.int .i64 z) := by
    have := congrArg (·[0]?) hz
    simpa using this
  have a1 : ce[1]? = some (.string s) := by
    have := congrArg (·[0]?) hs
    simpa using this
  rw [hx0] at e0
  rw [hx1] at e1
  simp only [DataW.lit.injEq, Lit.int.injEq, true_and] at e0
  simp only [DataW.lit.injEq, Lit.string.injEq] at e1
  constructor
  · rw [show k * 2 = k * 2 + 0 from rfl, i0, a0, e0]
  · rw [i1, a1, e1]
theorem inf3_of {w : World} (h : VarReads Tryz.prog w "internal/strconv.float64info" (.agg [.lit (.int .u64 52), .lit (.int .u64 11), .lit (.int .i64 (-1023))])) :
    w.cell? ⟨11, 0, none⟩ = some (.int .u64 52) ∧ w.cell? ⟨11, 1, none⟩ = some (.int .u64 11) ∧ w.cell? ⟨11, 2, none⟩ = some (.int .i64 (-1023)) := by
  obtain ⟨g, t, cs, fuel, p, hg, hty, hvar, hd⟩ := h
  obtain rfl := Option.some.inj (gInf.symm.trans hg)
  obtain rfl := Option.some.inj (yInf.symm.trans hty)
  obtain ⟨xs, n, rfl, hx, hl, hxl, hall⟩ := DataW.trod_struct sInf hd
  have h0 := hall 0 _ rfl
  have h1 := hall 1 _ rfl
  have h2 := hall 2 _ rfl
  have e0 := congrArg Prod.fst hx
  simp only [DataW.agg.injEq] at e0
  obtain ⟨x0, x1, x2, rfl⟩ : ∃ a b c, xs = [a, b, c] := by
    match xs, hxl with
    | [a, b, c], _ => exact ⟨a, b, c, rfl⟩
  simp only [List.map_cons, List.map_nil, List.cons.injEq, and_true] at e0
  obtain ⟨k0, k1, k2⟩ := e0
  simp only [List.getElem?_cons_zero, List.getElem?_cons_succ] at h0 h1 h2
  obtain ⟨z0, c0, rfl, _⟩ := DataW.trod_int uUint h0
  obtain ⟨z1, c1, rfl, _⟩ := DataW.trod_int uUint h1
  obtain ⟨z2, c2, rfl, _⟩ := DataW.trod_int uInt h2
  simp only [DataW.lit.injEq, Lit.int.injEq, true_and] at k0 k1 k2
  subst k0 k1 k2
  have a0 := congrArg (·[0]?) c0
  have a1 := congrArg (·[0]?) c1
  have a2 := congrArg (·[0]?) c2
  refine ⟨?_, ?_, ?_⟩
  · rw [World.var?_cell gInf hvar 0]
    have := a0
    simp [List.getElem?_take] at this
    exact this.2
  · rw [World.var?_cell gInf hvar 1]
    have := a1
    simp [List.getElem?_take] at this
    exact this.2
  · rw [World.var?_cell gInf hvar 2]
    have := a2
    simp [List.getElem?_take] at this
    exact this.2
theorem pt_cell {w : World} {p : Addr} {v : Value} (h : w.cell? p = some v) : p.block < w.heap.size := cell_lt h
theorem senv_of {w : World} (h1 : VarReads Tryz.prog w "internal/strconv.leftcheats" Pinned.leftcheats) (h2 : VarReads Tryz.prog w "internal/strconv.powtab" Rows.laid_internal_strconv_powtab)
    (h3 : VarReads Tryz.prog w "internal/strconv.float64info" (.agg [.lit (.int .u64 52), .lit (.int .u64 11), .lit (.int .i64 (-1023))])) : ∃ (B : Nat) (a1 a2 : Addr) (k1 k2 : Nat), B ≤ w.heap.size ∧ SEnv w B a1 a2 k1 k2 := by
  obtain ⟨a1, k1, b1, b2⟩ := lc_of h1
  obtain ⟨a2, k2, c1, c2⟩ := pt_of h2
  obtain ⟨i0, i1, i2⟩ := inf3_of h3
  have q1 := cell_lt (b2 0 (by decide)).1
  have q2 := cell_lt (c2 0 (by decide))
  rw [block_of_add] at q1 q2
  exact ⟨w.heap.size, a1, a2, k1, k2, Nat.le_refl _, ⟨cell_lt b1, q1, b1, b2⟩, ⟨cell_lt c1, q2, c1, c2⟩, ⟨cell_lt i0, i0, i1, i2⟩⟩

theorem penv_parses {W : World} (hL : laidMetH Tryz.prog Rows.floParsesRow.laid W) (hsh : W.ShapedOpen Tryz.prog) : PEnv W := by
  rw [MakeChecks.laidMetH_plain _ _ _ (by kernel_rfl)] at hL
  have hR : ∀ n d, (n, d) ∈ Rows.floParsesRow.laid → VarReads Tryz.prog W n d := fun n d hm => laidMet.reads hL hm
  simp only [Rows.floParsesRow] at hR
  have r1 := hR "internal/strconv.pow10Tab" Rows.laid_internal_strconv_pow10Tab (.tail _ (.tail _ (.tail _ (.tail _ (.tail _ (.tail _ (.tail _ (.tail _ (.tail _ (.tail _ (.tail _ (.tail _ (.tail _ (.head _))))))))))))))
  have r2 := hR "internal/strconv.uint64pow10" Rows.laid_internal_strconv_uint64pow10 (.tail _ (.tail _ (.tail _ (.tail _ (.tail _ (.tail _ (.tail _ (.tail _ (.head _)))))))))
  have r3 := hR "math/bits.deBruijn64tab" Rows.laid_math_bits_deBruijn64tab (.tail _ (.head _))
  have r4 := hR "internal/strconv.optimize" Rows.laid_internal_strconv_optimize (.tail _ (.tail _ (.tail _ (.tail _ (.head _)))))
  have r5 := hR "internal/strconv.float64info" Rows.laid_internal_strconv_float64info (.tail _ (.tail _ (.tail _ (.head _))))
  have r6 := hR "internal/strconv.float64pow10" Rows.laid_internal_strconv_float64pow10 (.tail _ (.tail _ (.tail _ (.tail _ (.tail _ (.tail _ (.head _)))))))
  have r7 := hR "internal/strconv.powtab" Rows.laid_internal_strconv_powtab (.tail _ (.tail _ (.tail _ (.tail _ (.tail _ (.head _))))))
  have r8 := hR "internal/strconv.leftcheats" Rows.laid_internal_strconv_leftcheats (.tail _ (.tail _ (.tail _ (.tail _ (.tail _ (.tail _ (.tail _ (.tail _ (.tail _ (.tail _ (.tail _ (.tail _ (.head _)))))))))))))
  have r9 := hR "strconv.ErrRange" Rows.laid_strconv_ErrRange (.tail _ (.tail _ (.tail _ (.tail _ (.tail _ (.tail _ (.tail _ (.tail _ (.tail _ (.tail _ (.head _)))))))))))
  exact ⟨⟨pow_of r1, tab_of (by rw [← tab_eq]; exact r2), Tryz.laysM145.s1_3 W hsh, big_of r3⟩, opt_of r4, (inf3_of r5).1, p10_of r6, senv_of r8 r7 r5, rng_of r9⟩
end Go.Proofs.YtijncfidjjfmiaaGreatDoor
