/- How the nodes of the argument read: off its datum and the form's reach. How the nodes of the argument read: off its datum and the form's reach: nodes of nine cells. Close: how the argument reads: nodes, functions; what the bound of the row gives. -/
import Derived.Test.YtjhdlnllhjffkaaGreatDoorCloMc
import Derived.Deep.Slices
import Derived.Deep.Fields
import Derived.Deep.Strs
import Derived.ChangeSame
import Derived.SizedLaws
import Derived.Test.YtjhdlnllhjffkaaGreatDoorCloMb
import Derived.Test.YtjhdlnllhjffkaaGreatDoorCloMg
import Derived.Test.YtjhdlnllhjffkaaGreatDoorRows
namespace Go.Proofs.YtjhdlnllhjffkaaGreatDoor
open Go.RowKit Go.ChangeShapes Go.WideShapes Go.Deep LamM

section
variable {H : Type} {enc : TypeId × Value → H} {P : Program} {w : World} {held : Bool}

/-- No part of the datum outweighs the form's reach. -/
def Light (P : Program) (t : TypeId) (d : DataW H) : Prop := ∀ n ∈ d.weights P t, n ≤ reachBytes

theorem weighs_all {e : TypeId} : ∀ {ds : List (DataW H)} {d : DataW H}, d ∈ ds → ∀ n ∈ d.weights P e, n ∈ DataW.weightsAll P e ds
  | x :: r, d, hd, n, hn => by
    simp only [DataW.weightsAll, List.mem_append]
    rcases List.mem_cons.1 hd with h | h
    · subst h; exact Or.inl hn
    · exact Or.inr (weighs_all h n hn)

theorem Light.slice {t e : TypeId} {es sp : List (DataW H)} (h : Light P t (.slice es sp)) (ht : P.underlying t = some (.slice e)) :
    (es.length + sp.length) * P.bytesOf e ≤ reachBytes ∧ ∀ d ∈ es, Light P e d := by
  constructor
  · exact h _ (by simp [DataW.weights, ht])
  · intro d hd n hn
    refine h n ?_
    simp only [DataW.weights, ht, List.mem_cons, List.mem_append]
    exact Or.inr (Or.inl (weighs_all hd n hn))

theorem Light.agg {t : TypeId} {fs : Array Field} {ds : List (DataW H)} (h : Light P t (.agg ds)) (ht : P.underlying t = some (.struct fs)) {j : Nat} {f : Field} {d : DataW H} (hf : fs[j]? = some f) (hd : ds[j]? = some d) : Light P f.type d := by
  intro n hn
  refine h n ?_
  simp only [DataW.weights, ht]
  exact DataW.weights_mem_each (j := j) (by simp [hf]) hd n hn

theorem i64_range {x : Int} (h : (Lit.int .i64 x).wf = true) : -9223372036854775808 ≤ x ∧ x ≤ 9223372036854775807 := by
  simpa [Lit.wf, IntKind.min, IntKind.max, IntKind.signed, IntKind.bits] using h

theorem bytes_back (s : ByteArray) : (⟨s.data.toList.toArray⟩ : ByteArray) = s := by
  cases s
  simp

theorem ints_read {t e : TypeId} {fuel : Nat} {v : Value} {x : DataW H × List MemPlace} (ht : P.underlying t = some (.slice e)) (he : P.underlying e = some (.int .i64)) (hc : P.cellsOf e = 1) (hb : P.bytesOf e = 8)
    (h : DataW.trod enc P w 0 (fun _ => true) held fuel t [v] = some x) (hL : Light P t x.1) :
    ∃ l, IV w w.heap.size v l ∧ (∀ y ∈ l, -9223372036854775808 ≤ y ∧ y ≤ 9223372036854775807) ∧ l.length ≤ 17592186044416 := by
  rcases open_ints ht he hc h with ⟨h1, _⟩ | ⟨a, len, cap, zs, h1, _, hl, hm, hz, hx, hcell, hw⟩
  · injection h1 with h1
    subst h1
    exact ⟨[], ⟨none, 0, rfl, Nat.le_refl _, by decide, Reads.none_⟩, by simp, by simp⟩
  · injection h1 with h1
    subst h1 hx
    have hz' : zs.length = cap := by simpa using hz
    have hlen : (zs.take len).length = len := by rw [List.length_take]; omega
    have h2 := (Light.slice hL ht).1
    rw [hb] at h2
    simp only [lits, List.length_map, List.length_take, List.length_drop, reachBytes] at h2
    refine ⟨zs.take len, ⟨some a, cap, by rw [hlen], by omega, hm, by simp [intVals], fun hn => ⟨a, rfl, cell_lt (hcell 0 (by omega)), fun j u hj => ?_⟩⟩, fun y hy => i64_range (hw y (List.mem_of_mem_take hy)), by omega⟩
    unfold intVals at hj
    rw [List.getElem?_map] at hj
    obtain ⟨z, hz1, rfl⟩ := Option.map_eq_some_iff.1 hj
    have hjl : j < (zs.take len).length := (List.getElem?_eq_some_iff.1 hz1).1
    have hzj : zs[j]? = some z := by
      rw [List.getElem?_take] at hz1
      split at hz1
      · exact hz1
      · cases hz1
    have := hcell j (by omega)
    rw [List.getD_eq_getElem?_getD, hzj] at this
    exact this

theorem keyVals_len : ∀ l : List Ky, (keyVals l).length = l.length * 3
  | [] => rfl
  | y :: l => by
    have ih := keyVals_len l
    have e : keyVals (y :: l) = [.int .i64 y.k, .int .i64 y.i, .string ⟨y.t.toArray⟩] ++ keyVals l := by unfold keyVals; rw [List.flatMap_cons]
    rw [e, List.length_append, ih, List.length_cons]
    simp
    omega

theorem keys_read {t e : TypeId} {f0 f1 f2 : Field} {fuel : Nat} {v : Value} {x : DataW H × List MemPlace} (ht : P.underlying t = some (.slice e)) (he : P.underlying e = some (.struct #[f0, f1, f2])) (hone : oneCellFields P #[f0, f1, f2] = true)
    (hC : P.cellsOf e = 3) (hb : P.bytesOf e = 32) (h0 : P.underlying f0.type = some (.int .i64)) (h1 : P.underlying f1.type = some (.int .i64)) (h2 : P.underlying f2.type = some .string)
    (h : DataW.trod enc P w 0 (fun _ => true) held fuel t [v] = some x) (hL : Light P t x.1) :
    ∃ l, KV w w.heap.size v l ∧ l.length ≤ 17592186044416 := by
  rcases open_slice ht h with ⟨h3, _⟩ | ⟨a, len, cap, m, n, D, Pl, h3, _, hl, hm, hmm, hx, hi⟩
  · injection h3 with h3
    subst h3
    exact ⟨[], ⟨none, 0, rfl, Nat.le_refl _, by decide, Reads.none_⟩, by simp⟩
  · injection h3 with h3
    subst h3 hx
    have hm' : m = cap := by simpa using hmm
    have hr := (Light.slice hL ht).1
    rw [hb] at hr
    simp only [List.length_map, List.length_range, reachBytes] at hr
    haveI : Inhabited Ky := ⟨⟨0, 0, []⟩⟩
    obtain ⟨K, hK⟩ := choose_lt (α := Ky) (n := m) (p := fun i q => w.cell? (a.add (i * 3)) = some (.int .i64 q.k) ∧ w.cell? (a.add (i * 3 + 1)) = some (.int .i64 q.i) ∧ w.cell? (a.add (i * 3 + 2)) = some (.string ⟨q.t.toArray⟩)) (fun i him => by
      obtain ⟨cs', hcs, htr⟩ := hi i him
      rw [hC] at hcs
      obtain ⟨_, hlen, hat⟩ := World.cells?_some hcs
      obtain ⟨y0, y1, y2, n', _, _, g0, g1, g2⟩ := trod_struct3 he htr
      obtain ⟨o0, k0⟩ := hone_of hone 0 f0 rfl
      obtain ⟨o1, k1⟩ := hone_of hone 1 f1 rfl
      obtain ⟨o2, k2⟩ := hone_of hone 2 f2 rfl
      match cs', hlen with
      | [c0, c1, c2], _ =>
        obtain ⟨z0, e0, _, _⟩ := DataW.trod_int h0 (by simpa [o0, k0] using g0)
        obtain ⟨z1, e1, _, _⟩ := DataW.trod_int h1 (by simpa [o1, k1] using g1)
        obtain ⟨s, e2, _, _⟩ := DataW.trod_string h2 (by simpa [o2, k2] using g2)
        injection e0 with e0
        injection e1 with e1
        injection e2 with e2
        subst e0 e1 e2
        refine ⟨⟨z0, z1, s.data.toList⟩, ?_, ?_, ?_⟩
        · have := hat 0 (by omega)
          rw [add_add, Nat.add_zero] at this
          exact this
        · have := hat 1 (by omega)
          rw [add_add] at this
          exact this
        · have := hat 2 (by omega)
          rw [add_add] at this
          rw [bytes_back]
          exact this)
    have hll : ((List.range len).map K).length = len := by simp
    refine ⟨(List.range len).map K, ⟨some a, cap, by rw [hll], by omega, hm, ?_, fun hn => ⟨a, rfl, cell_lt (hK 0 (by omega)).1, fun j u hj => ?_⟩⟩, by omega⟩
    · rw [keyVals_len]
    · have hjl : j < (keyVals ((List.range len).map K)).length := (List.getElem?_eq_some_iff.1 hj).1
      have hjl' : j < len * 3 := by
        have e := keyVals_len ((List.range len).map K)
        rw [hll] at e
        omega
      obtain ⟨q, hq⟩ : ∃ q, j / 3 = q := ⟨_, rfl⟩
      have hcase : j = q * 3 ∨ j = q * 3 + 1 ∨ j = q * 3 + 2 := by omega
      have hql : q < len := by omega
      have hg : ((List.range len).map K)[q]? = some (K q) := by
        rw [List.getElem?_map, List.getElem?_range hql]
        rfl
      obtain ⟨v0, v1, v2⟩ := keyVals_at _ _ _ hg
      obtain ⟨c0, c1, c2⟩ := hK q (by omega)
      clear hq hjl'
      rcases hcase with e | e | e
      · rw [e, v0] at hj
        injection hj with hj
        subst hj
        rw [e]
        exact c0
      · rw [e, v1] at hj
        injection hj with hj
        subst hj
        rw [e]
        exact c1
      · rw [e, v2] at hj
        injection hj with hj
        subst hj
        rw [e]
        exact c2

theorem node_read {e ti tk : TypeId} {f0 f1 f2 f3 f4 f5 f6 f7 q0 q1 q2 : Field} {ei : TypeId} {fuel : Nat} {cs : List Value} {x : DataW H × List MemPlace}
    (he : P.underlying e = some (.struct #[f0, f1, f2, f3, f4, f5, f6, f7])) (hone : oneCellFields P #[f0, f1, f2, f3, f4, f5, f6, f7] = true) (hC : P.cellsOf e = 8)
    (h0 : P.underlying f0.type = some (.int .i64)) (h1 : P.underlying f1.type = some (.int .i64)) (h2 : P.underlying f2.type = some (.int .i64)) (h3 : P.underlying f3.type = some (.int .u64)) (h4 : P.underlying f4.type = some .string)
    (h5 : f5.type = ti) (h6 : f6.type = tk) (h7 : f7.type = ti) (hti : P.underlying ti = some (.slice ei)) (hei : P.underlying ei = some (.int .i64)) (hic : P.cellsOf ei = 1) (hib : P.bytesOf ei = 8)
    {ek : TypeId} (htk : P.underlying tk = some (.slice ek)) (hek : P.underlying ek = some (.struct #[q0, q1, q2])) (kone : oneCellFields P #[q0, q1, q2] = true)
    (kC : P.cellsOf ek = 3) (kb : P.bytesOf ek = 32) (k0 : P.underlying q0.type = some (.int .i64)) (k1 : P.underlying q1.type = some (.int .i64)) (k2 : P.underlying q2.type = some .string)
    (h : DataW.trod enc P w 0 (fun _ => true) held fuel e cs = some x) (hL : Light P e x.1) :
    ∃ tm vv kv av, TV w w.heap.size tm vv kv av ∧ cs = tmVals tm vv kv av := by
  obtain ⟨xs, n, _, hx, hl, hlen, hf⟩ := DataW.trod_struct he h
  subst hx
  rw [hC] at hl
  have one : ∀ (j : Nat) (f : Field) (c : Value), (#[f0, f1, f2, f3, f4, f5, f6, f7] : Array Field)[j]? = some f → cs[j]? = some c → ∃ y, xs[j]? = some y ∧ DataW.trod enc P w 0 (fun _ => true) held n f.type [c] = some y ∧ Light P f.type y.1 := by
    intro j f c hj hc
    obtain ⟨o, k⟩ := hone_of hone j f hj
    have g := hf j f hj
    have hjl : j < cs.length := (List.getElem?_eq_some_iff.1 hc).1
    rw [o, k, List.drop_eq_getElem_cons hjl, (List.getElem?_eq_some_iff.1 hc).2] at g
    have hj8 : j < xs.length := by rw [hlen]; exact (Array.getElem?_eq_some_iff.1 hj).1
    refine ⟨xs[j], List.getElem?_eq_getElem hj8, ?_, ?_⟩
    · rw [List.getElem?_eq_getElem hj8] at g
      exact g
    · exact Light.agg hL he hj (by rw [List.getElem?_map, List.getElem?_eq_getElem hj8]; rfl)
  match cs, hl with
  | [c0, c1, c2, c3, c4, c5, c6, c7], _ =>
    obtain ⟨_, _, t0, _⟩ := one 0 f0 c0 rfl rfl
    obtain ⟨_, _, t1, _⟩ := one 1 f1 c1 rfl rfl
    obtain ⟨_, _, t2, _⟩ := one 2 f2 c2 rfl rfl
    obtain ⟨_, _, t3, _⟩ := one 3 f3 c3 rfl rfl
    obtain ⟨_, _, t4, _⟩ := one 4 f4 c4 rfl rfl
    obtain ⟨_, _, t5, l5⟩ := one 5 f5 c5 rfl rfl
    obtain ⟨_, _, t6, l6⟩ := one 6 f6 c6 rfl rfl
    obtain ⟨_, _, t7, l7⟩ := one 7 f7 c7 rfl rfl
    rw [h5] at t5 l5
    rw [h6] at t6 l6
    rw [h7] at t7 l7
    obtain ⟨z0, e0, _, r0⟩ := DataW.trod_int h0 t0
    obtain ⟨z1, e1, _, r1⟩ := DataW.trod_int h1 t1
    obtain ⟨z2, e2, _, r2⟩ := DataW.trod_int h2 t2
    obtain ⟨z3, e3, _, _⟩ := DataW.trod_int h3 t3
    obtain ⟨s, e4, _, _⟩ := DataW.trod_string h4 t4
    obtain ⟨vs, hv, rv, lv⟩ := ints_read hti hei hic hib t5 l5
    obtain ⟨ks, hk, lk⟩ := keys_read htk hek kone kC kb k0 k1 k2 t6 l6
    obtain ⟨args, ha, ra, la⟩ := ints_read hti hei hic hib t7 l7
    injection e0 with e0
    injection e1 with e1
    injection e2 with e2
    injection e3 with e3
    injection e4 with e4
    subst e0 e1 e2 e3 e4
    exact ⟨⟨z0, z1, z2, z3, s.data.toList, vs, ks, args⟩, c5, c6, c7, ⟨hv, hk, ha, i64_range r0, i64_range r1, i64_range r2, ra, rv, lv, lk, la⟩, by unfold tmVals; rw [bytes_back]⟩

theorem nodes_read {t e ti tk : TypeId} {f0 f1 f2 f3 f4 f5 f6 f7 q0 q1 q2 : Field} {ei : TypeId} {fuel : Nat} {v : Value} {x : DataW H × List MemPlace}
    (ht : P.underlying t = some (.slice e)) (hb : P.bytesOf e = 120)
    (he : P.underlying e = some (.struct #[f0, f1, f2, f3, f4, f5, f6, f7])) (hone : oneCellFields P #[f0, f1, f2, f3, f4, f5, f6, f7] = true) (hC : P.cellsOf e = 8)
    (h0 : P.underlying f0.type = some (.int .i64)) (h1 : P.underlying f1.type = some (.int .i64)) (h2 : P.underlying f2.type = some (.int .i64)) (h3 : P.underlying f3.type = some (.int .u64)) (h4 : P.underlying f4.type = some .string)
    (h5 : f5.type = ti) (h6 : f6.type = tk) (h7 : f7.type = ti) (hti : P.underlying ti = some (.slice ei)) (hei : P.underlying ei = some (.int .i64)) (hic : P.cellsOf ei = 1) (hib : P.bytesOf ei = 8)
    {ek : TypeId} (htk : P.underlying tk = some (.slice ek)) (hek : P.underlying ek = some (.struct #[q0, q1, q2])) (kone : oneCellFields P #[q0, q1, q2] = true)
    (kC : P.cellsOf ek = 3) (kb : P.bytesOf ek = 32) (k0 : P.underlying q0.type = some (.int .i64)) (k1 : P.underlying q1.type = some (.int .i64)) (k2 : P.underlying q2.type = some .string)
    (h : DataW.trod enc P w 0 (fun _ => true) held fuel t [v] = some x) (hL : Light P t x.1) : ∃ L, NV w w.heap.size v L := by
  rcases open_slice ht h with ⟨hs, _⟩ | ⟨a, len, cap, m, n, D, Pl, hs, _, hl, hm, hmm, hx, hi⟩
  · injection hs with hs
    subst hs
    exact ⟨[], none, 0, rfl, Nat.le_refl _, by decide, fun i t hit => by simp at hit⟩
  · injection hs with hs
    subst hs hx
    have hm' : m = cap := by simpa using hmm
    obtain ⟨hr, hel⟩ := Light.slice hL ht
    rw [hb] at hr
    simp only [List.length_map, List.length_range, reachBytes] at hr
    haveI : Inhabited (Tm × Value × Value × Value) := ⟨⟨⟨0, 0, 0, 0, [], [], [], []⟩, .bool false, .bool false, .bool false⟩⟩
    obtain ⟨K, hK⟩ := choose_lt (α := Tm × Value × Value × Value) (n := len) (p := fun i q => TV w w.heap.size q.1 q.2.1 q.2.2.1 q.2.2.2 ∧ ∀ j u, (tmVals q.1 q.2.1 q.2.2.1 q.2.2.2)[j]? = some u → w.cell? (a.add (i * 8 + j)) = some u) (fun i hil => by
      obtain ⟨cs', hcs, htr⟩ := hi i (by omega)
      rw [hC] at hcs
      obtain ⟨_, hlen, hat⟩ := World.cells?_some hcs
      obtain ⟨tm, vv, kv, av, hT, rfl⟩ := node_read he hone hC h0 h1 h2 h3 h4 h5 h6 h7 hti hei hic hib htk hek kone kC kb k0 k1 k2 htr (hel (D i) (List.mem_map.2 ⟨i, List.mem_range.2 hil, rfl⟩))
      refine ⟨⟨tm, vv, kv, av⟩, hT, fun j u hj => ?_⟩
      have hj8 : j < (tmVals tm vv kv av).length := (List.getElem?_eq_some_iff.1 hj).1
      have := hat j (by omega)
      rw [add_add, hj] at this
      exact this)
    have hll : ((List.range len).map fun i => (K i).1).length = len := by simp
    refine ⟨(List.range len).map fun i => (K i).1, some a, cap, by rw [hll], by omega, by omega, fun i t hit => ?_⟩
    rw [List.getElem?_map] at hit
    obtain ⟨i', hi', rfl⟩ := Option.map_eq_some_iff.1 hit
    have hil : i < len := by
      have := (List.getElem?_eq_some_iff.1 hi').1
      simpa using this
    rw [List.getElem?_range hil] at hi'
    injection hi' with hi'
    subst hi'
    obtain ⟨hT, hc⟩ := hK i hil
    exact ⟨a, (K i).2.1, (K i).2.2.1, (K i).2.2.2, rfl, (by have := cell_lt (hc 0 _ rfl); rw [block_of_add] at this; exact this), hT, hc⟩
end
end Go.Proofs.YtjhdlnllhjffkaaGreatDoor

namespace Go.Proofs.YtjhdlnllhjffkaaGreatDoor
open Go.RowKit Go.ChangeShapes Go.WideShapes Go.Deep LamM CpsM

section
variable {H : Type} {enc : TypeId × Value → H} {P : Program} {w : World} {held : Bool}
theorem node_readF {e ti tk : TypeId} {f0 f1 f2 f3 f4 f5 f6 f7 f8 q0 q1 q2 : Field} {ei : TypeId} {fuel : Nat} {cs : List Value} {x : DataW H × List MemPlace}
    (he : P.underlying e = some (.struct #[f0, f1, f2, f3, f4, f5, f6, f7, f8])) (hone : oneCellFields P #[f0, f1, f2, f3, f4, f5, f6, f7, f8] = true) (hC : P.cellsOf e = 9)
    (h0 : P.underlying f0.type = some (.int .i64)) (h1 : P.underlying f1.type = some (.int .i64)) (h2 : P.underlying f2.type = some (.int .i64)) (hmf : P.underlying f3.type = some (.int .i64)) (h3 : P.underlying f4.type = some (.int .u64)) (h4 : P.underlying f5.type = some .string)
    (h5 : f6.type = ti) (h6 : f7.type = tk) (h7 : f8.type = ti) (hti : P.underlying ti = some (.slice ei)) (hei : P.underlying ei = some (.int .i64)) (hic : P.cellsOf ei = 1) (hib : P.bytesOf ei = 8)
    {ek : TypeId} (htk : P.underlying tk = some (.slice ek)) (hek : P.underlying ek = some (.struct #[q0, q1, q2])) (kone : oneCellFields P #[q0, q1, q2] = true)
    (kC : P.cellsOf ek = 3) (kb : P.bytesOf ek = 32) (k0 : P.underlying q0.type = some (.int .i64)) (k1 : P.underlying q1.type = some (.int .i64)) (k2 : P.underlying q2.type = some .string)
    (h : DataW.trod enc P w 0 (fun _ => true) held fuel e cs = some x) (hL : Light P e x.1) :
    ∃ tm vv kv av, FV w w.heap.size tm vv kv av ∧ cs = flVals tm vv kv av := by
  obtain ⟨xs, n, _, hx, hl, hlen, hf⟩ := DataW.trod_struct he h
  subst hx
  rw [hC] at hl
  have one : ∀ (j : Nat) (f : Field) (c : Value), (#[f0, f1, f2, f3, f4, f5, f6, f7, f8] : Array Field)[j]? = some f → cs[j]? = some c → ∃ y, xs[j]? = some y ∧ DataW.trod enc P w 0 (fun _ => true) held n f.type [c] = some y ∧ Light P f.type y.1 := by
    intro j f c hj hc
    obtain ⟨o, k⟩ := hone_of hone j f hj
    have g := hf j f hj
    have hjl : j < cs.length := (List.getElem?_eq_some_iff.1 hc).1
    rw [o, k, List.drop_eq_getElem_cons hjl, (List.getElem?_eq_some_iff.1 hc).2] at g
    have hj8 : j < xs.length := by rw [hlen]; exact (Array.getElem?_eq_some_iff.1 hj).1
    refine ⟨xs[j], List.getElem?_eq_getElem hj8, ?_, ?_⟩
    · rw [List.getElem?_eq_getElem hj8] at g
      exact g
    · exact Light.agg hL he hj (by rw [List.getElem?_map, List.getElem?_eq_getElem hj8]; rfl)
  match cs, hl with
  | [c0, c1, c2, c3, c4, c5, c6, c7, c8], _ =>
    obtain ⟨_, _, t0, _⟩ := one 0 f0 c0 rfl rfl
    obtain ⟨_, _, t1, _⟩ := one 1 f1 c1 rfl rfl
    obtain ⟨_, _, t2, _⟩ := one 2 f2 c2 rfl rfl
    obtain ⟨_, _, t3, _⟩ := one 3 f3 c3 rfl rfl
    obtain ⟨_, _, t4, _⟩ := one 4 f4 c4 rfl rfl
    obtain ⟨_, _, t5, _⟩ := one 5 f5 c5 rfl rfl
    obtain ⟨_, _, t6, l6⟩ := one 6 f6 c6 rfl rfl
    obtain ⟨_, _, t7, l7⟩ := one 7 f7 c7 rfl rfl
    obtain ⟨_, _, t8, l8⟩ := one 8 f8 c8 rfl rfl
    rw [h5] at t6 l6
    rw [h6] at t7 l7
    rw [h7] at t8 l8
    obtain ⟨z0, e0, _, r0⟩ := DataW.trod_int h0 t0
    obtain ⟨z1, e1, _, r1⟩ := DataW.trod_int h1 t1
    obtain ⟨z2, e2, _, r2⟩ := DataW.trod_int h2 t2
    obtain ⟨zm, em, _, rm⟩ := DataW.trod_int hmf t3
    obtain ⟨z3, e3, _, _⟩ := DataW.trod_int h3 t4
    obtain ⟨s, e4, _, _⟩ := DataW.trod_string h4 t5
    obtain ⟨vs, hv, rv, lv⟩ := ints_read hti hei hic hib t6 l6
    obtain ⟨ks, hk, lk⟩ := keys_read htk hek kone kC kb k0 k1 k2 t7 l7
    obtain ⟨args, ha, ra, la⟩ := ints_read hti hei hic hib t8 l8
    injection e0 with e0
    injection e1 with e1
    injection e2 with e2
    injection em with em
    injection e3 with e3
    injection e4 with e4
    subst e0 e1 e2 em e3 e4
    exact ⟨⟨z0, z1, z2, zm, z3, s.data.toList, vs, ks, args⟩, c6, c7, c8, ⟨hv, hk, ha, i64_range r0, i64_range r1, i64_range r2, i64_range rm, ra, rv, lv, lk, la⟩, by unfold flVals; rw [bytes_back]⟩

theorem nodes_readF {t e ti tk : TypeId} {f0 f1 f2 f3 f4 f5 f6 f7 f8 q0 q1 q2 : Field} {ei : TypeId} {fuel : Nat} {v : Value} {x : DataW H × List MemPlace}
    (ht : P.underlying t = some (.slice e)) (hb : P.bytesOf e = 128)
    (he : P.underlying e = some (.struct #[f0, f1, f2, f3, f4, f5, f6, f7, f8])) (hone : oneCellFields P #[f0, f1, f2, f3, f4, f5, f6, f7, f8] = true) (hC : P.cellsOf e = 9)
    (h0 : P.underlying f0.type = some (.int .i64)) (h1 : P.underlying f1.type = some (.int .i64)) (h2 : P.underlying f2.type = some (.int .i64)) (hmf : P.underlying f3.type = some (.int .i64)) (h3 : P.underlying f4.type = some (.int .u64)) (h4 : P.underlying f5.type = some .string)
    (h5 : f6.type = ti) (h6 : f7.type = tk) (h7 : f8.type = ti) (hti : P.underlying ti = some (.slice ei)) (hei : P.underlying ei = some (.int .i64)) (hic : P.cellsOf ei = 1) (hib : P.bytesOf ei = 8)
    {ek : TypeId} (htk : P.underlying tk = some (.slice ek)) (hek : P.underlying ek = some (.struct #[q0, q1, q2])) (kone : oneCellFields P #[q0, q1, q2] = true)
    (kC : P.cellsOf ek = 3) (kb : P.bytesOf ek = 32) (k0 : P.underlying q0.type = some (.int .i64)) (k1 : P.underlying q1.type = some (.int .i64)) (k2 : P.underlying q2.type = some .string)
    (h : DataW.trod enc P w 0 (fun _ => true) held fuel t [v] = some x) (hL : Light P t x.1) : ∃ L, NF w w.heap.size v L := by
  rcases open_slice ht h with ⟨hs, _⟩ | ⟨a, len, cap, m, n, D, Pl, hs, _, hl, hm, hmm, hx, hi⟩
  · injection hs with hs
    subst hs
    exact ⟨[], none, 0, rfl, Nat.le_refl _, by decide, fun i t hit => by simp at hit⟩
  · injection hs with hs
    subst hs hx
    have hm' : m = cap := by simpa using hmm
    obtain ⟨hr, hel⟩ := Light.slice hL ht
    rw [hb] at hr
    simp only [List.length_map, List.length_range, reachBytes] at hr
    haveI : Inhabited (Fl × Value × Value × Value) := ⟨⟨⟨0, 0, 0, 0, 0, [], [], [], []⟩, .bool false, .bool false, .bool false⟩⟩
    obtain ⟨K, hK⟩ := choose_lt (α := Fl × Value × Value × Value) (n := len) (p := fun i q => FV w w.heap.size q.1 q.2.1 q.2.2.1 q.2.2.2 ∧ ∀ j u, (flVals q.1 q.2.1 q.2.2.1 q.2.2.2)[j]? = some u → w.cell? (a.add (i * 9 + j)) = some u) (fun i hil => by
      obtain ⟨cs', hcs, htr⟩ := hi i (by omega)
      rw [hC] at hcs
      obtain ⟨_, hlen, hat⟩ := World.cells?_some hcs
      obtain ⟨tm, vv, kv, av, hT, rfl⟩ := node_readF he hone hC h0 h1 h2 hmf h3 h4 h5 h6 h7 hti hei hic hib htk hek kone kC kb k0 k1 k2 htr (hel (D i) (List.mem_map.2 ⟨i, List.mem_range.2 hil, rfl⟩))
      refine ⟨⟨tm, vv, kv, av⟩, hT, fun j u hj => ?_⟩
      have hj8 : j < (flVals tm vv kv av).length := (List.getElem?_eq_some_iff.1 hj).1
      have := hat j (by omega)
      rw [add_add, hj] at this
      exact this)
    have hll : ((List.range len).map fun i => (K i).1).length = len := by simp
    refine ⟨(List.range len).map fun i => (K i).1, some a, cap, by rw [hll], by omega, by omega, fun i t hit => ?_⟩
    rw [List.getElem?_map] at hit
    obtain ⟨i', hi', rfl⟩ := Option.map_eq_some_iff.1 hit
    have hil : i < len := by
      have := (List.getElem?_eq_some_iff.1 hi').1
      simpa using this
    rw [List.getElem?_range hil] at hi'
    injection hi' with hi'
    subst hi'
    obtain ⟨hT, hc⟩ := hK i hil
    exact ⟨a, (K i).2.1, (K i).2.2.1, (K i).2.2.2, rfl, (by have := cell_lt (hc 0 _ rfl); rw [block_of_add] at this; exact this), hT, hc⟩
end
end Go.Proofs.YtjhdlnllhjffkaaGreatDoor

namespace Go.Proofs.YtjhdlnllhjffkaaGreatDoor
open Go.RowKit Go.ChangeShapes Go.WideShapes Go.Deep LamM CpsM CloM

section
variable {H : Type} {enc : TypeId × Value → H} {P : Program} {w : World} {held : Bool}
theorem bulk_one (d : DataW H) : 1 ≤ Rows.uptoBulk d := by
  cases d with
  | lit l => cases l <;> simp [Rows.uptoBulk]
  | nil => simp [Rows.uptoBulk]
  | ptr d => simp [Rows.uptoBulk]
  | slice a b => simp [Rows.uptoBulk]
  | agg a => simp [Rows.uptoBulk]
  | iface t d => simp [Rows.uptoBulk]
  | map es => simp [Rows.uptoBulk]
  | held h => simp [Rows.uptoBulk]
theorem bulk_part {d : DataW H} : ∀ {l : List (DataW H)}, d ∈ l → Rows.uptoBulk d ≤ Rows.uptoBulkAll l
  | x :: r, h => by
    simp only [Rows.uptoBulkAll]
    rcases List.mem_cons.1 h with e | e
    · subst e; omega
    · have := bulk_part e; omega
theorem bulk_len : ∀ l : List (DataW H), l.length ≤ Rows.uptoBulkAll l
  | [] => by simp
  | x :: r => by
    have h1 := bulk_one x
    have h2 := bulk_len r
    simp only [Rows.uptoBulkAll, List.length_cons]
    omega
/-- A slice is no longer than its datum is great. -/
theorem slice_bulk {t e : TypeId} {fuel : Nat} {v : Value} {x : DataW H × List MemPlace} (ht : P.underlying t = some (.slice e)) (h : DataW.trod enc P w 0 (fun _ => true) held fuel t [v] = some x) {A : Option Addr} {n c : Nat} (hv : v = .slice A n c) : n ≤ Rows.uptoBulk x.1 := by
  subst hv
  rcases open_slice ht h with ⟨hs, _⟩ | ⟨a, len, cap, m, k, D, Pl, hs, _, hl, hm, hmm, hx, hi⟩
  · injection hs with hs
    injection hs with _ h2 _
    omega
  · injection hs with hs
    injection hs with _ h2 _
    subst h2 hx
    have h1 := bulk_len ((List.range n).map D)
    simp only [List.length_map, List.length_range] at h1
    simp only [Rows.uptoBulk]
    omega
theorem node_readB {e ti tk : TypeId} {f0 f1 f2 f3 f4 f5 f6 f7 f8 q0 q1 q2 : Field} {ei : TypeId} {fuel : Nat} {cs : List Value} {x : DataW H × List MemPlace}
    (he : P.underlying e = some (.struct #[f0, f1, f2, f3, f4, f5, f6, f7, f8])) (hone : oneCellFields P #[f0, f1, f2, f3, f4, f5, f6, f7, f8] = true) (hC : P.cellsOf e = 9)
    (h0 : P.underlying f0.type = some (.int .i64)) (h1 : P.underlying f1.type = some (.int .i64)) (h2 : P.underlying f2.type = some (.int .i64)) (hmf : P.underlying f3.type = some (.int .i64)) (h3 : P.underlying f4.type = some (.int .u64)) (h4 : P.underlying f5.type = some .string)
    (h5 : f6.type = ti) (h6 : f7.type = tk) (h7 : f8.type = ti) (hti : P.underlying ti = some (.slice ei)) (hei : P.underlying ei = some (.int .i64)) (hic : P.cellsOf ei = 1) (hib : P.bytesOf ei = 8)
    {ek : TypeId} (htk : P.underlying tk = some (.slice ek)) (hek : P.underlying ek = some (.struct #[q0, q1, q2])) (kone : oneCellFields P #[q0, q1, q2] = true)
    (kC : P.cellsOf ek = 3) (kb : P.bytesOf ek = 32) (k0 : P.underlying q0.type = some (.int .i64)) (k1 : P.underlying q1.type = some (.int .i64)) (k2 : P.underlying q2.type = some .string)
    (h : DataW.trod enc P w 0 (fun _ => true) held fuel e cs = some x) (hL : Light P e x.1) :
    ∃ tm vv kv av, FV w w.heap.size tm vv kv av ∧ tm.args.length ≤ Rows.uptoBulk x.1 ∧ cs = flVals tm vv kv av := by
  obtain ⟨tm, vv, kv, av, hT, rfl⟩ := node_readF he hone hC h0 h1 h2 hmf h3 h4 h5 h6 h7 hti hei hic hib htk hek kone kC kb k0 k1 k2 h hL
  obtain ⟨xs, n, _, hx, _, hlen, hf⟩ := DataW.trod_struct he h
  subst hx
  obtain ⟨o, k⟩ := hone_of hone 8 f8 rfl
  have g := hf 8 f8 rfl
  have h8 : 8 < xs.length := by rw [hlen]; show 8 < 9; decide
  rw [o, k, List.getElem?_eq_getElem h8] at g
  have g2 : DataW.trod enc P w 0 (fun _ => true) held n f8.type [av] = some xs[8] := g
  rw [h7] at g2
  obtain ⟨NA, nc, hav, _⟩ := hT.a.len
  have hb := slice_bulk hti g2 hav
  have hm : xs[8].1 ∈ xs.map (·.1) := List.mem_map.2 ⟨xs[8], List.getElem_mem h8, rfl⟩
  have hp := bulk_part hm
  refine ⟨tm, vv, kv, av, hT, ?_, rfl⟩
  simp only [Rows.uptoBulk]
  omega
theorem nodes_readB {t e ti tk : TypeId} {f0 f1 f2 f3 f4 f5 f6 f7 f8 q0 q1 q2 : Field} {ei : TypeId} {fuel : Nat} {v : Value} {x : DataW H × List MemPlace}
    (ht : P.underlying t = some (.slice e)) (hb : P.bytesOf e = 128)
    (he : P.underlying e = some (.struct #[f0, f1, f2, f3, f4, f5, f6, f7, f8])) (hone : oneCellFields P #[f0, f1, f2, f3, f4, f5, f6, f7, f8] = true) (hC : P.cellsOf e = 9)
    (h0 : P.underlying f0.type = some (.int .i64)) (h1 : P.underlying f1.type = some (.int .i64)) (h2 : P.underlying f2.type = some (.int .i64)) (hmf : P.underlying f3.type = some (.int .i64)) (h3 : P.underlying f4.type = some (.int .u64)) (h4 : P.underlying f5.type = some .string)
    (h5 : f6.type = ti) (h6 : f7.type = tk) (h7 : f8.type = ti) (hti : P.underlying ti = some (.slice ei)) (hei : P.underlying ei = some (.int .i64)) (hic : P.cellsOf ei = 1) (hib : P.bytesOf ei = 8)
    {ek : TypeId} (htk : P.underlying tk = some (.slice ek)) (hek : P.underlying ek = some (.struct #[q0, q1, q2])) (kone : oneCellFields P #[q0, q1, q2] = true)
    (kC : P.cellsOf ek = 3) (kb : P.bytesOf ek = 32) (k0 : P.underlying q0.type = some (.int .i64)) (k1 : P.underlying q1.type = some (.int .i64)) (k2 : P.underlying q2.type = some .string)
    (h : DataW.trod enc P w 0 (fun _ => true) held fuel t [v] = some x) (hL : Light P t x.1) : ∃ L, NF w w.heap.size v L ∧ ∀ t ∈ L, t.args.length ≤ Rows.uptoBulk x.1 := by
  rcases open_slice ht h with ⟨hs, _⟩ | ⟨a, len, cap, m, n, D, Pl, hs, _, hl, hm, hmm, hx, hi⟩
  · injection hs with hs
    subst hs
    exact ⟨[], ⟨none, 0, rfl, Nat.le_refl _, by decide, fun i t hit => by simp at hit⟩, fun t ht => by cases ht⟩
  · injection hs with hs
    subst hs hx
    have hm' : m = cap := by simpa using hmm
    obtain ⟨hr, hel⟩ := Light.slice hL ht
    rw [hb] at hr
    simp only [List.length_map, List.length_range, reachBytes] at hr
    haveI : Inhabited (Fl × Value × Value × Value) := ⟨⟨⟨0, 0, 0, 0, 0, [], [], [], []⟩, .bool false, .bool false, .bool false⟩⟩
    obtain ⟨K, hK⟩ := choose_lt (α := Fl × Value × Value × Value) (n := len) (p := fun i q => FV w w.heap.size q.1 q.2.1 q.2.2.1 q.2.2.2 ∧ q.1.args.length ≤ Rows.uptoBulk (D i) ∧ ∀ j u, (flVals q.1 q.2.1 q.2.2.1 q.2.2.2)[j]? = some u → w.cell? (a.add (i * 9 + j)) = some u) (fun i hil => by
      obtain ⟨cs', hcs, htr⟩ := hi i (by omega)
      rw [hC] at hcs
      obtain ⟨_, hlen, hat⟩ := World.cells?_some hcs
      obtain ⟨tm, vv, kv, av, hT, hB, rfl⟩ := node_readB he hone hC h0 h1 h2 hmf h3 h4 h5 h6 h7 hti hei hic hib htk hek kone kC kb k0 k1 k2 htr (hel (D i) (List.mem_map.2 ⟨i, List.mem_range.2 hil, rfl⟩))
      refine ⟨⟨tm, vv, kv, av⟩, hT, hB, fun j u hj => ?_⟩
      have hj8 : j < (flVals tm vv kv av).length := (List.getElem?_eq_some_iff.1 hj).1
      have := hat j (by omega)
      rw [add_add, hj] at this
      exact this)
    have hll : ((List.range len).map fun i => (K i).1).length = len := by simp
    have hbig : ∀ i, i < len → Rows.uptoBulk (D i) ≤ Rows.uptoBulkAll ((List.range len).map D) := fun i hil => bulk_part (List.mem_map.2 ⟨i, List.mem_range.2 hil, rfl⟩)
    refine ⟨(List.range len).map fun i => (K i).1, ⟨some a, cap, by rw [hll], by omega, by omega, fun i t hit => ?_⟩, fun t ht => by
      obtain ⟨i, hi1, rfl⟩ := List.mem_map.1 ht
      have h1 := (hK i (List.mem_range.1 hi1)).2.1
      have h2 := hbig i (List.mem_range.1 hi1)
      simp only [Rows.uptoBulk]
      omega⟩
    rw [List.getElem?_map] at hit
    obtain ⟨i', hi', rfl⟩ := Option.map_eq_some_iff.1 hit
    have hil : i < len := by
      have := (List.getElem?_eq_some_iff.1 hi').1
      simpa using this
    rw [List.getElem?_range hil] at hi'
    injection hi' with hi'
    subst hi'
    obtain ⟨hT, _, hc⟩ := hK i hil
    exact ⟨a, (K i).2.1, (K i).2.2.1, (K i).2.2.2, rfl, (by have := cell_lt (hc 0 _ rfl); rw [block_of_add] at this; exact this), hT, hc⟩
theorem fun_read {e ti : TypeId} {f0 f1 : Field} {ei : TypeId} {fuel : Nat} {cs : List Value} {x : DataW H × List MemPlace}
    (he : P.underlying e = some (.struct #[f0, f1])) (hone : oneCellFields P #[f0, f1] = true) (hC : P.cellsOf e = 2) (h0 : f0.type = ti) (h1 : P.underlying f1.type = some (.int .i64))
    (hti : P.underlying ti = some (.slice ei)) (hei : P.underlying ei = some (.int .i64)) (hic : P.cellsOf ei = 1) (hib : P.bytesOf ei = 8)
    (h : DataW.trod enc P w 0 (fun _ => true) held fuel e cs = some x) (hL : Light P e x.1) :
    ∃ (f : FnD) (pv : Value), IV w w.heap.size pv f.params ∧ (-9223372036854775808 ≤ f.body ∧ f.body ≤ 9223372036854775807) ∧ f.params.length ≤ 17592186044416 ∧ cs = [pv, .int .i64 f.body] := by
  obtain ⟨xs, n, _, hx, hl, hlen, hf⟩ := DataW.trod_struct he h
  subst hx
  rw [hC] at hl
  have one : ∀ (j : Nat) (f : Field) (c : Value), (#[f0, f1] : Array Field)[j]? = some f → cs[j]? = some c → ∃ y, xs[j]? = some y ∧ DataW.trod enc P w 0 (fun _ => true) held n f.type [c] = some y ∧ Light P f.type y.1 := by
    intro j f c hj hc
    obtain ⟨o, k⟩ := hone_of hone j f hj
    have g := hf j f hj
    have hjl : j < cs.length := (List.getElem?_eq_some_iff.1 hc).1
    rw [o, k, List.drop_eq_getElem_cons hjl, (List.getElem?_eq_some_iff.1 hc).2] at g
    have hj8 : j < xs.length := by rw [hlen]; exact (Array.getElem?_eq_some_iff.1 hj).1
    refine ⟨xs[j], List.getElem?_eq_getElem hj8, ?_, ?_⟩
    · rw [List.getElem?_eq_getElem hj8] at g
      exact g
    · exact Light.agg hL he hj (by rw [List.getElem?_map, List.getElem?_eq_getElem hj8]; rfl)
  match cs, hl with
  | [c0, c1], _ =>
    obtain ⟨_, _, t0, l0⟩ := one 0 f0 c0 rfl rfl
    obtain ⟨_, _, t1, _⟩ := one 1 f1 c1 rfl rfl
    rw [h0] at t0 l0
    obtain ⟨z1, e1, _, r1⟩ := DataW.trod_int h1 t1
    obtain ⟨ps, hp, _, lp⟩ := ints_read hti hei hic hib t0 l0
    injection e1 with e1
    subst e1
    exact ⟨⟨ps, z1⟩, c0, hp, i64_range r1, lp, rfl⟩
theorem funs_read {t e ti : TypeId} {f0 f1 : Field} {ei : TypeId} {fuel : Nat} {v : Value} {x : DataW H × List MemPlace}
    (ht : P.underlying t = some (.slice e)) (_hb : P.bytesOf e = 32)
    (he : P.underlying e = some (.struct #[f0, f1])) (hone : oneCellFields P #[f0, f1] = true) (hC : P.cellsOf e = 2) (h0 : f0.type = ti) (h1 : P.underlying f1.type = some (.int .i64))
    (hti : P.underlying ti = some (.slice ei)) (hei : P.underlying ei = some (.int .i64)) (hic : P.cellsOf ei = 1) (hib : P.bytesOf ei = 8)
    (h : DataW.trod enc P w 0 (fun _ => true) held fuel t [v] = some x) (hL : Light P t x.1) (hB : Rows.uptoBulk x.1 ≤ 1048576) : ∃ fs, FnV w w.heap.size v fs := by
  rcases open_slice ht h with ⟨hs, _⟩ | ⟨a, len, cap, m, n, D, Pl, hs, _, hl, hm, hmm, hx, hi⟩
  · injection hs with hs
    subst hs
    exact ⟨[], none, 0, rfl, Nat.le_refl _, by decide, fun i t hit => by simp at hit⟩
  · injection hs with hs
    have hbl := slice_bulk ht h hs
    subst hs hx
    have hm' : m = cap := by simpa using hmm
    obtain ⟨_, hel⟩ := Light.slice hL ht
    haveI : Inhabited (FnD × Value) := ⟨⟨⟨[], 0⟩, .bool false⟩⟩
    obtain ⟨K, hK⟩ := choose_lt (α := FnD × Value) (n := len) (p := fun i q => IV w w.heap.size q.2 q.1.params ∧ (-9223372036854775808 ≤ q.1.body ∧ q.1.body ≤ 9223372036854775807) ∧ q.1.params.length ≤ 17592186044416 ∧ w.cell? (a.add (i * 2)) = some q.2 ∧ w.cell? (a.add (i * 2 + 1)) = some (.int .i64 q.1.body)) (fun i hil => by
      obtain ⟨cs', hcs, htr⟩ := hi i (by omega)
      rw [hC] at hcs
      obtain ⟨_, hlen, hat⟩ := World.cells?_some hcs
      obtain ⟨f, pv, hp, hr, hl2, rfl⟩ := fun_read he hone hC h0 h1 hti hei hic hib htr (hel (D i) (List.mem_map.2 ⟨i, List.mem_range.2 hil, rfl⟩))
      have e0 := hat 0 (by omega)
      have e1 := hat 1 (by omega)
      rw [add_add] at e0 e1
      exact ⟨⟨f, pv⟩, hp, hr, hl2, e0, e1⟩)
    have hll : ((List.range len).map fun i => (K i).1).length = len := by simp
    refine ⟨(List.range len).map fun i => (K i).1, some a, cap, by rw [hll], by omega, by omega, fun i t hit => ?_⟩
    rw [List.getElem?_map] at hit
    obtain ⟨i', hi', rfl⟩ := Option.map_eq_some_iff.1 hit
    have hil : i < len := by
      have := (List.getElem?_eq_some_iff.1 hi').1
      simpa using this
    rw [List.getElem?_range hil] at hi'
    injection hi' with hi'
    subst hi'
    obtain ⟨hp, hr2, hl2, c0, c1⟩ := hK i hil
    obtain ⟨PA, pc, e, _⟩ := hp.len
    rw [e] at hp c0
    exact ⟨a, PA, pc, rfl, (by have := cell_lt c0; rw [block_of_add] at this; exact this), hp, hr2, hl2, c0, c1⟩
end
end Go.Proofs.YtjhdlnllhjffkaaGreatDoor
