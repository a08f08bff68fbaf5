/- How the nodes of the argument read: off its datum and the form's reach: nodes of nine cells. -/
import Derived.Test.YtikkmalhdidhaaaGreatDoorLamAU
import Derived.Test.YtikkmalhdidhaaaGreatDoorCpsMb
namespace Go.Proofs.YtikkmalhdidhaaaGreatDoor
open Go.RowKit Go.ChangeShapes Go.WideShapes Go.Deep LamM CpsM

section
variable {H : Type} {enc : TypeId × Value → H} {P : Program} {w : World} {held : Bool}
theorem node_readF {e ti tk : TypeId} {f0 f1 f2 f3 f4 f5 f6 f7 f8 q0 q1 q2 : Field} {ei : TypeId} {fuel : Nat} {cs : List Value} {x : DataW H × List MemPlace}
    (he : P.underlying e = some (.struct #[f0, f1, f2, f3, f4, f5, f6, f7, f8])) (hone : oneCellFields P #[f0, f1, f2, f3, f4, f5, f6, f7, f8] = true) (hC : P.cellsOf e = 9)
    (h0 : P.underlying f0.type = some (.int .i64)) (h1 : P.underlying f1.type = some (.int .i64)) (h2 : P.underlying f2.type = some (.int .i64)) (hmf : P.underlying f3.type = some (.int .i64)) (h3 : P.underlying f4.type = some (.int .u64)) (h4 : P.underlying f5.type = some .string)
    (h5 : f6.type = ti) (h6 : f7.type = tk) (h7 : f8.type = ti) (hti : P.underlying ti = some (.slice ei)) (hei : P.underlying ei = some (.int .i64)) (hic : P.cellsOf ei = 1) (hib : P.bytesOf ei = 8)
    {ek : TypeId} (htk : P.underlying tk = some (.slice ek)) (hek : P.underlying ek = some (.struct #[q0, q1, q2])) (kone : oneCellFields P #[q0, q1, q2] = true)
    (kC : P.cellsOf ek = 3) (kb : P.bytesOf ek = 32) (k0 : P.underlying q0.type = some (.int .i64)) (k1 : P.underlying q1.type = some (.int .i64)) (k2 : P.underlying q2.type = some .string)
    (h : DataW.trod enc P w 0 (fun _ => true) held fuel e cs = some x) (hL : Light P e x.1) :
    ∃ tm vv kv av, FV w w.heap.size tm vv kv av ∧ cs = flVals tm vv kv av := by
  obtain ⟨xs, n, _, hx, hl, hlen, hf⟩ := DataW.trod_struct he h
  subst hx
  rw [hC] at hl
  have one : ∀ (j : Nat) (f : Field) (c : Value), (#[f0, f1, f2, f3, f4, f5, f6, f7, f8] : Array Field)[j]? = some f → cs[j]? = some c → ∃ y, xs[j]? = some y ∧ DataW.trod enc P w 0 (fun _ => true) held n f.type [c] = some y ∧ Light P f.type y.1 := by
    intro j f c hj hc
    obtain ⟨o, k⟩ := hone_of hone j f hj
    have g := hf j f hj
    have hjl : j < cs.length := (List.getElem?_eq_some_iff.1 hc).1
    rw [o, k, List.drop_eq_getElem_cons hjl, (List.getElem?_eq_some_iff.1 hc).2] at g
    have hj8 : j < xs.length := by rw [hlen]; exact (Array.getElem?_eq_some_iff.1 hj).1
    refine ⟨xs[j], List.getElem?_eq_getElem hj8, ?_, ?_⟩
    · rw [List.getElem?_eq_getElem hj8] at g
      exact g
    · exact Light.agg hL he hj (by rw [List.getElem?_map, List.getElem?_eq_getElem hj8]; rfl)
  match cs, hl with
  | [c0, c1, c2, c3, c4, c5, c6, c7, c8], _ =>
    obtain ⟨_, _, t0, _⟩ := one 0 f0 c0 rfl rfl
    obtain ⟨_, _, t1, _⟩ := one 1 f1 c1 rfl rfl
    obtain ⟨_, _, t2, _⟩ := one 2 f2 c2 rfl rfl
    obtain ⟨_, _, t3, _⟩ := one 3 f3 c3 rfl rfl
    obtain ⟨_, _, t4, _⟩ := one 4 f4 c4 rfl rfl
    obtain ⟨_, _, t5, _⟩ := one 5 f5 c5 rfl rfl
    obtain ⟨_, _, t6, l6⟩ := one 6 f6 c6 rfl rfl
    obtain ⟨_, _, t7, l7⟩ := one 7 f7 c7 rfl rfl
    obtain ⟨_, _, t8, l8⟩ := one 8 f8 c8 rfl rfl
    rw [h5] at t6 l6
    rw [h6] at t7 l7
    rw [h7] at t8 l8
    obtain ⟨z0, e0, _, r0⟩ := DataW.trod_int h0 t0
    obtain ⟨z1, e1, _, r1⟩ := DataW.trod_int h1 t1
    obtain ⟨z2, e2, _, r2⟩ := DataW.trod_int h2 t2
    obtain ⟨zm, em, _, rm⟩ := DataW.trod_int hmf t3
    obtain ⟨z3, e3, _, _⟩ := DataW.trod_int h3 t4
    obtain ⟨s, e4, _, _⟩ := DataW.trod_string h4 t5
    obtain ⟨vs, hv, rv, lv⟩ := ints_read hti hei hic hib t6 l6
    obtain ⟨ks, hk, lk⟩ := keys_read htk hek kone kC kb k0 k1 k2 t7 l7
    obtain ⟨args, ha, ra, la⟩ := ints_read hti hei hic hib t8 l8
    injection e0 with e0
    injection e1 with e1
    injection e2 with e2
    injection em with em
    injection e3 with e3
    injection e4 with e4
    subst e0 e1 e2 em e3 e4
    exact ⟨⟨z0, z1, z2, zm, z3, s.data.toList, vs, ks, args⟩, c6, c7, c8, ⟨hv, hk, ha, i64_range r0, i64_range r1, i64_range r2, i64_range rm, ra, rv, lv, lk, la⟩, by unfold flVals; rw [bytes_back]⟩

theorem nodes_readF {t e ti tk : TypeId} {f0 f1 f2 f3 f4 f5 f6 f7 f8 q0 q1 q2 : Field} {ei : TypeId} {fuel : Nat} {v : Value} {x : DataW H × List MemPlace}
    (ht : P.underlying t = some (.slice e)) (hb : P.bytesOf e = 128)
    (he : P.underlying e = some (.struct #[f0, f1, f2, f3, f4, f5, f6, f7, f8])) (hone : oneCellFields P #[f0, f1, f2, f3, f4, f5, f6, f7, f8] = true) (hC : P.cellsOf e = 9)
    (h0 : P.underlying f0.type = some (.int .i64)) (h1 : P.underlying f1.type = some (.int .i64)) (h2 : P.underlying f2.type = some (.int .i64)) (hmf : P.underlying f3.type = some (.int .i64)) (h3 : P.underlying f4.type = some (.int .u64)) (h4 : P.underlying f5.type = some .string)
    (h5 : f6.type = ti) (h6 : f7.type = tk) (h7 : f8.type = ti) (hti : P.underlying ti = some (.slice ei)) (hei : P.underlying ei = some (.int .i64)) (hic : P.cellsOf ei = 1) (hib : P.bytesOf ei = 8)
    {ek : TypeId} (htk : P.underlying tk = some (.slice ek)) (hek : P.underlying ek = some (.struct #[q0, q1, q2])) (kone : oneCellFields P #[q0, q1, q2] = true)
    (kC : P.cellsOf ek = 3) (kb : P.bytesOf ek = 32) (k0 : P.underlying q0.type = some (.int .i64)) (k1 : P.underlying q1.type = some (.int .i64)) (k2 : P.underlying q2.type = some .string)
    (h : DataW.trod enc P w 0 (fun _ => true) held fuel t [v] = some x) (hL : Light P t x.1) : ∃ L, NF w w.heap.size v L := by
  rcases open_slice ht h with ⟨hs, _⟩ | ⟨a, len, cap, m, n, D, Pl, hs, _, hl, hm, hmm, hx, hi⟩
  · injection hs with hs
    subst hs
    exact ⟨[], none, 0, rfl, Nat.le_refl _, by decide, fun i t hit => by simp at hit⟩
  · injection hs with hs
    subst hs hx
    have hm' : m = cap := by simpa using hmm
    obtain ⟨hr, hel⟩ := Light.slice hL ht
    rw [hb] at hr
    simp only [List.length_map, List.length_range, reachBytes] at hr
    haveI : Inhabited (Fl × Value × Value × Value) := ⟨⟨⟨0, 0, 0, 0, 0, [], [], [], []⟩, .bool false, .bool false, .bool false⟩⟩
    obtain ⟨K, hK⟩ := choose_lt (α := Fl × Value × Value × Value) (n := len) (p := fun i q => FV w w.heap.size q.1 q.2.1 q.2.2.1 q.2.2.2 ∧ ∀ j u, (flVals q.1 q.2.1 q.2.2.1 q.2.2.2)[j]? = some u → w.cell? (a.add (i * 9 + j)) = some u) (fun i hil => by
      obtain ⟨cs', hcs, htr⟩ := hi i (by omega)
      rw [hC] at hcs
      obtain ⟨_, hlen, hat⟩ := World.cells?_some hcs
      obtain ⟨tm, vv, kv, av, hT, rfl⟩ := node_readF he hone hC h0 h1 h2 hmf h3 h4 h5 h6 h7 hti hei hic hib htk hek kone kC kb k0 k1 k2 htr (hel (D i) (List.mem_map.2 ⟨i, List.mem_range.2 hil, rfl⟩))
      refine ⟨⟨tm, vv, kv, av⟩, hT, fun j u hj => ?_⟩
      have hj8 : j < (flVals tm vv kv av).length := (List.getElem?_eq_some_iff.1 hj).1
      have := hat j (by omega)
      rw [add_add, hj] at this
      exact this)
    have hll : ((List.range len).map fun i => (K i).1).length = len := by simp
    refine ⟨(List.range len).map fun i => (K i).1, some a, cap, by rw [hll], by omega, by omega, fun i t hit => ?_⟩
    rw [List.getElem?_map] at hit
    obtain ⟨i', hi', rfl⟩ := Option.map_eq_some_iff.1 hit
    have hil : i < len := by
      have := (List.getElem?_eq_some_iff.1 hi').1
      simpa using this
    rw [List.getElem?_range hil] at hi'
    injection hi' with hi'
    subst hi'
    obtain ⟨hT, hc⟩ := hK i hil
    exact ⟨a, (K i).2.1, (K i).2.2.1, (K i).2.2.2, rfl, (by have := cell_lt (hc 0 _ rfl); rw [block_of_add] at this; exact this), hT, hc⟩
end
end Go.Proofs.YtikkmalhdidhaaaGreatDoor
