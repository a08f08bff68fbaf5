/- Cps: programs laid node by node. Cps: the converter's small steps: a fresh variable, a node put. Cps: the looping program as the law builds it. Cps: the converter's state; a name, a function, what is done with an atom. Cps: what Run defers. Cps: the converter of a number: what is done with it, what it is. Cps: the converter of a number: what comes then, the node. Cps: the converter of a number: the node. -/
import Derived.Test.YtikkmalhdidhaaaGreatDoorCpsMb
import Derived.Test.YtikkmalhdidhaaaGreatDoorLamR
import Derived.Test.YtikkmalhdidhaaaGreatDoorLamRW
import Derived.Test.YtikkmalhdidhaaaGreatDoorCpsMe
import Derived.Test.YtikkmalhdidhaaaGreatDoorCpsBi
import Derived.Deep.RegionLaw
namespace Go.Proofs.YtikkmalhdidhaaaGreatDoor
open Go.RowKit LamM CpsM

/-- A node with what its three slices are. -/
abbrev Nd9 := Fl × Value × Value × Value
def ndVals (x : Nd9) : List Value := flVals x.1 x.2.1 x.2.2.1 x.2.2.2
def progC : List Nd9 → List Value
  | [] => []
  | x :: r => ndVals x ++ progC r
theorem ndVals_len (x : Nd9) : (ndVals x).length = 9 := rfl
theorem progC_len : ∀ l : List Nd9, (progC l).length = l.length * 9
  | [] => rfl
  | x :: r => by
    show (ndVals x ++ progC r).length = _
    rw [List.length_append, progC_len r, ndVals_len, List.length_cons]
    omega
theorem progC_app : ∀ l m : List Nd9, progC (l ++ m) = progC l ++ progC m
  | [], _ => rfl
  | x :: l, m => by
    show ndVals x ++ progC (l ++ m) = ndVals x ++ progC l ++ progC m
    rw [progC_app l m, List.append_assoc]
theorem progC_at : ∀ (l : List Nd9) (i : Nat) (x : Nd9) (j : Nat) (u : Value), l[i]? = some x → (ndVals x)[j]? = some u → (progC l)[i * 9 + j]? = some u
  | [], i, _, _, _, h, _ => by simp at h
  | y :: l, 0, x, j, u, h, hu => by
    have e : y = x := by simpa using h
    subst e
    show (ndVals y ++ progC l)[0 * 9 + j]? = some u
    have hj : j < (ndVals y).length := (List.getElem?_eq_some_iff.1 hu).1
    rw [Nat.zero_mul, Nat.zero_add, List.getElem?_append_left hj]
    exact hu
  | y :: l, i + 1, x, j, u, h, hu => by
    show (ndVals y ++ progC l)[(i + 1) * 9 + j]? = some u
    rw [List.getElem?_append_right (by rw [ndVals_len]; omega), ndVals_len, show (i + 1) * 9 + j - 9 = i * 9 + j by omega]
    exact progC_at l i x j u (by simpa using h) hu
theorem NF_of {w : World} {g c : Nat} {l : List Nd9} (h : ∀ k u, (progC l)[k]? = some u → w.cell? ⟨g, k, none⟩ = some u) (hlt : g < w.heap.size) (hc : l.length ≤ c) (hc2 : l.length ≤ 1300000000000)
    (hf : ∀ x ∈ l, FV w w.heap.size x.1 x.2.1 x.2.2.1 x.2.2.2) : NF w w.heap.size (.slice (some ⟨g, 0, none⟩) l.length c) (l.map (·.1)) := by
  refine ⟨some ⟨g, 0, none⟩, c, by rw [List.length_map], by rw [List.length_map]; exact hc, by rw [List.length_map]; exact hc2, fun i t ht => ?_⟩
  rw [List.getElem?_map] at ht
  obtain ⟨x, hx, rfl⟩ := Option.map_eq_some_iff.1 ht
  refine ⟨_, x.2.1, x.2.2.1, x.2.2.2, rfl, hlt, hf x (List.mem_of_getElem? hx), fun j u hu => ?_⟩
  rw [show (⟨g, 0, none⟩ : Addr).add (i * 9 + j) = ⟨g, i * 9 + j, none⟩ by unfold Addr.add; split <;> simp_all]
  exact h _ _ (progC_at l i x j u hx hu)
theorem blk_iv {w : World} {g : Nat} {l : List Int} (h : Blk w g 3 (intVals l).toArray) (hl : l.length ≤ 1000) : IV w w.heap.size (.slice (some ⟨g, 0, none⟩) l.length l.length) l :=
  ⟨_, _, rfl, Nat.le_refl _, by unfold maxLen; omega, Reads.blk' h (by simp [intVals])⟩
theorem nil_kv (w : World) (B : Nat) : KV w B (.slice none 0 0) [] := ⟨none, 0, rfl, Nat.le_refl _, Nat.zero_le _, rfl, fun h => absurd h (by decide)⟩
/-- A small node. -/
def SmallF (t : Fl) : Bool := t.keys.isEmpty && decide (0 ≤ t.k ∧ t.k ≤ 100 ∧ 0 ≤ t.n ∧ t.n ≤ 100 ∧ 0 ≤ t.m ∧ t.m ≤ 100 ∧ 0 ≤ t.i ∧ t.i ≤ 100) && (t.args.all fun x => decide (0 ≤ x ∧ x ≤ 100)) && (t.vars.all fun x => decide (0 ≤ x ∧ x ≤ 100)) && decide (t.args.length ≤ 100 ∧ t.vars.length ≤ 100)
theorem small_FV {w : World} {B : Nat} {t : Fl} {vv av : Value} (hs : SmallF t = true) (hv : IV w B vv t.vars) (ha : IV w B av t.args) : FV w B t vv (.slice none 0 0) av := by
  unfold SmallF at hs
  simp only [Bool.and_eq_true, List.isEmpty_iff, decide_eq_true_eq, List.all_eq_true] at hs
  obtain ⟨⟨⟨⟨h1, h2, h3, h4, h5, h6, h7, h8, h9⟩, h10⟩, h11⟩, h12, h13⟩ := hs
  exact ⟨hv, by rw [h1]; exact nil_kv _ _, ha, by omega, by omega, by omega, by omega, fun x hx => by have := h10 x hx; omega, fun x hx => by have := h11 x hx; omega, by omega, by rw [h1]; decide, by omega⟩
end Go.Proofs.YtikkmalhdidhaaaGreatDoor
namespace CpsM
open LamM
/-- A function that calls itself. -/
def loopL : List Fl := [⟨1, 1, 0, 0, 0, [], [], [], []⟩, ⟨1, 2, 0, 0, 0, [], [], [], []⟩, ⟨11, 0, 0, 0, 0, [], [], [], [0, 1]⟩, ⟨10, 0, 0, 0, 0, [], [2], [], [2]⟩, ⟨2, 0, 0, 0, 0, [], [], [], []⟩, ⟨11, 0, 0, 0, 0, [], [], [], [0, 4]⟩, ⟨9, 0, 0, 0, 0, [], [1], [], [3, 5]⟩]
/-- What the number 5 becomes. -/
def convL : List Fl := [⟨1, 2, 0, 0, 0, [], [], [], []⟩, ⟨14, 0, 0, 0, 0, [], [], [], [0]⟩, ⟨10, 0, 0, 0, 0, [], [2], [], [1]⟩, ⟨2, 0, 0, 5, 0, [], [], [], []⟩, ⟨13, 0, 0, 0, 0, [], [], [], [3]⟩, ⟨9, 0, 0, 0, 0, [], [1], [], [2, 4]⟩]
theorem check_loop : checkC prims loopL 6 = 0 := by decide
theorem check_conv : checkC prims convL 5 = 0 := by decide
end CpsM

namespace Go.Proofs.YtikkmalhdidhaaaGreatDoor
open Go.RowKit LamM CpsM Go.Maps

theorem infoFl : (Tryz.prog.info? 40).map (fun i => (i.zero, i.size, i.bytes)) = some (some (.agg #[.int .i64 0, .int .i64 0, .int .i64 0, .int .i64 0, .int .u64 0, .string ⟨#[]⟩, .slice none 0 0, .slice none 0 0, .slice none 0 0]), 9, 128) := by kernel_rfl
theorem undFls : Tryz.prog.underlying 22 = some (.slice 40) := by kernel_rfl
theorem own_rowC {w : World} {base size : Nat} {e : TypeId} {v : Value} {n : Nat} {xs : List Value} (h : w.ownsRow base e size v (n + 1) xs) : ∃ g c, v = .slice (some ⟨g, 0, none⟩) (n + 1) c ∧ base ≤ g := by
  rcases h.2 with ⟨_, h0⟩ | ⟨g, cap, cur, rfl, hb, _⟩
  · cases h0
  · exact ⟨g, cap, rfl, hb⟩
theorem one9 {t : Fl} {vv kv av : Value} (h : ∀ u ∈ [vv, kv, av], u.oneCell' = true) : ∀ u ∈ [Value.int .i64 t.k, .int .i64 t.n, .int .i64 t.m, .int .i64 t.i, .int .u64 t.b, .string ⟨t.t.toArray⟩, vv, kv, av], u.oneCell' = true := by
  intro u hu
  simp only [List.mem_cons, List.mem_nil_iff, or_false] at hu
  rcases hu with rfl | rfl | rfl | rfl | rfl | rfl | rfl | rfl | rfl <;> first | rfl | exact h _ (by simp)
def CC (lv pv ov : Value) (v s : Int) : Array Value := #[lv, pv, ov, .int .i64 v, .int .i64 s]

set_option maxRecDepth 100000 in
set_option maxHeartbeats 2000000 in
theorem fresh_any (C : Nat) (lv pv ov : Value) (v s : Int) (w : World) (hv : 0 ≤ v ∧ v ≤ 1000) (hC : Blk w C 98 (CC lv pv ov v s)) :
    Calls Tryz.prog 51 #[runV C] w fun e w' => e = .returned (.int .i64 (v + 1)) ∧ Blk w' C 98 (CC lv pv ov (v + 1) s) ∧ Only [C] w w' := by
  obtain ⟨h0, h1⟩ := hv
  have c3 : w.cell? ⟨C, 3, none⟩ = some (.int .i64 v) := hC.cell 3
  have f3 := hC.frozen 3
  have HC := Lib.hid hC
  clear hC
  go_enter Tryz.func51, Tryz.ntmps51
  go_wp2_with fail
  go_ret
  exact ⟨rfl, HC.out.set_ 3 (.int .i64 (v + 1)), (Only.refl _ _).one⟩

set_option maxRecDepth 100000 in
set_option maxHeartbeats 4000000 in
theorem put_any (C G P0 : Nat) (lv pv ov : Value) (v s : Int) (nds : List Nd9) (t : Fl) (vv kv av : Value) (w : World) (hC : Blk w C 98 (CC lv pv ov v s)) (hO : w.ownsRow P0 40 9 ov nds.length (progC nds))
    (hG : ∀ k, ov.ownBlock = some k → k = G) (hGC : G ≠ C) (hP : P0 ≤ w.heap.size) (hn : nds.length ≤ 100) (h1 : ∀ u ∈ [vv, kv, av], u.oneCell' = true) :
    Calls Tryz.prog 53 #[runV C, .agg (flVals t vv kv av).toArray] w fun e w' => e = .returned (.int .i64 (nds.length : Int)) ∧ ∃ g c, P0 ≤ g ∧ Blk w' C 98 (CC lv pv (.slice (some ⟨g, 0, none⟩) (nds.length + 1) c) v s) ∧
      w'.ownsRow P0 40 9 (.slice (some ⟨g, 0, none⟩) (nds.length + 1) c) (nds.length + 1) (progC nds ++ flVals t vv kv av) ∧ Only [C, G] w w' := by
  obtain ⟨i0, hi0, hz0, hz1, hz2⟩ := info_parts infoFl
  obtain ⟨OA, oc, rfl⟩ : ∃ a c, ov = .slice a nds.length c := by obtain ⟨a, c, e⟩ := ownsRow_slice hO; exact ⟨a, c, e⟩
  obtain ⟨W, hW⟩ : ∃ W, w.alloc (BoxF t vv kv av) = W := ⟨_, rfl⟩
  have ho : Only [] w W := by rw [← hW]; exact (Only.refl _ _).alloc _
  have HX := Lib.hid (show Blk W w.heap.size 40 #[.int .i64 t.k, .int .i64 t.n, .int .i64 t.m, .int .i64 t.i, .int .u64 t.b, .string ⟨t.t.toArray⟩, vv, kv, av] by rw [← hW]; exact Blk.new _ _ _)
  have HC := Lib.hid (hC.only ho (by simp))
  have HO := Lib.hid (ownsRow_only hO ho (by simp))
  have HG := Lib.hid hG
  have HW := Lib.hid ho
  have HN1 := Lib.hid h1
  have hwz := ho.size
  have c2 : W.cell? ⟨C, 2, none⟩ = some (.slice OA nds.length oc) := HC.out.cell 2
  have c2d : W.drew.cell? ⟨C, 2, none⟩ = some (.slice OA nds.length oc) := HC.out.cell 2
  have c2a : ∀ o, (W.alloc o).drew.cell? ⟨C, 2, none⟩ = some (.slice OA nds.length oc) := fun o => (HC.out.alloc o).drew.cell 2
  have d0 : W.drew.cell? ⟨w.heap.size, 0, none⟩ = some (.int .i64 t.k) := HX.out.drew.cell 0
  have d1 : W.drew.cell? ⟨w.heap.size, 1, none⟩ = some (.int .i64 t.n) := HX.out.drew.cell 1
  have d2 : W.drew.cell? ⟨w.heap.size, 2, none⟩ = some (.int .i64 t.m) := HX.out.drew.cell 2
  have d3 : W.drew.cell? ⟨w.heap.size, 3, none⟩ = some (.int .i64 t.i) := HX.out.drew.cell 3
  have d4 : W.drew.cell? ⟨w.heap.size, 4, none⟩ = some (.int .u64 t.b) := HX.out.drew.cell 4
  have d5 : W.drew.cell? ⟨w.heap.size, 5, none⟩ = some (.string ⟨t.t.toArray⟩) := HX.out.drew.cell 5
  have d6 : W.drew.cell? ⟨w.heap.size, 6, none⟩ = some (vv) := HX.out.drew.cell 6
  have d7 : W.drew.cell? ⟨w.heap.size, 7, none⟩ = some (kv) := HX.out.drew.cell 7
  have d8 : W.drew.cell? ⟨w.heap.size, 8, none⟩ = some (av) := HX.out.drew.cell 8
  have q1 : decide ((262144 : Int) ≤ (nds.length : Int)) = false := decide_eq_false (by omega)
  have hk9 : nds.length ≤ 100 := hn
  unfold BoxF at hW
  unfold flVals
  clear hC hO hG h1 ho
  generalize progC nds = pc at *
  generalize nds.length = nl at *
  go_enter Tryz.func53, Tryz.ntmps53
  go_upto_region 3 with fail
  clear hW
  go_region_law (first
    | (refine step_append_any _ rfl _ _ 22 rfl P0 40 i0 _ 9 128 undFls hi0 hz0 hz1 hz2 rfl (by decide) _ nl pc rfl (World.ownsRow.drew (World.ownsRow.alloc HO.out _)) _ _ _ _ [_, _, _, _, _, _, _, _, _] rfl (Reads.blk' (Blk.drew (Blk.new _ _ _)) rfl) (one9 HN1.out) (by unfold maxLen; omega) (by omega) (by show P0 ≤ (W.alloc _).heap.size; simp; omega) ?_; intro v2 w5 hown5 hgrow5 hor5; obtain ⟨g, c, hv, hgP⟩ := own_rowC hown5; subst hv; have HOR := Lib.hid hown5; have HGP := Lib.hid hgP; have HG5 := Lib.hid (((Only.refl [G] W).alloc (.cells #[.int .i64 t.k, .int .i64 t.n, .int .i64 t.m, .int .i64 t.i, .int .u64 t.b, .string ⟨t.t.toArray⟩, vv, kv, av] 40)).drew.grown hgrow5 (fun k hk => .inl (by rw [HG.out k hk]; simp))); have HC5 := Lib.hid (HC.out.only HG5.out (fun h => hGC (List.mem_singleton.1 h).symm)); have c5 : w5.cell? ⟨C, 2, none⟩ = some (.slice OA nl oc) := HC5.out.cell 2; have f5 := HC5.out.frozen 2; clear hown5 hgrow5 hor5 hgP)
    | fail)
  all_goals
    obtain ⟨W6, hW6⟩ : ∃ W6, w5.setCell ⟨C, 2, none⟩ (.slice (some ⟨g, 0, none⟩) (nl + 1) c) = W6 := ⟨_, rfl⟩
    have hC6 : Blk W6 C 98 (CC lv pv (.slice (some ⟨g, 0, none⟩) (nl + 1) c) v s) := by rw [← hW6]; exact HC5.out.set_ 2 (.slice (some ⟨g, 0, none⟩) (nl + 1) c)
    have ho6 : Only [C] w5 W6 := by rw [← hW6]; exact (Only.refl [C] w5).one
    have hgc : g ≠ C := fun e => own_blk_ne HOR.out HC5.out (by decide) (by rw [e]; rfl)
    have HO6 := Lib.hid (ownsRow_only HOR.out ho6 (fun k hk h => by have e : g = k := Option.some.inj hk; have := List.mem_singleton.1 h; omega))
    have HC6 := Lib.hid hC6
    have HOA := Lib.hid (show Only [C, G] w W6 from (HW.out.mono (by simp)).trans ((HG5.out.mono (by simp)).trans (ho6.mono (by simp))))
    have c6 : W6.cell? ⟨C, 2, none⟩ = some (.slice (some ⟨g, 0, none⟩) (nl + 1) c) := HC6.out.cell 2
    rw [hW6]
    clear hW6 hC6 ho6 c5 f5
    go_wp2_with fail
    go_ret
    exact ⟨rfl, g, c, HGP.out, HC6.out, HO6.out, HOA.out⟩
end Go.Proofs.YtikkmalhdidhaaaGreatDoor

namespace Go.Proofs.YtikkmalhdidhaaaGreatDoor
open Go.RowKit LamM CpsM Go.Maps

theorem blk_atC {w : World} {n : Nat} (h : w.heap.size = n) (t : TypeId) (cs : Array Value) : Blk (w.alloc (.cells cs t)) n t cs := by subst h; exact Blk.new w t cs
abbrev sl1 (g n : Nat) : Value := .slice (some ⟨g, 0, none⟩) n n
/-- The seven nodes with their slices. -/
def loopN (r : Nat) : List Nd9 := [(⟨1, 1, 0, 0, 0, [], [], [], []⟩, .slice none 0 0, .slice none 0 0, .slice none 0 0), (⟨1, 2, 0, 0, 0, [], [], [], []⟩, .slice none 0 0, .slice none 0 0, .slice none 0 0), (⟨11, 0, 0, 0, 0, [], [], [], [0, 1]⟩, .slice none 0 0, .slice none 0 0, sl1 (r + 1) 2), (⟨10, 0, 0, 0, 0, [], [2], [], [2]⟩, sl1 (r + 1 + 1) 1, .slice none 0 0, sl1 (r + 1 + 1 + 1) 1),
  (⟨2, 0, 0, 0, 0, [], [], [], []⟩, .slice none 0 0, .slice none 0 0, .slice none 0 0), (⟨11, 0, 0, 0, 0, [], [], [], [0, 4]⟩, .slice none 0 0, .slice none 0 0, sl1 (r + 1 + 1 + 1 + 1) 2), (⟨9, 0, 0, 0, 0, [], [1], [], [3, 5]⟩, sl1 (r + 1 + 1 + 1 + 1 + 1) 1, .slice none 0 0, sl1 (r + 1 + 1 + 1 + 1 + 1 + 1) 2)]
theorem loopN_L (r : Nat) : (loopN r).map (·.1) = loopL := rfl
set_option maxRecDepth 100000 in
theorem loop_fin {r : Nat} {w W : World} {a : Act} (_hr : r = w.heap.size) (h0 : Blk W r 24 #[.slice (some ⟨r + 1 + 1 + 1 + 1 + 1 + 1 + 1, 0, none⟩) 7 7, .int .i64 6]) (h1 : Blk W (r + 1) 3 #[.int .i64 0, .int .i64 1]) (h2 : Blk W (r + 1 + 1) 3 #[.int .i64 2]) (h3 : Blk W (r + 1 + 1 + 1) 3 #[.int .i64 2])
    (h4 : Blk W (r + 1 + 1 + 1 + 1) 3 #[.int .i64 0, .int .i64 4]) (h5 : Blk W (r + 1 + 1 + 1 + 1 + 1) 3 #[.int .i64 1]) (h6 : Blk W (r + 1 + 1 + 1 + 1 + 1 + 1) 3 #[.int .i64 3, .int .i64 5]) (h7 : Blk W (r + 1 + 1 + 1 + 1 + 1 + 1 + 1) 40 (progC (loopN r)).toArray)
    (hb : Below w.heap.size w W) (ht : a.tmps.getD 0 undef = .pointer (some ⟨r, 0, none⟩)) (hd : a.defers = []) :
    bodyPost Tryz.prog Tryz.f29 (fun e w' => ∃ g, e = .returned (.agg #[.slice (some ⟨g, 0, none⟩) 7 7, .int .i64 6]) ∧ NF w' w'.heap.size (.slice (some ⟨g, 0, none⟩) 7 7) loopL ∧ Below w.heap.size w w') .ret a W := by
  have q0 : W.cell? ⟨r, 0, none⟩ = some (.slice (some ⟨r + 1 + 1 + 1 + 1 + 1 + 1 + 1, 0, none⟩) 7 7) := h0.cell 0
  have q1 : W.cell? ⟨r, 1, none⟩ = some (.int .i64 6) := h0.cell 1
  refine bodyPost_ret (v := .agg #[.slice (some ⟨r + 1 + 1 + 1 + 1 + 1 + 1 + 1, 0, none⟩) 7 7, .int .i64 6]) ?_ hd ⟨_, rfl, ?_, hb⟩
  · have ht2 : a.tmps[0]?.getD undef = .pointer (some ⟨r, 0, none⟩) := by simpa using ht
    simp [results, Tryz.results29, go_sem, ht2, q0, q1]
  · have hn := NF_of (w := W) (g := r + 1 + 1 + 1 + 1 + 1 + 1 + 1) (c := 7) (l := loopN r) (fun k u hk => by rw [h7.cell k]; simpa using hk) h7.lt (show 7 ≤ 7 from Nat.le_refl _) (show 7 ≤ 1300000000000 by decide) (fun x hx => by
      simp only [loopN, List.mem_cons, List.mem_nil_iff, or_false] at hx
      rcases hx with rfl | rfl | rfl | rfl | rfl | rfl | rfl
      · exact small_FV rfl (nil_IV _ _) (nil_IV _ _)
      · exact small_FV rfl (nil_IV _ _) (nil_IV _ _)
      · exact small_FV rfl (nil_IV _ _) (blk_iv (l := [0, 1]) h1 (by decide))
      · exact small_FV rfl (blk_iv (l := [2]) h2 (by decide)) (blk_iv (l := [2]) h3 (by decide))
      · exact small_FV rfl (nil_IV _ _) (nil_IV _ _)
      · exact small_FV rfl (nil_IV _ _) (blk_iv (l := [0, 4]) h4 (by decide))
      · exact small_FV rfl (blk_iv (l := [1]) h5 (by decide)) (blk_iv (l := [3, 5]) h6 (by decide)))
    exact hn
set_option maxRecDepth 100000 in
set_option maxHeartbeats 4000000 in
theorem loop_any (w : World) : Calls Tryz.prog 29 #[] w fun e w' => ∃ g, e = .returned (.agg #[.slice (some ⟨g, 0, none⟩) 7 7, .int .i64 6]) ∧ NF w' w'.heap.size (.slice (some ⟨g, 0, none⟩) 7 7) loopL ∧ Below w.heap.size w w' := by
  go_enter Tryz.func29, Tryz.ntmps29
  go_wp2_with fail
  refine loop_fin rfl ((((((((blk_atC rfl _ _).alloc _).alloc _).alloc _).alloc _).alloc _).alloc _).alloc _) (((((((blk_atC (by simp) _ _).alloc _).alloc _).alloc _).alloc _).alloc _).alloc _) ((((((blk_atC (by simp) _ _).alloc _).alloc _).alloc _).alloc _).alloc _) (((((blk_atC (by simp) _ _).alloc _).alloc _).alloc _).alloc _) ((((blk_atC (by simp) _ _).alloc _).alloc _).alloc _) (((blk_atC (by simp) _ _).alloc _).alloc _) ((blk_atC (by simp) _ _).alloc _) (blk_atC (by simp) _ _) ?_ rfl rfl
  exact (((((((Below.refl w.heap.size w).alloc (Nat.le_refl _) _).alloc (by simp) _).alloc (by simp; omega) _).alloc (by simp; omega) _).alloc (by simp; omega) _).alloc (by simp; omega) _ |>.alloc (by simp; omega) _).alloc (by simp; omega) _
end Go.Proofs.YtikkmalhdidhaaaGreatDoor

namespace Go.Proofs.YtikkmalhdidhaaaGreatDoor
open Go.RowKit LamM CpsM Go.Maps

/-- What the converter's steps keep: all blocks but its own cells and the row of nodes. -/
structure Kp (C P0 : Nat) (w w' : World) : Prop where
  bel : ∀ B, B ≤ C → B ≤ P0 → B ≤ w.heap.size → Below B w w'
  siz : w.heap.size ≤ w'.heap.size
  blk : ∀ g tt cs, Blk w g tt cs → tt ≠ 40 → tt ≠ 98 → Blk w' g tt cs
section
variable {C P0 : Nat} {w w1 w' : World}
theorem Kp.refl (C P0 : Nat) (w : World) : Kp C P0 w w := ⟨fun _ _ _ _ => Below.refl _ _, Nat.le_refl _, fun _ _ _ h _ _ => h⟩
theorem Kp.trans (h : Kp C P0 w w1) (k : Kp C P0 w1 w') : Kp C P0 w w' :=
  ⟨fun B h1 h2 h3 => (h.bel B h1 h2 h3).trans (k.bel B h1 h2 (Nat.le_trans h3 h.siz)), Nat.le_trans h.siz k.siz, fun g tt cs hb h1 h2 => k.blk g tt cs (h.blk g tt cs hb h1 h2) h1 h2⟩
theorem Kp.only {bs : List Nat} (ho : Only bs w w') (hb : ∀ k ∈ bs, (k = C ∨ P0 ≤ k) ∧ ∀ tt cs, Blk w k tt cs → tt = 40 ∨ tt = 98) : Kp C P0 w w' :=
  ⟨fun B h1 h2 h3 => below_only (Below.refl B w) ho (fun k hk => by rcases (hb k hk).1 with h | h <;> omega) h3, ho.size, fun g tt cs h h1 h2 => h.only ho (fun hm => by rcases (hb g hm).2 tt cs h with h3 | h3; exact h1 h3; exact h2 h3)⟩
theorem Kp.none (ho : Only [] w w') : Kp C P0 w w' := Kp.only ho (fun k hk => by cases hk)
theorem Kp.alloc (h : Kp C P0 w w') (o : Obj) : Kp C P0 w (w'.alloc o) := h.trans (Kp.none ((Only.refl [] w').alloc o))
theorem Kp.drew (h : Kp C P0 w w') : Kp C P0 w w'.drew := h.trans (Kp.none (Only.refl [] w').drew)
end
/-- The converter: what it has counted, the nodes that it has put. -/
structure CvS (C P0 : Nat) (lv pv : Value) (v s : Int) (nds : List Nd9) (w : World) : Prop where
  ex : ∃ ov, Blk w C 98 (CC lv pv ov v s) ∧ w.ownsRow P0 40 9 ov nds.length (progC nds)
  p0 : P0 ≤ w.heap.size
section
variable {C P0 : Nat} {lv pv : Value} {v s : Int} {nds : List Nd9} {w w' : World}
theorem CvS.only (h : CvS C P0 lv pv v s nds w) (ho : Only [] w w') : CvS C P0 lv pv v s nds w' := by
  obtain ⟨⟨ov, h1, h2⟩, h3⟩ := h
  exact ⟨⟨ov, h1.only ho (by simp), ownsRow_only h2 ho (by simp)⟩, Nat.le_trans h3 ho.size⟩
theorem CvS.alloc (h : CvS C P0 lv pv v s nds w) (o : Obj) : CvS C P0 lv pv v s nds (w.alloc o) := h.only ((Only.refl [] w).alloc o)
theorem CvS.drew (h : CvS C P0 lv pv v s nds w) : CvS C P0 lv pv v s nds w.drew := h.only (Only.refl [] w).drew
theorem CvS.lt (h : CvS C P0 lv pv v s nds w) : C < w.heap.size := by obtain ⟨⟨_, h1, _⟩, _⟩ := h; exact h1.lt

theorem put_st {w0 : World} (h0 : CvS C P0 lv pv v s nds w0) (ho0 : Only [] w0 w) (hn : nds.length ≤ 100) (t : Fl) (vv kv av : Value) (h1 : ∀ u ∈ [vv, kv, av], u.oneCell' = true) :
    Calls Tryz.prog 53 #[runV C, .agg (flVals t vv kv av).toArray] w fun e w' => e = .returned (.int .i64 (nds.length : Int)) ∧ CvS C P0 lv pv v s (nds ++ [(t, vv, kv, av)]) w' ∧ Kp C P0 w w' ∧ ∀ g tt cs, w0.heap.size ≤ g → Blk w g tt cs → Blk w' g tt cs := by
  have hCl := h0.lt
  obtain ⟨⟨ov, hC0, hO0⟩, hP0⟩ := h0
  have hP : P0 ≤ w.heap.size := Nat.le_trans hP0 ho0.size
  have hC := hC0.only ho0 (by simp)
  have hO := ownsRow_only hO0 ho0 (by simp)
  obtain ⟨G, hG, hGC, hGk, hPG, hGn⟩ : ∃ G, (∀ k, ov.ownBlock = some k → k = G) ∧ G ≠ C ∧ (∀ tt cs, Blk w G tt cs → tt = 40) ∧ P0 ≤ G ∧ (w.heap.size ≤ G ∨ G < w0.heap.size) := by
    rcases hb : ov.ownBlock with _ | k
    · exact ⟨w.heap.size, fun k h => by simp at h, by have := hC.lt; omega, fun tt cs h => absurd h.lt (by omega), hP, .inl (Nat.le_refl _)⟩
    · refine ⟨k, fun k' h => (Option.some.inj h).symm, fun e => own_blk_ne hO hC (by decide) (by rw [hb, e]), fun tt cs h => Classical.byContradiction fun hne => own_blk_ne hO h (fun e => hne e.symm) hb, ?_, .inr (World.ownsRow.lt hO0 k hb).2⟩
      rcases hO.2 with ⟨hv, _⟩ | ⟨g, cap, cur, hv, hb', _⟩
      · rw [hv] at hb; cases hb
      · rw [hv] at hb
        have : g = k := Option.some.inj hb
        omega
  refine (put_any C G P0 lv pv ov v s nds t vv kv av w hC hO hG hGC hP hn h1).mono ?_
  rintro e w' ⟨he, g, c, hg, hC', hO', ho⟩
  have e1 : progC (nds ++ [(t, vv, kv, av)]) = progC nds ++ flVals t vv kv av := by
    rw [progC_app]
    show progC nds ++ (flVals t vv kv av ++ []) = _
    rw [List.append_nil]
  have e2 : (nds ++ [(t, vv, kv, av)]).length = nds.length + 1 := by simp
  refine ⟨he, ⟨⟨_, hC', by rw [e1, e2]; exact hO'⟩, Nat.le_trans hP ho.size⟩, Kp.only ho (fun k hk => ?_), fun g tt cs hg hb => hb.only ho (by have := hb.lt; simp only [List.mem_cons, List.not_mem_nil, or_false]; omega)⟩
  simp only [List.mem_cons, List.not_mem_nil, or_false] at hk
  rcases hk with rfl | rfl
  · refine ⟨.inl rfl, fun tt cs h => .inr (Classical.byContradiction fun hne => h.ne_ hC hne rfl)⟩
  · exact ⟨.inr hPG, fun tt cs h => .inl (hGk tt cs h)⟩
theorem fresh_st (h : CvS C P0 lv pv v s nds w) (hv : 0 ≤ v ∧ v ≤ 1000) :
    Calls Tryz.prog 51 #[runV C] w fun e w' => e = .returned (.int .i64 (v + 1)) ∧ CvS C P0 lv pv (v + 1) s nds w' ∧ Kp C P0 w w' := by
  obtain ⟨⟨ov, hC, hO⟩, hP⟩ := h
  refine (fresh_any C lv pv ov v s w hv hC).mono ?_
  rintro e w' ⟨he, hC', ho⟩
  refine ⟨he, ⟨⟨ov, hC', ownsRow_only hO ho (fun k hk hm => own_blk_ne hO hC (by decide) (by rw [hk, List.mem_singleton.1 hm]))⟩, Nat.le_trans hP ho.size⟩, Kp.only ho (fun k hk => ?_)⟩
  obtain rfl := List.mem_singleton.1 hk
  exact ⟨.inl rfl, fun tt cs h => .inr (Classical.byContradiction fun hne => h.ne_ hC hne rfl)⟩
end
abbrev nilV : Value := .slice none 0 0
theorem one_nil : ∀ u ∈ [nilV, nilV, nilV], u.oneCell' = true := by decide
theorem one_av (g n : Nat) : ∀ u ∈ [nilV, nilV, sl1 g n], u.oneCell' = true := by intro u hu; simp only [List.mem_cons, List.not_mem_nil, or_false] at hu; rcases hu with rfl | rfl | rfl <;> rfl
theorem one_vav (vv : Value) (g n : Nat) (h : vv.oneCell' = true) : ∀ u ∈ [vv, nilV, sl1 g n], u.oneCell' = true := by intro u hu; simp only [List.mem_cons, List.not_mem_nil, or_false] at hu; rcases hu with rfl | rfl | rfl <;> first | exact h | rfl
/-- A variable as a node. -/
def varF (x : Int) : Fl := ⟨1, x, 0, 0, 0, [], [], [], []⟩
theorem var_any (x : Int) (w : World) : Calls Tryz.prog 85 #[.int .i64 x] w fun e w' => e = .returned (.agg #[.int .i64 1, .int .i64 x, .int .i64 0, .int .i64 0, .int .u64 0, .string ⟨#[]⟩, .slice none 0 0, .slice none 0 0, .slice none 0 0]) ∧ Only [] w w' := by
  go_enter Tryz.func85, Tryz.ntmps85
  go_wp2_with fail
  refine bodyPost_ret (v := .agg #[.int .i64 1, .int .i64 x, .int .i64 0, .int .i64 0, .int .u64 0, .string ⟨#[]⟩, .slice none 0 0, .slice none 0 0, .slice none 0 0]) ?_ rfl ⟨rfl, ?_⟩
  · simp [results, Tryz.results85, go_sem]
  · repeat (first | exact (Only.refl [] w).alloc _ | refine Only.setCell ?_ (.inr (by simp)) _)
section
variable {C P0 : Nat} {lv pv : Value} {v s : Int} {nds : List Nd9} {w w' : World}
set_option maxRecDepth 100000 in
set_option maxHeartbeats 4000000 in
theorem name_st (h : CvS C P0 lv pv v s nds w) (hn : nds.length ≤ 100) (x : Int) :
    Calls Tryz.prog 54 #[runV C, .int .i64 x] w fun e w' => e = .returned (.int .i64 (nds.length : Int)) ∧ CvS C P0 lv pv v s (nds ++ [(varF x, nilV, nilV, nilV)]) w' ∧ Kp C P0 w w' := by
  have HP := Lib.hid (fun W (ho : Only [] w W) => (show Calls Tryz.prog 53 #[runV C, .agg #[.int .i64 1, .int .i64 x, .int .i64 0, .int .i64 0, .int .u64 0, .string ⟨#[]⟩, .slice none 0 0, .slice none 0 0, .slice none 0 0]] W fun e w' => e = .returned (.int .i64 (nds.length : Int)) ∧ CvS C P0 lv pv v s (nds ++ [(varF x, nilV, nilV, nilV)]) w' ∧ Kp C P0 W w' from (put_st h ho hn (varF x) nilV nilV nilV one_nil).mono (fun _ _ h => ⟨h.1, h.2.1, h.2.2.1⟩)))
  clear h hn
  go_enter Tryz.func54, Tryz.ntmps54
  go_wp2_with (first
    | (go_at_call 85; ((with_reducible refine (var_any x _).mono ?_); rintro e w1 ⟨rfl, ho1⟩; have HO1 := Lib.hid ho1; clear ho1))
    | (go_at_call 53; ((with_reducible refine (HP.out _ HO1.out).mono ?_); rintro e w2 ⟨rfl, hs2, hk2⟩; have HQ := Lib.hid (show _ ∧ _ from ⟨hs2, (Kp.none HO1.out).trans hk2⟩); clear hs2 hk2)))
  go_ret
  exact ⟨rfl, HQ.out⟩
/-- A function of variables. -/
def fnF (vars : List Int) (b : Int) : Fl := ⟨10, 0, 0, 0, 0, [], vars, [], [b]⟩
set_option maxRecDepth 100000 in
set_option maxHeartbeats 4000000 in
theorem cfn_st (h : CvS C P0 lv pv v s nds w) (hn : nds.length ≤ 100) (vars : List Int) (g n c : Nat) (b : Int) :
    Calls Tryz.prog 52 #[runV C, .slice (some ⟨g, 0, none⟩) n c, .int .i64 b] w fun e w' => e = .returned (.int .i64 (nds.length : Int)) ∧ ∃ a, CvS C P0 lv pv v s (nds ++ [(fnF vars b, .slice (some ⟨g, 0, none⟩) n c, nilV, sl1 a 1)]) w' ∧ Blk w' a 3 #[.int .i64 b] ∧ Kp C P0 w w' := by
  obtain ⟨W, hW⟩ : ∃ W, w.alloc (.cells #[.int .i64 b] 3) = W := ⟨_, rfl⟩
  have HO := Lib.hid (show Only [] w W by rw [← hW]; exact (Only.refl _ _).alloc _)
  have HB := Lib.hid (show Blk W w.heap.size 3 #[.int .i64 b] by rw [← hW]; exact Blk.new _ _ _)
  have HP := Lib.hid (show Calls Tryz.prog 53 #[runV C, .agg #[.int .i64 10, .int .i64 0, .int .i64 0, .int .i64 0, .int .u64 0, .string ⟨#[]⟩, .slice (some ⟨g, 0, none⟩) n c, .slice none 0 0, .slice (some ⟨w.heap.size, 0, none⟩) 1 1]] W fun e w' => e = .returned (.int .i64 (nds.length : Int)) ∧ CvS C P0 lv pv v s (nds ++ [(fnF vars b, .slice (some ⟨g, 0, none⟩) n c, nilV, sl1 w.heap.size 1)]) w' ∧ Kp C P0 W w' from (put_st h HO.out hn (fnF vars b) _ nilV (sl1 w.heap.size 1) (one_vav _ _ _ rfl)).mono (fun _ _ h => ⟨h.1, h.2.1, h.2.2.1⟩))
  clear h hn
  go_enter Tryz.func52, Tryz.ntmps52
  go_wp2_with (go_at_call 53; ((with_reducible refine (HP.out).mono ?_); rintro e w2 ⟨rfl, hs2, hk2⟩; have HQ := Lib.hid (show _ ∧ _ ∧ _ from ⟨hs2, hk2.blk _ _ _ HB.out (by decide) (by decide), (Kp.none HO.out).trans hk2⟩); clear hs2 hk2))
  go_ret
  exact ⟨rfl, w.heap.size, HQ.out⟩
end
end Go.Proofs.YtikkmalhdidhaaaGreatDoor

namespace Go.Proofs.YtikkmalhdidhaaaGreatDoor
open Go.RowKit LamM Go.Maps

theorem anyS_step {P : Program} {md : Region.Mode} {ops : Array Oper} {Q : Exit → Act → List Frame → World → Prop} {fuel : Nat} {listed : Array Bool} {a : Act} {cs : List Frame} {w : World} {rs : List Nat} (hr : Region.ready md ops listed = rs) (hne : rs ≠ [])
    (h : ∀ i ∈ rs, opS P ops Q i (anyS P md ops Q fuel (listed.setIfInBounds i true)) a cs w) : anyS P md ops Q (fuel + 1) listed a cs w :=
  ⟨fun h0 => absurd (hr.symm.trans h0) hne, by rw [hr]; exact h⟩

set_option maxRecDepth 100000 in
set_option maxHeartbeats 8000000 in
theorem crun1_ret (rb R M ob on oc : Nat) (oa : Option Addr) (dv : Value) (steps fuel : Int) (st ex oo sp : Value) (w : World) (hrb : w.cell? ⟨rb, 0, none⟩ = some (.pointer (some ⟨R, 0, none⟩))) (hR0 : w.cell? ⟨R, 0, none⟩ = some (.pointer (some ⟨M, 0, none⟩)))
    (hM : Blk w M 117 (MC (.slice oa on oc) steps fuel dv)) (hO : Blk w ob 61 #[oo, st, ex, sp]) (hMO : M ≠ ob) :
    CallsD Tryz.prog 45 #[.pointer (some ⟨rb, 0, none⟩), .pointer (some ⟨ob, 0, none⟩)] .returning w fun e u' w' => e = .returned (.tuple #[]) ∧ u' = .returning ∧ Blk w' ob 61 #[.slice oa on oc, st, ex, .int .i64 steps] ∧ Only [ob] w w' := by
  have HE := Lib.hid (ended_nil M ob on oc oa dv steps fuel oo st ex sp w.drew hM.drew hO.drew hMO)
  clear hM hO hMO
  refine callsD_of_wpS Tryz.func45 rfl fun c₀ cs hu => ?_
  apply wpS_region_any (by kernel_rfl)
  generalize hQ : (bodyPostS Tryz.prog Tryz.f45 c₀ cs fun e u' w' => e = .returned (.tuple #[]) ∧ u' = .returning ∧ Blk w' ob 61 #[.slice oa on oc, st, ex, .int .i64 steps] ∧ Only [ob] w w') = Q
  change anyS _ _ _ _ 6 (Array.replicate 6 false) { tmps := #[.pointer (some ⟨rb, 0, none⟩), .pointer (some ⟨ob, 0, none⟩), undef, undef, undef, undef, undef, undef], defers := [] } _ _
  refine anyS_step (rs := [0, 4]) (by kernel_rfl) (by simp) ?_
  intro i hi
  rcases List.mem_cons.1 hi with rfl | hi
  · simp [opS, go_sem, hrb]
    refine anyS_step (rs := [1, 4]) (by kernel_rfl) (by simp) ?_
    intro i hi
    rcases List.mem_cons.1 hi with rfl | hi
    · simp [opS, go_sem]
      refine anyS_step (rs := [2, 4]) (by kernel_rfl) (by simp) ?_
      intro i hi
      rcases List.mem_cons.1 hi with rfl | hi
      · simp [opS, go_sem]
        refine anyS_step (rs := [3, 4]) (by kernel_rfl) (by simp) ?_
        intro i hi
        rcases List.mem_cons.1 hi with rfl | hi
        · simp [opS, go_sem, hR0]
          refine anyS_step (rs := [4]) (by kernel_rfl) (by simp) ?_
          intro i hi
          obtain rfl := List.mem_singleton.1 hi
          simp [opS, go_sem, recoverD, hu]
          refine anyS_step (rs := [5]) (by kernel_rfl) (by simp) ?_
          intro i hi
          obtain rfl := List.mem_singleton.1 hi
          simp [opS, go_sem]
          refine (HE.out).mono ?_
          rintro e w' ⟨rfl, h1, h2⟩
          show anyS _ _ _ _ 0 _ _ _ _
          refine ⟨by kernel_rfl, ?_⟩
          rw [← hQ]
          exact ⟨rfl, _, (by cases c₀; simp_all), _, results_none rfl _ _ _, rfl, rfl, h1, ((Only.refl [ob] w).drew).trans h2⟩
        · obtain rfl := List.mem_singleton.1 hi
          simp [opS, go_sem, recoverD, hu]
          refine anyS_step (rs := [3]) (by kernel_rfl) (by simp) ?_
          intro i hi
          obtain rfl := List.mem_singleton.1 hi
          simp [opS, go_sem, hR0]
          refine anyS_step (rs := [5]) (by kernel_rfl) (by simp) ?_
          intro i hi
          obtain rfl := List.mem_singleton.1 hi
          simp [opS, go_sem]
          refine (HE.out).mono ?_
          rintro e w' ⟨rfl, h1, h2⟩
          show anyS _ _ _ _ 0 _ _ _ _
          refine ⟨by kernel_rfl, ?_⟩
          rw [← hQ]
          exact ⟨rfl, _, (by cases c₀; simp_all), _, results_none rfl _ _ _, rfl, rfl, h1, ((Only.refl [ob] w).drew).trans h2⟩
      · obtain rfl := List.mem_singleton.1 hi
        simp [opS, go_sem, recoverD, hu]
        refine anyS_step (rs := [2]) (by kernel_rfl) (by simp) ?_
        intro i hi
        obtain rfl := List.mem_singleton.1 hi
        simp [opS, go_sem]
        refine anyS_step (rs := [3]) (by kernel_rfl) (by simp) ?_
        intro i hi
        obtain rfl := List.mem_singleton.1 hi
        simp [opS, go_sem, hR0]
        refine anyS_step (rs := [5]) (by kernel_rfl) (by simp) ?_
        intro i hi
        obtain rfl := List.mem_singleton.1 hi
        simp [opS, go_sem]
        refine (HE.out).mono ?_
        rintro e w' ⟨rfl, h1, h2⟩
        show anyS _ _ _ _ 0 _ _ _ _
        refine ⟨by kernel_rfl, ?_⟩
        rw [← hQ]
        exact ⟨rfl, _, (by cases c₀; simp_all), _, results_none rfl _ _ _, rfl, rfl, h1, ((Only.refl [ob] w).drew).trans h2⟩
    · obtain rfl := List.mem_singleton.1 hi
      simp [opS, go_sem, recoverD, hu]
      refine anyS_step (rs := [1]) (by kernel_rfl) (by simp) ?_
      intro i hi
      obtain rfl := List.mem_singleton.1 hi
      simp [opS, go_sem]
      refine anyS_step (rs := [2]) (by kernel_rfl) (by simp) ?_
      intro i hi
      obtain rfl := List.mem_singleton.1 hi
      simp [opS, go_sem]
      refine anyS_step (rs := [3]) (by kernel_rfl) (by simp) ?_
      intro i hi
      obtain rfl := List.mem_singleton.1 hi
      simp [opS, go_sem, hR0]
      refine anyS_step (rs := [5]) (by kernel_rfl) (by simp) ?_
      intro i hi
      obtain rfl := List.mem_singleton.1 hi
      simp [opS, go_sem]
      refine (HE.out).mono ?_
      rintro e w' ⟨rfl, h1, h2⟩
      show anyS _ _ _ _ 0 _ _ _ _
      refine ⟨by kernel_rfl, ?_⟩
      rw [← hQ]
      exact ⟨rfl, _, (by cases c₀; simp_all), _, results_none rfl _ _ _, rfl, rfl, h1, ((Only.refl [ob] w).drew).trans h2⟩
  · obtain rfl := List.mem_singleton.1 hi
    simp [opS, go_sem, recoverD, hu]
    refine anyS_step (rs := [0]) (by kernel_rfl) (by simp) ?_
    intro i hi
    obtain rfl := List.mem_singleton.1 hi
    simp [opS, go_sem, hrb]
    refine anyS_step (rs := [1]) (by kernel_rfl) (by simp) ?_
    intro i hi
    obtain rfl := List.mem_singleton.1 hi
    simp [opS, go_sem]
    refine anyS_step (rs := [2]) (by kernel_rfl) (by simp) ?_
    intro i hi
    obtain rfl := List.mem_singleton.1 hi
    simp [opS, go_sem]
    refine anyS_step (rs := [3]) (by kernel_rfl) (by simp) ?_
    intro i hi
    obtain rfl := List.mem_singleton.1 hi
    simp [opS, go_sem, hR0]
    refine anyS_step (rs := [5]) (by kernel_rfl) (by simp) ?_
    intro i hi
    obtain rfl := List.mem_singleton.1 hi
    simp [opS, go_sem]
    refine (HE.out).mono ?_
    rintro e w' ⟨rfl, h1, h2⟩
    show anyS _ _ _ _ 0 _ _ _ _
    refine ⟨by kernel_rfl, ?_⟩
    rw [← hQ]
    exact ⟨rfl, _, (by cases c₀; simp_all), _, results_none rfl _ _ _, rfl, rfl, h1, ((Only.refl [ob] w).drew).trans h2⟩

set_option maxRecDepth 100000 in
set_option maxHeartbeats 8000000 in
theorem crun1_pan (rb R M ob on oc : Nat) (oa : Option Addr) (dv : Value) (steps fuel : Int) (st ex oo sp : Value) (w : World) (hrb : w.cell? ⟨rb, 0, none⟩ = some (.pointer (some ⟨R, 0, none⟩))) (hR0 : w.cell? ⟨R, 0, none⟩ = some (.pointer (some ⟨M, 0, none⟩)))
    (hM : Blk w M 117 (MC (.slice oa on oc) steps fuel dv)) (hO : Blk w ob 61 #[oo, st, ex, sp]) (hMO : M ≠ ob) :
    CallsD Tryz.prog 45 #[.pointer (some ⟨rb, 0, none⟩), .pointer (some ⟨ob, 0, none⟩)] (.panicking [{ v := overV, recovered := false }]) w fun e u' w' => e = .returned (.tuple #[]) ∧ u' = .panicking [{ v := overV, recovered := true }] ∧ Blk w' ob 61 #[.slice oa on oc, .int .i64 3, .string ⟨#[]⟩, .int .i64 steps] ∧ Only [ob] w w' := by
  have HE := Lib.hid (ended_over M ob on oc oa dv steps fuel oo st ex sp w.drew hM.drew hO.drew hMO)
  clear hM hO hMO
  refine callsD_of_wpS Tryz.func45 rfl fun c₀ cs hu => ?_
  apply wpS_region_any (by kernel_rfl)
  generalize hQ : (bodyPostS Tryz.prog Tryz.f45 c₀ cs fun e u' w' => e = .returned (.tuple #[]) ∧ u' = .panicking [{ v := overV, recovered := true }] ∧ Blk w' ob 61 #[.slice oa on oc, .int .i64 3, .string ⟨#[]⟩, .int .i64 steps] ∧ Only [ob] w w') = Q
  change anyS _ _ _ _ 6 (Array.replicate 6 false) { tmps := #[.pointer (some ⟨rb, 0, none⟩), .pointer (some ⟨ob, 0, none⟩), undef, undef, undef, undef, undef, undef], defers := [] } _ _
  refine anyS_step (rs := [0, 4]) (by kernel_rfl) (by simp) ?_
  intro i hi
  rcases List.mem_cons.1 hi with rfl | hi
  · simp [opS, go_sem, hrb]
    refine anyS_step (rs := [1, 4]) (by kernel_rfl) (by simp) ?_
    intro i hi
    rcases List.mem_cons.1 hi with rfl | hi
    · simp [opS, go_sem]
      refine anyS_step (rs := [2, 4]) (by kernel_rfl) (by simp) ?_
      intro i hi
      rcases List.mem_cons.1 hi with rfl | hi
      · simp [opS, go_sem]
        refine anyS_step (rs := [3, 4]) (by kernel_rfl) (by simp) ?_
        intro i hi
        rcases List.mem_cons.1 hi with rfl | hi
        · simp [opS, go_sem, hR0]
          refine anyS_step (rs := [4]) (by kernel_rfl) (by simp) ?_
          intro i hi
          obtain rfl := List.mem_singleton.1 hi
          simp [opS, go_sem, recoverD, hu]
          refine anyS_step (rs := [5]) (by kernel_rfl) (by simp) ?_
          intro i hi
          obtain rfl := List.mem_singleton.1 hi
          simp [opS, go_sem]
          refine (HE.out).mono ?_
          rintro e w' ⟨rfl, h1, h2⟩
          show anyS _ _ _ _ 0 _ _ _ _
          refine ⟨by kernel_rfl, ?_⟩
          rw [← hQ]
          exact ⟨rfl, _, rfl, _, results_none rfl _ _ _, rfl, rfl, h1, ((Only.refl [ob] w).drew).trans h2⟩
        · obtain rfl := List.mem_singleton.1 hi
          simp [opS, go_sem, recoverD, hu]
          refine anyS_step (rs := [3]) (by kernel_rfl) (by simp) ?_
          intro i hi
          obtain rfl := List.mem_singleton.1 hi
          simp [opS, go_sem, hR0]
          refine anyS_step (rs := [5]) (by kernel_rfl) (by simp) ?_
          intro i hi
          obtain rfl := List.mem_singleton.1 hi
          simp [opS, go_sem]
          refine (HE.out).mono ?_
          rintro e w' ⟨rfl, h1, h2⟩
          show anyS _ _ _ _ 0 _ _ _ _
          refine ⟨by kernel_rfl, ?_⟩
          rw [← hQ]
          exact ⟨rfl, _, rfl, _, results_none rfl _ _ _, rfl, rfl, h1, ((Only.refl [ob] w).drew).trans h2⟩
      · obtain rfl := List.mem_singleton.1 hi
        simp [opS, go_sem, recoverD, hu]
        refine anyS_step (rs := [2]) (by kernel_rfl) (by simp) ?_
        intro i hi
        obtain rfl := List.mem_singleton.1 hi
        simp [opS, go_sem]
        refine anyS_step (rs := [3]) (by kernel_rfl) (by simp) ?_
        intro i hi
        obtain rfl := List.mem_singleton.1 hi
        simp [opS, go_sem, hR0]
        refine anyS_step (rs := [5]) (by kernel_rfl) (by simp) ?_
        intro i hi
        obtain rfl := List.mem_singleton.1 hi
        simp [opS, go_sem]
        refine (HE.out).mono ?_
        rintro e w' ⟨rfl, h1, h2⟩
        show anyS _ _ _ _ 0 _ _ _ _
        refine ⟨by kernel_rfl, ?_⟩
        rw [← hQ]
        exact ⟨rfl, _, rfl, _, results_none rfl _ _ _, rfl, rfl, h1, ((Only.refl [ob] w).drew).trans h2⟩
    · obtain rfl := List.mem_singleton.1 hi
      simp [opS, go_sem, recoverD, hu]
      refine anyS_step (rs := [1]) (by kernel_rfl) (by simp) ?_
      intro i hi
      obtain rfl := List.mem_singleton.1 hi
      simp [opS, go_sem]
      refine anyS_step (rs := [2]) (by kernel_rfl) (by simp) ?_
      intro i hi
      obtain rfl := List.mem_singleton.1 hi
      simp [opS, go_sem]
      refine anyS_step (rs := [3]) (by kernel_rfl) (by simp) ?_
      intro i hi
      obtain rfl := List.mem_singleton.1 hi
      simp [opS, go_sem, hR0]
      refine anyS_step (rs := [5]) (by kernel_rfl) (by simp) ?_
      intro i hi
      obtain rfl := List.mem_singleton.1 hi
      simp [opS, go_sem]
      refine (HE.out).mono ?_
      rintro e w' ⟨rfl, h1, h2⟩
      show anyS _ _ _ _ 0 _ _ _ _
      refine ⟨by kernel_rfl, ?_⟩
      rw [← hQ]
      exact ⟨rfl, _, rfl, _, results_none rfl _ _ _, rfl, rfl, h1, ((Only.refl [ob] w).drew).trans h2⟩
  · obtain rfl := List.mem_singleton.1 hi
    simp [opS, go_sem, recoverD, hu]
    refine anyS_step (rs := [0]) (by kernel_rfl) (by simp) ?_
    intro i hi
    obtain rfl := List.mem_singleton.1 hi
    simp [opS, go_sem, hrb]
    refine anyS_step (rs := [1]) (by kernel_rfl) (by simp) ?_
    intro i hi
    obtain rfl := List.mem_singleton.1 hi
    simp [opS, go_sem]
    refine anyS_step (rs := [2]) (by kernel_rfl) (by simp) ?_
    intro i hi
    obtain rfl := List.mem_singleton.1 hi
    simp [opS, go_sem]
    refine anyS_step (rs := [3]) (by kernel_rfl) (by simp) ?_
    intro i hi
    obtain rfl := List.mem_singleton.1 hi
    simp [opS, go_sem, hR0]
    refine anyS_step (rs := [5]) (by kernel_rfl) (by simp) ?_
    intro i hi
    obtain rfl := List.mem_singleton.1 hi
    simp [opS, go_sem]
    refine (HE.out).mono ?_
    rintro e w' ⟨rfl, h1, h2⟩
    show anyS _ _ _ _ 0 _ _ _ _
    refine ⟨by kernel_rfl, ?_⟩
    rw [← hQ]
    exact ⟨rfl, _, rfl, _, results_none rfl _ _ _, rfl, rfl, h1, ((Only.refl [ob] w).drew).trans h2⟩

end Go.Proofs.YtikkmalhdidhaaaGreatDoor

namespace Go.Proofs.YtikkmalhdidhaaaGreatDoor
open Go.RowKit LamM CpsM Go.Maps

theorem conv1_idle (p q : Addr) (w : World) :
    CallsD Tryz.prog 50 #[.pointer (some p), .pointer (some q)] .returning w fun e u' w' => e = .returned (.tuple #[]) ∧ u' = .returning ∧ w' = w := by
  refine callsD_of_wpS Tryz.func50 rfl fun c₀ cs hu => ?_
  apply wpS_seq
  apply wpS_region
  simp [wpOpsS, go_sem, recoverD, hu, Tryz.ntmps50, Exit.thenS]
  apply wpS_seq
  apply wpS_seq
  apply wpS_region
  simp [wpOpsS, go_sem, Exit.thenS]
  refine wpS_cond (t := true) (by simp [Act.eval, Array.replicate]) ?_
  simp only [if_true]
  refine wpS_of_wp (wp_ret ?_)
  cases c₀
  simp_all [bodyPostS, results, Tryz.results50, Exit.thenS]

/-- A number as a node; a program that is done. -/
def numF (i : Int) : Fl := ⟨2, 0, 0, i, 0, [], [], [], []⟩
def haltF (a : Int) : Fl := ⟨13, 0, 0, 0, 0, [], [], [], [a]⟩
/-- What is done with an atom. -/
abbrev useV (bx : Nat) : Value := .func (.func 56) #[] #[.pointer (some ⟨bx, 0, none⟩)]
abbrev numV (i : Int) : Value := .agg #[.int .i64 2, .int .i64 0, .int .i64 0, .int .i64 i, .int .u64 0, .string ⟨#[]⟩, .slice none 0 0, .slice none 0 0, .slice none 0 0]
section
variable {C P0 bx : Nat} {lv pv : Value} {v s i : Int} {nds : List Nd9} {w w' : World}
set_option maxRecDepth 100000 in
set_option maxHeartbeats 4000000 in
theorem conv2_st (h : CvS C P0 lv pv v s nds w) (hl : nds.length = 3) (hX : Blk w bx 96 #[.pointer (some ⟨C, 0, none⟩)]) :
    Calls Tryz.prog 56 #[numV i, .pointer (some ⟨bx, 0, none⟩)] w fun e w' => e = .returned (.int .i64 4) ∧ ∃ a, CvS C P0 lv pv v s (nds ++ [(numF i, nilV, nilV, nilV)] ++ [(haltF 3, nilV, nilV, sl1 a 1)]) w' ∧ Blk w' a 3 #[.int .i64 3] ∧ Kp C P0 w w' := by
  obtain ⟨W, hW⟩ : ∃ W, w.alloc (.cells #[.int .i64 2, .int .i64 0, .int .i64 0, .int .i64 i, .int .u64 0, .string ⟨#[]⟩, .slice none 0 0, .slice none 0 0, .slice none 0 0] 40) = W := ⟨_, rfl⟩
  have HO := Lib.hid (show Only [] w W by rw [← hW]; exact (Only.refl _ _).alloc _)
  have HB := Lib.hid (show Blk W w.heap.size 40 #[.int .i64 2, .int .i64 0, .int .i64 0, .int .i64 i, .int .u64 0, .string ⟨#[]⟩, .slice none 0 0, .slice none 0 0, .slice none 0 0] by rw [← hW]; exact Blk.new _ _ _)
  have HX := Lib.hid (hX.only HO.out (by simp))
  have e3 : ((nds.length : Nat) : Int) = 3 := by omega
  have HP := Lib.hid (show Calls Tryz.prog 53 #[runV C, numV i] W.drew fun e w' => e = .returned (.int .i64 3) ∧ CvS C P0 lv pv v s (nds ++ [(numF i, nilV, nilV, nilV)]) w' ∧ Kp C P0 W.drew w' ∧ ∀ g tt cs, w.heap.size ≤ g → Blk W.drew g tt cs → Blk w' g tt cs by rw [← e3]; exact put_st h HO.out.drew (by omega) (numF i) nilV nilV nilV one_nil)
  have HL := Lib.hid hl
  have HE4 := Lib.hid (fun x : Nd9 => show (((nds ++ [x]).length : Nat) : Int) = 4 by rw [List.length_append, hl]; rfl)
  have b0 : W.drew.cell? ⟨bx, 0, none⟩ = some (.pointer (some ⟨C, 0, none⟩)) := HX.out.drew.cell 0
  have d0 : W.drew.cell? ⟨w.heap.size, 0, none⟩ = some (.int .i64 2) := HB.out.drew.cell 0
  have d1 : W.drew.cell? ⟨w.heap.size, 1, none⟩ = some (.int .i64 0) := HB.out.drew.cell 1
  have d2 : W.drew.cell? ⟨w.heap.size, 2, none⟩ = some (.int .i64 0) := HB.out.drew.cell 2
  have d3 : W.drew.cell? ⟨w.heap.size, 3, none⟩ = some (.int .i64 i) := HB.out.drew.cell 3
  have d4 : W.drew.cell? ⟨w.heap.size, 4, none⟩ = some (.int .u64 0) := HB.out.drew.cell 4
  have d5 : W.drew.cell? ⟨w.heap.size, 5, none⟩ = some (.string ⟨#[]⟩) := HB.out.drew.cell 5
  have d6 : W.drew.cell? ⟨w.heap.size, 6, none⟩ = some (.slice none 0 0) := HB.out.drew.cell 6
  have d7 : W.drew.cell? ⟨w.heap.size, 7, none⟩ = some (.slice none 0 0) := HB.out.drew.cell 7
  have d8 : W.drew.cell? ⟨w.heap.size, 8, none⟩ = some (.slice none 0 0) := HB.out.drew.cell 8
  clear h hl hX e3
  go_enter Tryz.func56, Tryz.ntmps56
  go_upto_region 1 with fail
  clear hW
  go_region_with
    (first
      | (go_at_call 53; ((with_reducible refine (HP.out).mono ?_); rintro e w2 ⟨rfl, hs2, hk2, hb2⟩; have HS2 := Lib.hid hs2; have HK2 := Lib.hid hk2; have HX2 := Lib.hid (hk2.blk _ _ _ HX.out.drew (by decide) (by decide)); have b2 : w2.cell? ⟨bx, 0, none⟩ = some (.pointer (some ⟨C, 0, none⟩)) := HX2.out.cell 0; have b3 : ∀ o, (w2.alloc o).cell? ⟨bx, 0, none⟩ = some (.pointer (some ⟨C, 0, none⟩)) := fun o => (HX2.out.alloc o).cell 0; have HI := Lib.hid (Blk.new w2 3 #[.int .i64 3]); have HP2 := Lib.hid (show Calls Tryz.prog 53 #[runV C, .agg #[.int .i64 13, .int .i64 0, .int .i64 0, .int .i64 0, .int .u64 0, .string ⟨#[]⟩, .slice none 0 0, .slice none 0 0, .slice (some ⟨w2.heap.size, 0, none⟩) 1 1]] (w2.alloc (.cells #[.int .i64 3] 3)) fun e w' => e = .returned (.int .i64 4) ∧ CvS C P0 lv pv v s (nds ++ [(numF i, nilV, nilV, nilV)] ++ [(haltF 3, nilV, nilV, sl1 w2.heap.size 1)]) w' ∧ Kp C P0 (w2.alloc (.cells #[.int .i64 3] 3)) w' ∧ ∀ g tt cs, w2.heap.size ≤ g → Blk (w2.alloc (.cells #[.int .i64 3] 3)) g tt cs → Blk w' g tt cs from (put_st HS2.out ((Only.refl [] w2).alloc _) (by have := HL.out; simp only [List.length_append, List.length_singleton]; omega) (haltF 3) nilV nilV (sl1 w2.heap.size 1) (one_av _ _)).mono (fun e w' h => ⟨h.1.trans (by rw [HE4.out]), h.2⟩)); clear hs2 hk2 hb2))
      | (go_at_call 53; ((with_reducible refine (HP2.out).mono ?_); rintro e w3 ⟨rfl, hs3, hk3, hb3⟩; have HQ := Lib.hid (show _ ∧ _ ∧ _ from ⟨hs3, hb3 _ _ _ (Nat.le_refl _) HI.out, (Kp.none HO.out).drew.trans (HK2.out.trans ((Kp.none ((Only.refl [] w2).alloc _)).trans hk3))⟩); clear hs3 hk3 hb3)))
  all_goals
    go_wp2_with fail
    go_ret
    exact ⟨rfl, w2.heap.size, HQ.out⟩
end
end Go.Proofs.YtikkmalhdidhaaaGreatDoor

namespace Go.Proofs.YtikkmalhdidhaaaGreatDoor
open Go.RowKit LamM CpsM Go.Maps

/-- What comes then. -/
abbrev contV (bx : Nat) : Value := .agg #[.int .i64 0, useV bx]
theorem use_some (bx : Nat) : ∀ w : World, (binOp BinOp.neq 101 (useV bx) .nilFunc).run Tryz.prog w = .ok (.bool true) w := fun _ => by kernel_rfl
/-- The last two nodes are put. -/
def PutTwo (C P0 : Nat) (lv pv : Value) (v s i : Int) (nds : List Nd9) (w : World) (e : Ending) (w' : World) : Prop :=
  e = .returned (.int .i64 4) ∧ ∃ a, CvS C P0 lv pv v s (nds ++ [(numF i, nilV, nilV, nilV)] ++ [(haltF 3, nilV, nilV, sl1 a 1)]) w' ∧ Blk w' a 3 #[.int .i64 3] ∧ Kp C P0 w w'
section
variable {C P0 bx : Nat} {lv pv : Value} {v s i : Int} {nds : List Nd9} {w w' : World}
theorem PutTwo.from {w0 : World} (hk : Kp C P0 w0 w) {e : Ending} (h : PutTwo C P0 lv pv v s i nds w e w') : PutTwo C P0 lv pv v s i nds w0 e w' := by
  obtain ⟨h1, a, h2, h3, h4⟩ := h
  exact ⟨h1, a, h2, h3, hk.trans h4⟩
set_option maxRecDepth 100000 in
set_option maxHeartbeats 4000000 in
theorem send_st (h : CvS C P0 lv pv v s nds w) (hl : nds.length = 3) (hX : Blk w bx 96 #[.pointer (some ⟨C, 0, none⟩)]) :
    Calls Tryz.prog 87 #[runV C, contV bx, numV i] w (PutTwo C P0 lv pv v s i nds w) := by
  obtain ⟨W, hW⟩ : ∃ W, (w.alloc (.cells #[.int .i64 0, useV bx] 105)).alloc (.cells #[.int .i64 2, .int .i64 0, .int .i64 0, .int .i64 i, .int .u64 0, .string ⟨#[]⟩, .slice none 0 0, .slice none 0 0, .slice none 0 0] 40) = W := ⟨_, rfl⟩
  have HO := Lib.hid (show Only [] w W by rw [← hW]; exact ((Only.refl _ _).alloc _).alloc _)
  have HC := Lib.hid (show Blk W w.heap.size 105 #[.int .i64 0, useV bx] by rw [← hW]; exact (Blk.new _ _ _).alloc _)
  have HB := Lib.hid (show Blk W (w.heap.size + 1) 40 #[.int .i64 2, .int .i64 0, .int .i64 0, .int .i64 i, .int .u64 0, .string ⟨#[]⟩, .slice none 0 0, .slice none 0 0, .slice none 0 0] by rw [← hW]; exact blk_atC (by simp) _ _)
  have HP := Lib.hid (show Calls Tryz.prog 56 #[numV i, .pointer (some ⟨bx, 0, none⟩)] W (PutTwo C P0 lv pv v s i nds W) from conv2_st (h.only HO.out) hl (hX.only HO.out (by simp)))
  have hnn := use_some bx
  have c0 : W.cell? ⟨w.heap.size, 0, none⟩ = some (.int .i64 0) := HC.out.cell 0
  have c1 : W.cell? ⟨w.heap.size, 1, none⟩ = some (useV bx) := HC.out.cell 1
  have d0 : W.cell? ⟨w.heap.size + 1, 0, none⟩ = some (.int .i64 2) := HB.out.cell 0
  have d1 : W.cell? ⟨w.heap.size + 1, 1, none⟩ = some (.int .i64 0) := HB.out.cell 1
  have d2 : W.cell? ⟨w.heap.size + 1, 2, none⟩ = some (.int .i64 0) := HB.out.cell 2
  have d3 : W.cell? ⟨w.heap.size + 1, 3, none⟩ = some (.int .i64 i) := HB.out.cell 3
  have d4 : W.cell? ⟨w.heap.size + 1, 4, none⟩ = some (.int .u64 0) := HB.out.cell 4
  have d5 : W.cell? ⟨w.heap.size + 1, 5, none⟩ = some (.string ⟨#[]⟩) := HB.out.cell 5
  have d6 : W.cell? ⟨w.heap.size + 1, 6, none⟩ = some (.slice none 0 0) := HB.out.cell 6
  have d7 : W.cell? ⟨w.heap.size + 1, 7, none⟩ = some (.slice none 0 0) := HB.out.cell 7
  have d8 : W.cell? ⟨w.heap.size + 1, 8, none⟩ = some (.slice none 0 0) := HB.out.cell 8
  clear h hl hX
  go_enter Tryz.func87, Tryz.ntmps87
  go_wp2_with (go_at_call 56; ((with_reducible refine (HP.out).mono ?_); rintro e w2 hq; have HQ := Lib.hid (PutTwo.from (Kp.none HO.out) hq); obtain rfl := hq.1; clear hq))
  go_ret
  exact HQ.out
set_option maxRecDepth 100000 in
set_option maxHeartbeats 4000000 in
theorem plain_any (C : Nat) (i : Int) (w : World) : Calls Tryz.prog 86 #[runV C, .agg #[.int .i64 2, .int .i64 0, .int .i64 i, .int .u64 0, .string ⟨#[]⟩, .slice none 0 0, .slice none 0 0, .slice none 0 0], .pointer none] w fun e w' => e = .returned (.tuple #[numV i, .bool true]) ∧ Only [] w w' := by
  go_enter Tryz.func86, Tryz.ntmps86
  go_wp2_with fail
  refine bodyPost_ret (v := .tuple #[numV i, .bool true]) ?_ rfl ⟨rfl, ?_⟩
  · simp [results, Tryz.results86, go_sem]
  · repeat (first | exact (Only.refl [] w).alloc _ | refine Only.alloc ?_ _ | refine Only.setCell ?_ (.inr (by simp)) _)
theorem CvS.seen (h : CvS C P0 lv pv v s nds w) : CvS C P0 lv pv v (s + 1) nds (w.setCell ⟨C, 4, none⟩ (.int .i64 (s + 1))) ∧ Kp C P0 w (w.setCell ⟨C, 4, none⟩ (.int .i64 (s + 1))) := by
  obtain ⟨⟨ov, hC, hO⟩, hP⟩ := h
  have ho : Only [C] w (w.setCell ⟨C, 4, none⟩ (.int .i64 (s + 1))) := (Only.refl _ _).one
  refine ⟨⟨⟨ov, hC.set_ 4 (.int .i64 (s + 1)), ownsRow_only hO ho (fun k hk hm => own_blk_ne hO hC (by decide) (by rw [hk, List.mem_singleton.1 hm]))⟩, Nat.le_trans hP ho.size⟩, Kp.only ho (fun k hk => ?_)⟩
  obtain rfl := List.mem_singleton.1 hk
  exact ⟨.inl rfl, fun tt cs h => .inr (Classical.byContradiction fun hne => h.ne_ hC hne rfl)⟩
end
end Go.Proofs.YtikkmalhdidhaaaGreatDoor

namespace Go.Proofs.YtikkmalhdidhaaaGreatDoor
open Go.RowKit LamM CpsM Go.Maps

set_option maxRecDepth 100000 in
set_option maxHeartbeats 4000000 in
theorem node_st {C P0 bx tb : Nat} {pv : Value} {v s i hh : Int} {nds : List Nd9} {w : World} (h : CvS C P0 (.slice (some ⟨tb, 0, none⟩) 1 1) pv v s nds w) (hl : nds.length = 3) (hs : 0 ≤ s ∧ s ≤ 1000) (hX : Blk w bx 96 #[.pointer (some ⟨C, 0, none⟩)])
    (hT : Blk w tb 69 #[.int .i64 2, .int .i64 0, .int .i64 i, .int .u64 0, .string ⟨#[]⟩, .slice none 0 0, .slice none 0 0, .slice none 0 0]) :
    Calls Tryz.prog 55 #[runV C, .int .i64 0, .pointer none, contV bx, .int .i64 hh] w (PutTwo C P0 (.slice (some ⟨tb, 0, none⟩) 1 1) pv v (s + 1) i nds w) := by
  obtain ⟨hs0, hs1⟩ := hs
  obtain ⟨W, hW⟩ : ∃ W, (((w.alloc (.cells #[runV C] 96)).alloc (.cells #[.pointer none] 145)).alloc (.cells #[.int .i64 0, useV bx] 105)).alloc (.cells #[.int .i64 hh] 3) = W := ⟨_, rfl⟩
  have HO := Lib.hid (show Only [] w W by rw [← hW]; exact ((((Only.refl _ _).alloc _).alloc _).alloc _).alloc _)
  have k5 : Blk W w.heap.size 96 #[runV C] := by rw [← hW]; exact (((Blk.new _ _ _).alloc _).alloc _).alloc _
  have k7 : Blk W (w.heap.size + 1) 145 #[.pointer none] := by rw [← hW]; exact ((blk_atC (by simp) _ _).alloc _).alloc _
  have k8 : Blk W (w.heap.size + 1 + 1) 105 #[.int .i64 0, useV bx] := by rw [← hW]; exact (blk_atC (by simp) _ _).alloc _
  have HS := Lib.hid (h.only HO.out)
  have hbox : ∃ ov, Blk W C 98 (CC (.slice (some ⟨tb, 0, none⟩) 1 1) pv ov v s) := by obtain ⟨⟨ov, hC, _⟩, _⟩ := HS.out; exact ⟨ov, hC⟩
  obtain ⟨ov, hC⟩ := hbox
  have c4 : W.cell? ⟨C, 4, none⟩ = some (.int .i64 s) := hC.cell 4
  have f4 := hC.frozen 4
  have c5 : W.cell? ⟨w.heap.size, 0, none⟩ = some (runV C) := k5.cell 0
  have hsn := HS.out.seen
  obtain ⟨W1, hW1⟩ : ∃ W1, W.setCell ⟨C, 4, none⟩ (.int .i64 (s + 1)) = W1 := ⟨_, rfl⟩
  rw [hW1] at hsn
  have HS1 := Lib.hid hsn.1
  have HK1 := Lib.hid ((Kp.none HO.out).trans hsn.2)
  have HX1 := Lib.hid (HK1.out.blk _ _ _ hX (by decide) (by decide))
  have HT1 := Lib.hid (HK1.out.blk _ _ _ hT (by decide) (by decide))
  have H5 := Lib.hid (hsn.2.blk _ _ _ k5 (by decide) (by decide))
  have H7 := Lib.hid (hsn.2.blk _ _ _ k7 (by decide) (by decide))
  have H8 := Lib.hid (hsn.2.blk _ _ _ k8 (by decide) (by decide))
  have HC1 := Lib.hid (show Blk W1 C 98 (CC (.slice (some ⟨tb, 0, none⟩) 1 1) pv ov v (s + 1)) by rw [← hW1]; exact hC.set_ 4 (.int .i64 (s + 1)))
  have HL := Lib.hid hl
  clear h hX hT k5 k7 k8 hsn hC hl
  go_enter Tryz.func55, Tryz.ntmps55
  go_upto_region 2 with fail
  clear c4 f4 c5 hW
  have c4 : W1.cell? ⟨C, 4, none⟩ = some (.int .i64 (s + 1)) := HC1.out.cell 4
  have c0 : W1.cell? ⟨C, 0, none⟩ = some (.slice (some ⟨tb, 0, none⟩) 1 1) := HC1.out.cell 0
  have c5 : W1.cell? ⟨w.heap.size, 0, none⟩ = some (runV C) := H5.out.cell 0
  have q : ¬ (262144 : Int) < s + 1 := by omega
  have t0 : W1.cell? ⟨tb, 0, none⟩ = some (.int .i64 2) := HT1.out.cell 0
  have t1 : W1.cell? ⟨tb, 1, none⟩ = some (.int .i64 0) := HT1.out.cell 1
  have t2 : W1.cell? ⟨tb, 2, none⟩ = some (.int .i64 i) := HT1.out.cell 2
  have t3 : W1.cell? ⟨tb, 3, none⟩ = some (.int .u64 0) := HT1.out.cell 3
  have t4 : W1.cell? ⟨tb, 4, none⟩ = some (.string ⟨#[]⟩) := HT1.out.cell 4
  have t5 : W1.cell? ⟨tb, 5, none⟩ = some (.slice none 0 0) := HT1.out.cell 5
  have t6 : W1.cell? ⟨tb, 6, none⟩ = some (.slice none 0 0) := HT1.out.cell 6
  have t7 : W1.cell? ⟨tb, 7, none⟩ = some (.slice none 0 0) := HT1.out.cell 7
  go_upto_region 5 with fail
  obtain ⟨W2, hW2⟩ : ∃ W2, W1.alloc (.cells #[.int .i64 2, .int .i64 0, .int .i64 i, .int .u64 0, .string ⟨#[]⟩, .slice none 0 0, .slice none 0 0, .slice none 0 0] 69) = W2 := ⟨_, rfl⟩
  obtain ⟨tq, htq⟩ : ∃ tq, W1.heap.size = tq := ⟨_, rfl⟩
  rw [hW2]
  try rw [htq]
  clear c4 c0 c5 q t0 t1 t2 t3 t4 t5 t6 t7
  have HO2 := Lib.hid (show Only [] W1 W2 by rw [← hW2]; exact (Only.refl _ _).alloc _)
  have HQ2 := Lib.hid (show Blk W2 tq 69 #[.int .i64 2, .int .i64 0, .int .i64 i, .int .u64 0, .string ⟨#[]⟩, .slice none 0 0, .slice none 0 0, .slice none 0 0] by rw [← hW2]; exact blk_atC htq _ _)
  have c5 : W2.cell? ⟨w.heap.size, 0, none⟩ = some (runV C) := (H5.out.only HO2.out (by simp)).cell 0
  have c7 : W2.cell? ⟨w.heap.size + 1, 0, none⟩ = some (.pointer none) := (H7.out.only HO2.out (by simp)).cell 0
  have t0 : W2.cell? ⟨tq, 0, none⟩ = some (.int .i64 2) := HQ2.out.cell 0
  have t1 : W2.cell? ⟨tq, 1, none⟩ = some (.int .i64 0) := HQ2.out.cell 1
  have t2 : W2.cell? ⟨tq, 2, none⟩ = some (.int .i64 i) := HQ2.out.cell 2
  have t3 : W2.cell? ⟨tq, 3, none⟩ = some (.int .u64 0) := HQ2.out.cell 3
  have t4 : W2.cell? ⟨tq, 4, none⟩ = some (.string ⟨#[]⟩) := HQ2.out.cell 4
  have t5 : W2.cell? ⟨tq, 5, none⟩ = some (.slice none 0 0) := HQ2.out.cell 5
  have t6 : W2.cell? ⟨tq, 6, none⟩ = some (.slice none 0 0) := HQ2.out.cell 6
  have t7 : W2.cell? ⟨tq, 7, none⟩ = some (.slice none 0 0) := HQ2.out.cell 7
  clear hW1 hW2 htq
  go_upto_region 6 with (go_at_call 86; ((with_reducible refine (plain_any C i _).mono ?_); rintro e w3 ⟨rfl, ho3⟩; have HO3 := Lib.hid (HO2.out.trans ho3); clear ho3))
  obtain ⟨W4, hW4⟩ : ∃ W4, w3.alloc (.cells #[.int .i64 2, .int .i64 0, .int .i64 0, .int .i64 i, .int .u64 0, .string ⟨#[]⟩, .slice none 0 0, .slice none 0 0, .slice none 0 0] 40) = W4 := ⟨_, rfl⟩
  obtain ⟨fq, hfq⟩ : ∃ fq, w3.heap.size = fq := ⟨_, rfl⟩
  rw [hW4]
  try rw [hfq]
  clear c5 c7 t0 t1 t2 t3 t4 t5 t6 t7
  have HO4 := Lib.hid (show Only [] W1 W4 by rw [← hW4]; exact HO3.out.alloc _)
  have HB := Lib.hid (show Blk W4 fq 40 #[.int .i64 2, .int .i64 0, .int .i64 0, .int .i64 i, .int .u64 0, .string ⟨#[]⟩, .slice none 0 0, .slice none 0 0, .slice none 0 0] by rw [← hW4]; exact blk_atC hfq _ _)
  have c5 : W4.cell? ⟨w.heap.size, 0, none⟩ = some (runV C) := (H5.out.only HO4.out (by simp)).cell 0
  have c8 : W4.cell? ⟨w.heap.size + 1 + 1, 0, none⟩ = some (.int .i64 0) := (H8.out.only HO4.out (by simp)).cell 0
  have c9 : W4.cell? ⟨w.heap.size + 1 + 1, 1, none⟩ = some (useV bx) := (H8.out.only HO4.out (by simp)).cell 1
  have d0 : W4.cell? ⟨fq, 0, none⟩ = some (.int .i64 2) := HB.out.cell 0
  have d1 : W4.cell? ⟨fq, 1, none⟩ = some (.int .i64 0) := HB.out.cell 1
  have d2 : W4.cell? ⟨fq, 2, none⟩ = some (.int .i64 0) := HB.out.cell 2
  have d3 : W4.cell? ⟨fq, 3, none⟩ = some (.int .i64 i) := HB.out.cell 3
  have d4 : W4.cell? ⟨fq, 4, none⟩ = some (.int .u64 0) := HB.out.cell 4
  have d5 : W4.cell? ⟨fq, 5, none⟩ = some (.string ⟨#[]⟩) := HB.out.cell 5
  have d6 : W4.cell? ⟨fq, 6, none⟩ = some (.slice none 0 0) := HB.out.cell 6
  have d7 : W4.cell? ⟨fq, 7, none⟩ = some (.slice none 0 0) := HB.out.cell 7
  have d8 : W4.cell? ⟨fq, 8, none⟩ = some (.slice none 0 0) := HB.out.cell 8
  have HP := Lib.hid (send_st (i := i) (HS1.out.only HO4.out) HL.out (HX1.out.only HO4.out (by simp)))
  clear hW4 hfq
  go_wp2_with (go_at_call 87; ((with_reducible refine (HP.out).mono ?_); rintro e w5 hq; have HQ := Lib.hid (PutTwo.from (HK1.out.trans (Kp.none HO4.out)) hq); obtain rfl := hq.1; clear hq))
  go_ret
  exact HQ.out
end Go.Proofs.YtikkmalhdidhaaaGreatDoor
