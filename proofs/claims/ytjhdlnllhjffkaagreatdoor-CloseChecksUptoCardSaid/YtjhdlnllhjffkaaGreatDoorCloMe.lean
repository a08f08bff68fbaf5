/- Cps: programs laid node by node. Cps: the converter's small steps: a fresh variable, a node put. Close: the maker's state; a node is put. -/
import Derived.Test.YtjhdlnllhjffkaaGreatDoorCloMb
import Derived.Test.YtjhdlnllhjffkaaGreatDoorLamR
import Derived.Test.YtjhdlnllhjffkaaGreatDoorLamRW
import Derived.Test.YtjhdlnllhjffkaaGreatDoorCloMd
import Derived.Test.YtjhdlnllhjffkaaGreatDoorCloMf
import Derived.Deep.RegionLaw
import Derived.Test.YtjhdlnllhjffkaaGreatDoorCloMa
namespace Go.Proofs.YtjhdlnllhjffkaaGreatDoor
open Go.RowKit LamM CpsM

/-- A node with what its three slices are. -/
abbrev Nd9 := Fl × Value × Value × Value
def ndVals (x : Nd9) : List Value := flVals x.1 x.2.1 x.2.2.1 x.2.2.2
def progC : List Nd9 → List Value
  | [] => []
  | x :: r => ndVals x ++ progC r
theorem ndVals_len (x : Nd9) : (ndVals x).length = 9 := rfl
theorem progC_len : ∀ l : List Nd9, (progC l).length = l.length * 9
  | [] => rfl
  | x :: r => by
    show (ndVals x ++ progC r).length = _
    rw [List.length_append, progC_len r, ndVals_len, List.length_cons]
    omega
theorem progC_app : ∀ l m : List Nd9, progC (l ++ m) = progC l ++ progC m
  | [], _ => rfl
  | x :: l, m => by
    show ndVals x ++ progC (l ++ m) = ndVals x ++ progC l ++ progC m
    rw [progC_app l m, List.append_assoc]
theorem progC_at : ∀ (l : List Nd9) (i : Nat) (x : Nd9) (j : Nat) (u : Value), l[i]? = some x → (ndVals x)[j]? = some u → (progC l)[i * 9 + j]? = some u
  | [], i, _, _, _, h, _ => by simp at h
  | y :: l, 0, x, j, u, h, hu => by
    have e : y = x := by simpa using h
    subst e
    show (ndVals y ++ progC l)[0 * 9 + j]? = some u
    have hj : j < (ndVals y).length := (List.getElem?_eq_some_iff.1 hu).1
    rw [Nat.zero_mul, Nat.zero_add, List.getElem?_append_left hj]
    exact hu
  | y :: l, i + 1, x, j, u, h, hu => by
    show (ndVals y ++ progC l)[(i + 1) * 9 + j]? = some u
    rw [List.getElem?_append_right (by rw [ndVals_len]; omega), ndVals_len, show (i + 1) * 9 + j - 9 = i * 9 + j by omega]
    exact progC_at l i x j u (by simpa using h) hu
theorem NF_of {w : World} {g c : Nat} {l : List Nd9} (h : ∀ k u, (progC l)[k]? = some u → w.cell? ⟨g, k, none⟩ = some u) (hlt : g < w.heap.size) (hc : l.length ≤ c) (hc2 : l.length ≤ 1300000000000)
    (hf : ∀ x ∈ l, FV w w.heap.size x.1 x.2.1 x.2.2.1 x.2.2.2) : NF w w.heap.size (.slice (some ⟨g, 0, none⟩) l.length c) (l.map (·.1)) := by
  refine ⟨some ⟨g, 0, none⟩, c, by rw [List.length_map], by rw [List.length_map]; exact hc, by rw [List.length_map]; exact hc2, fun i t ht => ?_⟩
  rw [List.getElem?_map] at ht
  obtain ⟨x, hx, rfl⟩ := Option.map_eq_some_iff.1 ht
  refine ⟨_, x.2.1, x.2.2.1, x.2.2.2, rfl, hlt, hf x (List.mem_of_getElem? hx), fun j u hu => ?_⟩
  rw [show (⟨g, 0, none⟩ : Addr).add (i * 9 + j) = ⟨g, i * 9 + j, none⟩ by unfold Addr.add; split <;> simp_all]
  exact h _ _ (progC_at l i x j u hx hu)
theorem blk_iv {w : World} {g : Nat} {l : List Int} (h : Blk w g 3 (intVals l).toArray) (hl : l.length ≤ 1000) : IV w w.heap.size (.slice (some ⟨g, 0, none⟩) l.length l.length) l :=
  ⟨_, _, rfl, Nat.le_refl _, by unfold maxLen; omega, Reads.blk' h (by simp [intVals])⟩
theorem nil_kv (w : World) (B : Nat) : KV w B (.slice none 0 0) [] := ⟨none, 0, rfl, Nat.le_refl _, Nat.zero_le _, rfl, fun h => absurd h (by decide)⟩
/-- A small node. -/
def SmallF (t : Fl) : Bool := t.keys.isEmpty && decide (0 ≤ t.k ∧ t.k ≤ 100 ∧ 0 ≤ t.n ∧ t.n ≤ 100 ∧ 0 ≤ t.m ∧ t.m ≤ 100 ∧ 0 ≤ t.i ∧ t.i ≤ 100) && (t.args.all fun x => decide (0 ≤ x ∧ x ≤ 100)) && (t.vars.all fun x => decide (0 ≤ x ∧ x ≤ 100)) && decide (t.args.length ≤ 100 ∧ t.vars.length ≤ 100)
theorem small_FV {w : World} {B : Nat} {t : Fl} {vv av : Value} (hs : SmallF t = true) (hv : IV w B vv t.vars) (ha : IV w B av t.args) : FV w B t vv (.slice none 0 0) av := by
  unfold SmallF at hs
  simp only [Bool.and_eq_true, List.isEmpty_iff, decide_eq_true_eq, List.all_eq_true] at hs
  obtain ⟨⟨⟨⟨h1, h2, h3, h4, h5, h6, h7, h8, h9⟩, h10⟩, h11⟩, h12, h13⟩ := hs
  exact ⟨hv, by rw [h1]; exact nil_kv _ _, ha, by omega, by omega, by omega, by omega, fun x hx => by have := h10 x hx; omega, fun x hx => by have := h11 x hx; omega, by omega, by rw [h1]; decide, by omega⟩
end Go.Proofs.YtjhdlnllhjffkaaGreatDoor
namespace CpsM
open LamM
/-- A function that calls itself. -/
def loopL : List Fl := [⟨1, 1, 0, 0, 0, [], [], [], []⟩, ⟨1, 2, 0, 0, 0, [], [], [], []⟩, ⟨11, 0, 0, 0, 0, [], [], [], [0, 1]⟩, ⟨10, 0, 0, 0, 0, [], [2], [], [2]⟩, ⟨2, 0, 0, 0, 0, [], [], [], []⟩, ⟨11, 0, 0, 0, 0, [], [], [], [0, 4]⟩, ⟨9, 0, 0, 0, 0, [], [1], [], [3, 5]⟩]
/-- What the number 5 becomes. -/
def convL : List Fl := [⟨1, 2, 0, 0, 0, [], [], [], []⟩, ⟨14, 0, 0, 0, 0, [], [], [], [0]⟩, ⟨10, 0, 0, 0, 0, [], [2], [], [1]⟩, ⟨2, 0, 0, 5, 0, [], [], [], []⟩, ⟨13, 0, 0, 0, 0, [], [], [], [3]⟩, ⟨9, 0, 0, 0, 0, [], [1], [], [2, 4]⟩]
theorem check_loop : checkC prims loopL 6 = 0 := by decide
theorem check_conv : checkC prims convL 5 = 0 := by decide
end CpsM

namespace Go.Proofs.YtjhdlnllhjffkaaGreatDoor
open Go.RowKit LamM CpsM Go.Maps

theorem infoFl : (Tryz.prog.info? 43).map (fun i => (i.zero, i.size, i.bytes)) = some (some (.agg #[.int .i64 0, .int .i64 0, .int .i64 0, .int .i64 0, .int .u64 0, .string ⟨#[]⟩, .slice none 0 0, .slice none 0 0, .slice none 0 0]), 9, 128) := by kernel_rfl
theorem undFls : Tryz.prog.underlying 22 = some (.slice 43) := by kernel_rfl
theorem own_rowC {w : World} {base size : Nat} {e : TypeId} {v : Value} {n : Nat} {xs : List Value} (h : w.ownsRow base e size v (n + 1) xs) : ∃ g c, v = .slice (some ⟨g, 0, none⟩) (n + 1) c ∧ base ≤ g := by
  rcases h.2 with ⟨_, h0⟩ | ⟨g, cap, cur, rfl, hb, _⟩
  · cases h0
  · exact ⟨g, cap, rfl, hb⟩
theorem one9 {t : Fl} {vv kv av : Value} (h : ∀ u ∈ [vv, kv, av], u.oneCell' = true) : ∀ u ∈ [Value.int .i64 t.k, .int .i64 t.n, .int .i64 t.m, .int .i64 t.i, .int .u64 t.b, .string ⟨t.t.toArray⟩, vv, kv, av], u.oneCell' = true := by
  intro u hu
  simp only [List.mem_cons, List.mem_nil_iff, or_false] at hu
  rcases hu with rfl | rfl | rfl | rfl | rfl | rfl | rfl | rfl | rfl <;> first | rfl | exact h _ (by simp)
def CC (lv pv ov : Value) (v s : Int) : Array Value := #[lv, pv, ov, .int .i64 v, .int .i64 s]

end Go.Proofs.YtjhdlnllhjffkaaGreatDoor

namespace Go.Proofs.YtjhdlnllhjffkaaGreatDoor
open Go.RowKit LamM CpsM CloM Go.Maps

def MKC (lv pv ov fuv mv : Value) (v s : Int) : Array Value := #[lv, pv, ov, fuv, mv, .int .i64 v, .int .i64 s, .slice none 0 0]
set_option maxRecDepth 100000 in
set_option maxHeartbeats 4000000 in
theorem mnode_any (C G P0 : Nat) (lv pv ov fuv mv : Value) (v s : Int) (nds : List Nd9) (t : Fl) (vv kv av : Value) (w : World) (hC : Blk w C 102 (MKC lv pv ov fuv mv v s)) (hO : w.ownsRow P0 43 9 ov nds.length (progC nds))
    (hG : ∀ k, ov.ownBlock = some k → k = G) (hGC : G ≠ C) (hP : P0 ≤ w.heap.size) (hn : nds.length ≤ 100) (h1 : ∀ u ∈ [vv, kv, av], u.oneCell' = true) :
    Calls Tryz.prog 79 #[runV C, .agg (flVals t vv kv av).toArray] w fun e w' => e = .returned (.int .i64 (nds.length : Int)) ∧ ∃ g c, P0 ≤ g ∧ Blk w' C 102 (MKC lv pv (.slice (some ⟨g, 0, none⟩) (nds.length + 1) c) fuv mv v s) ∧
      w'.ownsRow P0 43 9 (.slice (some ⟨g, 0, none⟩) (nds.length + 1) c) (nds.length + 1) (progC nds ++ flVals t vv kv av) ∧ Only [C, G] w w' := by
  obtain ⟨i0, hi0, hz0, hz1, hz2⟩ := info_parts infoFl
  obtain ⟨OA, oc, rfl⟩ : ∃ a c, ov = .slice a nds.length c := by obtain ⟨a, c, e⟩ := ownsRow_slice hO; exact ⟨a, c, e⟩
  obtain ⟨W, hW⟩ : ∃ W, w.alloc (BoxF t vv kv av) = W := ⟨_, rfl⟩
  have ho : Only [] w W := by rw [← hW]; exact (Only.refl _ _).alloc _
  have HX := Lib.hid (show Blk W w.heap.size 43 #[.int .i64 t.k, .int .i64 t.n, .int .i64 t.m, .int .i64 t.i, .int .u64 t.b, .string ⟨t.t.toArray⟩, vv, kv, av] by rw [← hW]; exact Blk.new _ _ _)
  have HC := Lib.hid (hC.only ho (by simp))
  have HO := Lib.hid (ownsRow_only hO ho (by simp))
  have HG := Lib.hid hG
  have HW := Lib.hid ho
  have HN1 := Lib.hid h1
  have hwz := ho.size
  have c2 : W.cell? ⟨C, 2, none⟩ = some (.slice OA nds.length oc) := HC.out.cell 2
  have c2d : W.drew.cell? ⟨C, 2, none⟩ = some (.slice OA nds.length oc) := HC.out.cell 2
  have c2a : ∀ o, (W.alloc o).drew.cell? ⟨C, 2, none⟩ = some (.slice OA nds.length oc) := fun o => (HC.out.alloc o).drew.cell 2
  have d0 : W.drew.cell? ⟨w.heap.size, 0, none⟩ = some (.int .i64 t.k) := HX.out.drew.cell 0
  have d1 : W.drew.cell? ⟨w.heap.size, 1, none⟩ = some (.int .i64 t.n) := HX.out.drew.cell 1
  have d2 : W.drew.cell? ⟨w.heap.size, 2, none⟩ = some (.int .i64 t.m) := HX.out.drew.cell 2
  have d3 : W.drew.cell? ⟨w.heap.size, 3, none⟩ = some (.int .i64 t.i) := HX.out.drew.cell 3
  have d4 : W.drew.cell? ⟨w.heap.size, 4, none⟩ = some (.int .u64 t.b) := HX.out.drew.cell 4
  have d5 : W.drew.cell? ⟨w.heap.size, 5, none⟩ = some (.string ⟨t.t.toArray⟩) := HX.out.drew.cell 5
  have d6 : W.drew.cell? ⟨w.heap.size, 6, none⟩ = some (vv) := HX.out.drew.cell 6
  have d7 : W.drew.cell? ⟨w.heap.size, 7, none⟩ = some (kv) := HX.out.drew.cell 7
  have d8 : W.drew.cell? ⟨w.heap.size, 8, none⟩ = some (av) := HX.out.drew.cell 8
  have q1 : decide ((262144 : Int) ≤ (nds.length : Int)) = false := decide_eq_false (by omega)
  have hk9 : nds.length ≤ 100 := hn
  unfold BoxF at hW
  unfold flVals
  clear hC hO hG h1 ho
  generalize progC nds = pc at *
  generalize nds.length = nl at *
  go_enter Tryz.func79, Tryz.ntmps79
  go_upto_region 3 with fail
  clear hW
  go_region_law (first
    | (refine step_append_any _ rfl _ _ 22 rfl P0 43 i0 _ 9 128 undFls hi0 hz0 hz1 hz2 rfl (by decide) _ nl pc rfl (World.ownsRow.drew (World.ownsRow.alloc HO.out _)) _ _ _ _ [_, _, _, _, _, _, _, _, _] rfl (Reads.blk' (Blk.drew (Blk.new _ _ _)) rfl) (one9 HN1.out) (by unfold maxLen; omega) (by omega) (by show P0 ≤ (W.alloc _).heap.size; simp; omega) ?_; intro v2 w5 hown5 hgrow5 hor5; obtain ⟨g, c, hv, hgP⟩ := own_rowC hown5; subst hv; have HOR := Lib.hid hown5; have HGP := Lib.hid hgP; have HG5 := Lib.hid (((Only.refl [G] W).alloc (.cells #[.int .i64 t.k, .int .i64 t.n, .int .i64 t.m, .int .i64 t.i, .int .u64 t.b, .string ⟨t.t.toArray⟩, vv, kv, av] 43)).drew.grown hgrow5 (fun k hk => .inl (by rw [HG.out k hk]; simp))); have HC5 := Lib.hid (HC.out.only HG5.out (fun h => hGC (List.mem_singleton.1 h).symm)); have c5 : w5.cell? ⟨C, 2, none⟩ = some (.slice OA nl oc) := HC5.out.cell 2; have f5 := HC5.out.frozen 2; clear hown5 hgrow5 hor5 hgP)
    | fail)
  all_goals
    obtain ⟨W6, hW6⟩ : ∃ W6, w5.setCell ⟨C, 2, none⟩ (.slice (some ⟨g, 0, none⟩) (nl + 1) c) = W6 := ⟨_, rfl⟩
    have hC6 : Blk W6 C 102 (MKC lv pv (.slice (some ⟨g, 0, none⟩) (nl + 1) c) fuv mv v s) := by rw [← hW6]; exact HC5.out.set_ 2 (.slice (some ⟨g, 0, none⟩) (nl + 1) c)
    have ho6 : Only [C] w5 W6 := by rw [← hW6]; exact (Only.refl [C] w5).one
    have hgc : g ≠ C := fun e => own_blk_ne HOR.out HC5.out (by decide) (by rw [e]; rfl)
    have HO6 := Lib.hid (ownsRow_only HOR.out ho6 (fun k hk h => by have e : g = k := Option.some.inj hk; have := List.mem_singleton.1 h; omega))
    have HC6 := Lib.hid hC6
    have HOA := Lib.hid (show Only [C, G] w W6 from (HW.out.mono (by simp)).trans ((HG5.out.mono (by simp)).trans (ho6.mono (by simp))))
    have c6 : W6.cell? ⟨C, 2, none⟩ = some (.slice (some ⟨g, 0, none⟩) (nl + 1) c) := HC6.out.cell 2
    rw [hW6]
    clear hW6 hC6 ho6 c5 f5
    go_wp2_with fail
    go_ret
    exact ⟨rfl, g, c, HGP.out, HC6.out, HO6.out, HOA.out⟩
/-- What the converter's steps keep: all blocks but its own cells and the row of nodes. -/
structure Km (C P0 : Nat) (w w' : World) : Prop where
  bel : ∀ B, B ≤ C → B ≤ P0 → B ≤ w.heap.size → Below B w w'
  siz : w.heap.size ≤ w'.heap.size
  blk : ∀ g tt cs, Blk w g tt cs → tt ≠ 43 → tt ≠ 102 → Blk w' g tt cs
section
variable {C P0 : Nat} {w w1 w' : World}
theorem Km.refl (C P0 : Nat) (w : World) : Km C P0 w w := ⟨fun _ _ _ _ => Below.refl _ _, Nat.le_refl _, fun _ _ _ h _ _ => h⟩
theorem Km.trans (h : Km C P0 w w1) (k : Km C P0 w1 w') : Km C P0 w w' :=
  ⟨fun B h1 h2 h3 => (h.bel B h1 h2 h3).trans (k.bel B h1 h2 (Nat.le_trans h3 h.siz)), Nat.le_trans h.siz k.siz, fun g tt cs hb h1 h2 => k.blk g tt cs (h.blk g tt cs hb h1 h2) h1 h2⟩
theorem Km.only {bs : List Nat} (ho : Only bs w w') (hb : ∀ k ∈ bs, (k = C ∨ P0 ≤ k) ∧ ∀ tt cs, Blk w k tt cs → tt = 43 ∨ tt = 102) : Km C P0 w w' :=
  ⟨fun B h1 h2 h3 => below_only (Below.refl B w) ho (fun k hk => by rcases (hb k hk).1 with h | h <;> omega) h3, ho.size, fun g tt cs h h1 h2 => h.only ho (fun hm => by rcases (hb g hm).2 tt cs h with h3 | h3; exact h1 h3; exact h2 h3)⟩
theorem Km.none (ho : Only [] w w') : Km C P0 w w' := Km.only ho (fun k hk => by cases hk)
theorem Km.alloc (h : Km C P0 w w') (o : Obj) : Km C P0 w (w'.alloc o) := h.trans (Km.none ((Only.refl [] w').alloc o))
theorem Km.drew (h : Km C P0 w w') : Km C P0 w w'.drew := h.trans (Km.none (Only.refl [] w').drew)
end
/-- The converter: what it has counted, the nodes that it has put. -/
structure MkS (C P0 : Nat) (lv pv fuv mv : Value) (v s : Int) (nds : List Nd9) (w : World) : Prop where
  ex : ∃ ov, Blk w C 102 (MKC lv pv ov fuv mv v s) ∧ w.ownsRow P0 43 9 ov nds.length (progC nds)
  p0 : P0 ≤ w.heap.size
section
variable {C P0 : Nat} {lv pv fuv mv : Value} {v s : Int} {nds : List Nd9} {w w' : World}
theorem MkS.only (h : MkS C P0 lv pv fuv mv v s nds w) (ho : Only [] w w') : MkS C P0 lv pv fuv mv v s nds w' := by
  obtain ⟨⟨ov, h1, h2⟩, h3⟩ := h
  exact ⟨⟨ov, h1.only ho (by simp), ownsRow_only h2 ho (by simp)⟩, Nat.le_trans h3 ho.size⟩
theorem MkS.alloc (h : MkS C P0 lv pv fuv mv v s nds w) (o : Obj) : MkS C P0 lv pv fuv mv v s nds (w.alloc o) := h.only ((Only.refl [] w).alloc o)
theorem MkS.drew (h : MkS C P0 lv pv fuv mv v s nds w) : MkS C P0 lv pv fuv mv v s nds w.drew := h.only (Only.refl [] w).drew
theorem MkS.lt (h : MkS C P0 lv pv fuv mv v s nds w) : C < w.heap.size := by obtain ⟨⟨_, h1, _⟩, _⟩ := h; exact h1.lt

theorem mnode_st {w0 : World} (h0 : MkS C P0 lv pv fuv mv v s nds w0) (ho0 : Only [] w0 w) (hn : nds.length ≤ 100) (t : Fl) (vv kv av : Value) (h1 : ∀ u ∈ [vv, kv, av], u.oneCell' = true) :
    Calls Tryz.prog 79 #[runV C, .agg (flVals t vv kv av).toArray] w fun e w' => e = .returned (.int .i64 (nds.length : Int)) ∧ MkS C P0 lv pv fuv mv v s (nds ++ [(t, vv, kv, av)]) w' ∧ Km C P0 w w' ∧ ∀ g tt cs, w0.heap.size ≤ g → Blk w g tt cs → Blk w' g tt cs := by
  have hCl := h0.lt
  obtain ⟨⟨ov, hC0, hO0⟩, hP0⟩ := h0
  have hP : P0 ≤ w.heap.size := Nat.le_trans hP0 ho0.size
  have hC := hC0.only ho0 (by simp)
  have hO := ownsRow_only hO0 ho0 (by simp)
  obtain ⟨G, hG, hGC, hGk, hPG, hGn⟩ : ∃ G, (∀ k, ov.ownBlock = some k → k = G) ∧ G ≠ C ∧ (∀ tt cs, Blk w G tt cs → tt = 43) ∧ P0 ≤ G ∧ (w.heap.size ≤ G ∨ G < w0.heap.size) := by
    rcases hb : ov.ownBlock with _ | k
    · exact ⟨w.heap.size, fun k h => by simp at h, by have := hC.lt; omega, fun tt cs h => absurd h.lt (by omega), hP, .inl (Nat.le_refl _)⟩
    · refine ⟨k, fun k' h => (Option.some.inj h).symm, fun e => own_blk_ne hO hC (by decide) (by rw [hb, e]), fun tt cs h => Classical.byContradiction fun hne => own_blk_ne hO h (fun e => hne e.symm) hb, ?_, .inr (World.ownsRow.lt hO0 k hb).2⟩
      rcases hO.2 with ⟨hv, _⟩ | ⟨g, cap, cur, hv, hb', _⟩
      · rw [hv] at hb; cases hb
      · rw [hv] at hb
        have : g = k := Option.some.inj hb
        omega
  refine (mnode_any C G P0 lv pv ov fuv mv v s nds t vv kv av w hC hO hG hGC hP hn h1).mono ?_
  rintro e w' ⟨he, g, c, hg, hC', hO', ho⟩
  have e1 : progC (nds ++ [(t, vv, kv, av)]) = progC nds ++ flVals t vv kv av := by
    rw [progC_app]
    show progC nds ++ (flVals t vv kv av ++ []) = _
    rw [List.append_nil]
  have e2 : (nds ++ [(t, vv, kv, av)]).length = nds.length + 1 := by simp
  refine ⟨he, ⟨⟨_, hC', by rw [e1, e2]; exact hO'⟩, Nat.le_trans hP ho.size⟩, Km.only ho (fun k hk => ?_), fun g tt cs hg hb => hb.only ho (by have := hb.lt; simp only [List.mem_cons, List.not_mem_nil, or_false]; omega)⟩
  simp only [List.mem_cons, List.not_mem_nil, or_false] at hk
  rcases hk with rfl | rfl
  · refine ⟨.inl rfl, fun tt cs h => .inr (Classical.byContradiction fun hne => h.ne_ hC hne rfl)⟩
  · exact ⟨.inr hPG, fun tt cs h => .inl (hGk tt cs h)⟩
end
end Go.Proofs.YtjhdlnllhjffkaaGreatDoor
