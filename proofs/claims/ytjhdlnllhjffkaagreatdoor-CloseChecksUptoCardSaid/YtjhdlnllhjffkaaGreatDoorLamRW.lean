/- Lambda: api.Prims hands back the table of primitives. -/
import Derived.Test.YtjhdlnllhjffkaaGreatDoorLamR
import Derived.Deep.DeepFit
import Derived.Great.BuildSlice
namespace Go.Proofs.YtjhdlnllhjffkaaGreatDoor
open Go.RowKit LamM

theorem rec_one (con : Int) (T1 T2 T3 : ByteArray) (ra : Option Addr) (rn rc : Nat) : ∀ u ∈ recCells con T1 T2 T3 (.slice ra rn rc), u.oneCell' = true := by
  simp [recCells, prC, Value.oneCell']
theorem ord_cell (T1 T2 T3 : ByteArray) (con : Int) {k : Nat} (hk : k < 4) : ∃ p, (ordTab con)[k]? = some p ∧ p.raises = [] ∧
    ∀ j, j < 5 → (recCells con T1 T2 T3 (.slice none 0 0))[25 + k * 5 + j]? = (prCells p T3 (.slice none 0 0))[j]? := by
  rcases (by omega : k = 0 ∨ k = 1 ∨ k = 2 ∨ k = 3) with rfl | rfl | rfl | rfl
  all_goals
    refine ⟨_, rfl, rfl, fun j hj => ?_⟩
    rcases (by omega : j = 0 ∨ j = 1 ∨ j = 2 ∨ j = 3 ∨ j = 4) with rfl | rfl | rfl | rfl | rfl <;> rfl
/-- The table while it grows: its row, the block that is read beside it. -/
structure PrL (w : World) (g G : Nat) (cs : List Value) (n : Nat) (ys : List Value) (tab : List Pr) (l : Value) (wr : World) : Prop where
  own : wr.ownsRow g 70 5 l n ys
  px : PX (IV wr g) ys tab
  bel : Below w.heap.size w wr
  ne : l.ownBlock ≠ some G
  hG : G < wr.heap.size
  hg : g < wr.heap.size
  hw : w.heap.size < g
  cell : ∀ j u, cs[j]? = some u → wr.cell? ((⟨G, 0, none⟩ : Addr).add j) = some u
theorem PrL.step {w wr w' : World} {g G n : Nat} {cs ys : List Value} {tab : List Pr} {l v' : Value} {p : Pr} {ty : ByteArray} (H : PrL w g G cs n ys tab l wr) (o o2 : Obj)
    (ho : w'.ownsRow g 70 5 v' (n + 1) (ys ++ prCells p ty (.slice none 0 0))) (hgr : ((wr.alloc o).alloc o2).grownBy w' l.ownBlock)
    (hor : v'.ownBlock = l.ownBlock ∨ v'.ownBlock = some (wr.heap.size + 1 + 1)) (hp : p.raises = []) : PrL w g G cs (n + 1) (ys ++ prCells p ty (.slice none 0 0)) (tab ++ [p]) v' w' := by
  have hs : ((wr.alloc o).alloc o2).heap.size = wr.heap.size + 2 := by simp
  have hG := H.hG
  have hg := H.hg
  have hb : Below g wr w' := (((Below.refl g wr).alloc (by omega) o).alloc (by simp; omega) o2).grown hgr (by omega) (fun j hj => (World.ownsRow.lt H.own j hj).1)
  have hsz := hb.size
  refine ⟨ho, (H.px.mono (fun v l h => h.keep (fun q hq => hb.cell hq))).app ?_, H.bel.trans (hb.mono (by have := H.hw; omega)), ?_, by omega, by omega, H.hw, fun j u hu => ?_⟩
  · have := PX.cons (Q := IV w' g) (p := p) (ty := ty) (rv := .slice none 0 0) (by rw [hp]; exact nil_IV _ _) PX.nil
    rwa [List.append_nil] at this
  · rcases hor with h | h
    · rw [h]; exact H.ne
    · rw [h]; intro e; have := Option.some.inj e; omega
  · have h1 := H.cell j u hu
    have hbk : ((⟨G, 0, none⟩ : Addr).add j).block = G := by rw [block_of_add]
    have h2 : ((wr.alloc o).alloc o2).cell? ((⟨G, 0, none⟩ : Addr).add j) = some u := by
      rw [World.cell?_alloc_lt _ _ _ (by rw [hbk]; simp; omega), World.cell?_alloc_lt _ _ _ (by rw [hbk]; omega)]; exact h1
    exact hgr.cell h2 (by rw [hbk]; exact fun e => H.ne e.symm)
theorem PrL.next {w wr w' : World} {g G n : Nat} {cs cs' ys : List Value} {tab : List Pr} {l : Value} (H : PrL w g G cs n ys tab l wr) (hb : Below wr.heap.size wr w') (hs : w'.heap.size = wr.heap.size + 1)
    (ho : w'.ownsRow wr.heap.size 70 5 (.slice (some ⟨wr.heap.size, 0, none⟩) 9 9) 9 cs') : PrL w g wr.heap.size cs' n ys tab l w' := by
  have hg := H.hg
  refine ⟨ownsRow_below H.own hb, H.px.mono (fun v l h => h.keep (fun q hq => hb.cell (by omega))), H.bel.trans (hb.mono H.bel.size), fun h => ?_, by omega, by omega, H.hw, fun j u hu => ho.cells (g := wr.heap.size) rfl j u hu⟩
  have := (World.ownsRow.lt H.own _ h).2
  omega
def allocs : World → List Obj → World
  | w, [] => w
  | w, o :: l => allocs (w.alloc o) l
theorem allocs_size : ∀ (l : List Obj) (w : World), (allocs w l).heap.size = w.heap.size + l.length
  | [], _ => rfl
  | o :: l, w => by rw [allocs, allocs_size l, List.length_cons]; simp; omega
theorem allocs_below : ∀ (l : List Obj) (w : World), Below w.heap.size w (allocs w l)
  | [], w => Below.refl _ _
  | o :: l, w => ((Below.refl w.heap.size w).alloc (Nat.le_refl _) o).trans ((allocs_below l (w.alloc o)).mono (by simp))
theorem allocs_blk : ∀ (l : List Obj) (w : World) (j : Nat) (cs : Array Value) (t : TypeId), l[j]? = some (.cells cs t) → Blk (allocs w l) (w.heap.size + j) t cs
  | [], _, _, _, _, h => by simp at h
  | o :: l, w, 0, cs, t, h => by
    obtain rfl : o = .cells cs t := by simpa using h
    exact (Blk.new w t cs).below (B := (w.alloc (.cells cs t)).heap.size) (allocs_below l _) (by simp)
  | o :: l, w, j + 1, cs, t, h => by
    have := allocs_blk l (w.alloc o) j cs t (by simpa using h)
    rw [show (w.alloc o).heap.size + j = w.heap.size + (j + 1) by simp; omega] at this
    exact this
theorem ownsRow_allocs : ∀ (l : List Obj) {w : World} {base size n : Nat} {e : TypeId} {v : Value} {xs : List Value}, w.ownsRow base e size v n xs → (allocs w l).ownsRow base e size v n xs
  | [], _, _, _, _, _, _, _, h => h
  | o :: l, _, _, _, _, _, _, _, h => ownsRow_allocs l (h.alloc o)
theorem PX.cons' {Q : Value → List Int → Prop} {nm : List UInt8} {con args : Int} {r : List Int} {ty : ByteArray} {rv : Value} {xs : List Value} {tab : List Pr} (h : Q rv r) (t : PX Q xs tab) :
    PX Q (.string ⟨nm.toArray⟩ :: .int .i64 con :: .int .i64 args :: .string ty :: rv :: xs) (⟨nm, con, args, r⟩ :: tab) := PX.cons (p := ⟨nm, con, args, r⟩) h t
theorem Reads.blk {w : World} {g n size : Nat} {t : TypeId} {cs : Array Value} (h : Blk w g t cs) (hs : cs.size = n * size) : Reads w w.heap.size size (some ⟨g, 0, none⟩) n cs.toList := by
  refine ⟨by simpa using hs, fun _ => ⟨_, rfl, h.lt, fun j u hu => ?_⟩⟩
  rw [show (⟨g, 0, none⟩ : Addr).add j = ⟨g, j, none⟩ by unfold Addr.add; split <;> simp_all, h.cell j]
  simpa using hu
/-- A slice of ints in a block of its own, behind an append that writes another. -/
theorem raise_IV {wr w' : World} {objs : List Obj} {row : Option Nat} {j : Nat} {l : List Int} (hj : objs[j]? = some (.cells (intVals l).toArray 3)) (hgr : (allocs wr objs).grownBy w' row) (hr : ∀ k, row = some k → k < wr.heap.size) (hm : l.length ≤ 5) :
    IV w' w'.heap.size (.slice (some ⟨wr.heap.size + j, 0, none⟩) l.length l.length) l := by
  have hb := allocs_blk objs wr j _ _ hj
  have hb' := hb.grown hgr (fun e => by have := hr _ e.symm; omega)
  refine ⟨_, _, rfl, Nat.le_refl _, by unfold maxLen; omega, ?_⟩
  exact Reads.blk hb' (by simp)
theorem Reads.blk' {w : World} {g n size : Nat} {t : TypeId} {xs : List Value} (h : Blk w g t xs.toArray) (hs : xs.length = n * size) : Reads w w.heap.size size (some ⟨g, 0, none⟩) n xs := by
  have := Reads.blk (n := n) (size := size) h (by simpa using hs)
  simpa using this
theorem PrL.src {w wr : World} {g G n : Nat} {cs ys : List Value} {tab : List Pr} {l : Value} (_ : PrL w g G cs n ys tab l wr) (p : Pr) (ty : ByteArray) (o : Obj) :
    Reads ((wr.alloc o).alloc (.cells (prCells p ty (.slice none 0 0)).toArray 70)) ((wr.alloc o).alloc (.cells (prCells p ty (.slice none 0 0)).toArray 70)).heap.size 5 (some ⟨wr.heap.size + 1, 0, none⟩) 1 (prCells p ty (.slice none 0 0)) := by
  have h := Reads.blk (Blk.new (wr.alloc o) 70 (prCells p ty (.slice none 0 0)).toArray) (n := 1) (size := 5) rfl
  rw [show (wr.alloc o).heap.size = wr.heap.size + 1 by simp] at h
  exact h
/-- The last part of the table: rows, what is raised in blocks from S on. -/
def restRows (S : Nat) : List (Pr × ByteArray × Value) := [(⟨[100, 105, 118], -1, 2, [3, 6]⟩, ⟨#[105, 110, 116, 32, 42, 32, 105, 110, 116, 32, 45, 62, 32, 105, 110, 116]⟩, .slice (some ⟨S, 0, none⟩) 2 2),
  (⟨[109, 111, 100], -1, 2, [3]⟩, ⟨#[105, 110, 116, 32, 42, 32, 105, 110, 116, 32, 45, 62, 32, 105, 110, 116]⟩, .slice (some ⟨S + 1, 0, none⟩) 1 1),
  (⟨[113, 117, 111, 116], -1, 2, [3, 6]⟩, ⟨#[105, 110, 116, 32, 42, 32, 105, 110, 116, 32, 45, 62, 32, 105, 110, 116]⟩, .slice (some ⟨S + 2, 0, none⟩) 2 2),
  (⟨[114, 101, 109], -1, 2, [3]⟩, ⟨#[105, 110, 116, 32, 42, 32, 105, 110, 116, 32, 45, 62, 32, 105, 110, 116]⟩, .slice (some ⟨S + 3, 0, none⟩) 1 1),
  (⟨[47], -1, 2, []⟩, ⟨#[114, 101, 97, 108, 32, 42, 32, 114, 101, 97, 108, 32, 45, 62, 32, 114, 101, 97, 108]⟩, .slice none 0 0),
  (⟨[102, 108, 111, 111, 114], -1, 1, [4, 6]⟩, ⟨#[114, 101, 97, 108, 32, 45, 62, 32, 105, 110, 116]⟩, .slice (some ⟨S + 4, 0, none⟩) 2 2),
  (⟨[99, 101, 105, 108], -1, 1, [4, 6]⟩, ⟨#[114, 101, 97, 108, 32, 45, 62, 32, 105, 110, 116]⟩, .slice (some ⟨S + 5, 0, none⟩) 2 2),
  (⟨[116, 114, 117, 110, 99], -1, 1, [4, 6]⟩, ⟨#[114, 101, 97, 108, 32, 45, 62, 32, 105, 110, 116]⟩, .slice (some ⟨S + 6, 0, none⟩) 2 2),
  (⟨[114, 111, 117, 110, 100], -1, 1, [4, 6]⟩, ⟨#[114, 101, 97, 108, 32, 45, 62, 32, 105, 110, 116]⟩, .slice (some ⟨S + 7, 0, none⟩) 2 2),
  (⟨[114, 101, 97, 108], -1, 1, []⟩, ⟨#[105, 110, 116, 32, 45, 62, 32, 114, 101, 97, 108]⟩, .slice none 0 0),
  (⟨[115, 97, 109, 101], -1, 2, []⟩, ⟨#[114, 101, 97, 108, 32, 42, 32, 114, 101, 97, 108, 32, 45, 62, 32, 98, 111, 111, 108]⟩, .slice none 0 0),
  (⟨[105, 115, 78, 97, 110], -1, 1, []⟩, ⟨#[114, 101, 97, 108, 32, 45, 62, 32, 98, 111, 111, 108]⟩, .slice none 0 0),
  (⟨[114, 101, 97, 108, 84, 101, 120, 116], -1, 1, []⟩, ⟨#[114, 101, 97, 108, 32, 45, 62, 32, 115, 116, 114, 105, 110, 103]⟩, .slice none 0 0),
  (⟨[105, 110, 116, 84, 101, 120, 116], -1, 1, []⟩, ⟨#[105, 110, 116, 32, 45, 62, 32, 115, 116, 114, 105, 110, 103]⟩, .slice none 0 0),
  (⟨[105, 110, 116, 83, 99, 97, 110], -1, 1, [6]⟩, ⟨#[115, 116, 114, 105, 110, 103, 32, 45, 62, 32, 105, 110, 116, 32, 42, 32, 105, 110, 116]⟩, .slice (some ⟨S + 8, 0, none⟩) 1 1),
  (⟨[114, 101, 97, 108, 83, 99, 97, 110], -1, 1, []⟩, ⟨#[115, 116, 114, 105, 110, 103, 32, 45, 62, 32, 114, 101, 97, 108, 32, 42, 32, 105, 110, 116]⟩, .slice none 0 0),
  (⟨[111, 114, 100], -1, 1, []⟩, ⟨#[99, 104, 97, 114, 32, 45, 62, 32, 105, 110, 116]⟩, .slice none 0 0),
  (⟨[99, 104, 114], -1, 1, [2]⟩, ⟨#[105, 110, 116, 32, 45, 62, 32, 99, 104, 97, 114]⟩, .slice (some ⟨S + 9, 0, none⟩) 1 1),
  (⟨[94], -1, 2, [7]⟩, ⟨#[115, 116, 114, 105, 110, 103, 32, 42, 32, 115, 116, 114, 105, 110, 103, 32, 45, 62, 32, 115, 116, 114, 105, 110, 103]⟩, .slice (some ⟨S + 10, 0, none⟩) 1 1),
  (⟨[115, 105, 122, 101], -1, 1, []⟩, ⟨#[115, 116, 114, 105, 110, 103, 32, 45, 62, 32, 105, 110, 116]⟩, .slice none 0 0),
  (⟨[115, 117, 98], -1, 2, [8]⟩, ⟨#[115, 116, 114, 105, 110, 103, 32, 42, 32, 105, 110, 116, 32, 45, 62, 32, 99, 104, 97, 114]⟩, .slice (some ⟨S + 11, 0, none⟩) 1 1),
  (⟨[115, 117, 98, 115, 116, 114, 105, 110, 103], -1, 3, [8]⟩, ⟨#[115, 116, 114, 105, 110, 103, 32, 42, 32, 105, 110, 116, 32, 42, 32, 105, 110, 116, 32, 45, 62, 32, 115, 116, 114, 105, 110, 103]⟩, .slice (some ⟨S + 12, 0, none⟩) 1 1),
  (⟨[115, 116, 114], -1, 1, []⟩, ⟨#[99, 104, 97, 114, 32, 45, 62, 32, 115, 116, 114, 105, 110, 103]⟩, .slice none 0 0),
  (⟨[61], -1, 2, []⟩, ⟨#[39, 39, 97, 32, 42, 32, 39, 39, 97, 32, 45, 62, 32, 98, 111, 111, 108]⟩, .slice none 0 0),
  (⟨[60, 62], -1, 2, []⟩, ⟨#[39, 39, 97, 32, 42, 32, 39, 39, 97, 32, 45, 62, 32, 98, 111, 111, 108]⟩, .slice none 0 0),
  (⟨[114, 101, 102], -1, 1, []⟩, ⟨#[39, 97, 32, 45, 62, 32, 39, 97, 32, 114, 101, 102]⟩, .slice none 0 0),
  (⟨[33], -1, 1, []⟩, ⟨#[39, 97, 32, 114, 101, 102, 32, 45, 62, 32, 39, 97]⟩, .slice none 0 0),
  (⟨[58, 61], -1, 2, []⟩, ⟨#[39, 97, 32, 114, 101, 102, 32, 42, 32, 39, 97, 32, 45, 62, 32, 117, 110, 105, 116]⟩, .slice none 0 0),
  (⟨[97, 114, 114, 97, 121], -1, 2, [7]⟩, ⟨#[105, 110, 116, 32, 42, 32, 39, 97, 32, 45, 62, 32, 39, 97, 32, 97, 114, 114, 97, 121]⟩, .slice (some ⟨S + 13, 0, none⟩) 1 1),
  (⟨[108, 101, 110, 103, 116, 104], -1, 1, []⟩, ⟨#[39, 97, 32, 97, 114, 114, 97, 121, 32, 45, 62, 32, 105, 110, 116]⟩, .slice none 0 0),
  (⟨[103, 101, 116], -1, 2, [8]⟩, ⟨#[39, 97, 32, 97, 114, 114, 97, 121, 32, 42, 32, 105, 110, 116, 32, 45, 62, 32, 39, 97]⟩, .slice (some ⟨S + 14, 0, none⟩) 1 1),
  (⟨[115, 101, 116], -1, 3, [8]⟩, ⟨#[39, 97, 32, 97, 114, 114, 97, 121, 32, 42, 32, 105, 110, 116, 32, 42, 32, 39, 97, 32, 45, 62, 32, 117, 110, 105, 116]⟩, .slice (some ⟨S + 15, 0, none⟩) 1 1),
  (⟨[112, 114, 105, 110, 116], -1, 1, []⟩, ⟨#[115, 116, 114, 105, 110, 103, 32, 45, 62, 32, 117, 110, 105, 116]⟩, .slice none 0 0),
  (⟨[105, 110, 112, 117, 116], -1, 1, []⟩, ⟨#[117, 110, 105, 116, 32, 45, 62, 32, 115, 116, 114, 105, 110, 103]⟩, .slice none 0 0),
  (⟨[101, 120, 110], -1, 1, []⟩, ⟨#[115, 116, 114, 105, 110, 103, 32, 45, 62, 32, 101, 120, 110]⟩, .slice none 0 0)]
def restVs (S : Nat) : List Value := (restRows S).map fun x => .agg (prCells x.1 x.2.1 x.2.2).toArray
def restCells (S : Nat) : List Value := (restRows S).flatMap fun x => prCells x.1 x.2.1 x.2.2
def restObjs (S : Nat) : List Obj := [.cells #[.int .i64 3, .int .i64 6] 3, .cells #[.int .i64 3] 3, .cells #[.int .i64 3, .int .i64 6] 3, .cells #[.int .i64 3] 3, .cells #[.int .i64 4, .int .i64 6] 3, .cells #[.int .i64 4, .int .i64 6] 3, .cells #[.int .i64 4, .int .i64 6] 3, .cells #[.int .i64 4, .int .i64 6] 3, .cells #[.int .i64 6] 3, .cells #[.int .i64 2] 3, .cells #[.int .i64 7] 3, .cells #[.int .i64 8] 3, .cells #[.int .i64 8] 3, .cells #[.int .i64 7] 3, .cells #[.int .i64 8] 3, .cells #[.int .i64 8] 3, .cells (restCells S).toArray 70]
set_option maxRecDepth 100000 in
theorem rest_size (S : Nat) : (restCells S).length = 35 * 5 := rfl
theorem flat_cells : ∀ l : List (Pr × ByteArray × Value), ((l.map fun x => Value.agg (prCells x.1 x.2.1 x.2.2).toArray).flatMap fun v => v.cells.toList) = l.flatMap fun x => prCells x.1 x.2.1 x.2.2
  | [] => rfl
  | x :: l => by rw [List.map_cons, List.flatMap_cons, List.flatMap_cons, flat_cells l]; rfl
theorem rest_fill (S : Nat) (parts : List (Nat × Value)) (cells : Array Value) (h : parts = ((restVs S).zipIdx 0).map fun x => (x.2, x.1)) (hn : cells.size = 175) : Instr.fill (fun i => some (i * 5, 5)) cells parts = some (restCells S).toArray := by
  have hl : (restVs S).length * 5 = cells.size := by rw [hn]; rfl
  rw [h, Great.fill_whole (by decide) (restVs S) cells (fun v hv => ?_) hl]
  · unfold restVs restCells; rw [flat_cells]
  · obtain ⟨x, _, rfl⟩ := List.mem_map.1 hv; rfl
theorem rest_one (S : Nat) : ∀ u ∈ restCells S, u.oneCell' = true := by
  intro u hu
  obtain ⟨x, hx, h⟩ := List.mem_flatMap.1 hu
  have h2 : ∀ x ∈ restRows S, x.2.2.oneCell' = true := by simp [restRows, Value.oneCell']
  have := h2 x hx
  simp only [prCells, List.mem_cons, List.not_mem_nil, or_false] at h
  rcases h with rfl | rfl | rfl | rfl | rfl <;> first | rfl | exact this
set_option maxRecDepth 100000 in
theorem rest_PX {wr w' : World} {row : Option Nat} (hgr : (allocs wr (restObjs wr.heap.size)).grownBy w' row) (hr : ∀ k, row = some k → k < wr.heap.size) : PX (IV w' w'.heap.size) (restCells wr.heap.size) restTab :=
  PX.cons' (raise_IV (j := 0) (l := [3, 6]) rfl hgr hr (by decide)) (.cons' (raise_IV (j := 1) (l := [3]) rfl hgr hr (by decide)) (.cons' (raise_IV (j := 2) (l := [3, 6]) rfl hgr hr (by decide)) (.cons' (raise_IV (j := 3) (l := [3]) rfl hgr hr (by decide)) (.cons' (nil_IV _ _) (.cons' (raise_IV (j := 4) (l := [4, 6]) rfl hgr hr (by decide)) (.cons' (raise_IV (j := 5) (l := [4, 6]) rfl hgr hr (by decide)) (.cons' (raise_IV (j := 6) (l := [4, 6]) rfl hgr hr (by decide)) (.cons' (raise_IV (j := 7) (l := [4, 6]) rfl hgr hr (by decide)) (.cons' (nil_IV _ _) (.cons' (nil_IV _ _) (.cons' (nil_IV _ _) (.cons' (nil_IV _ _) (.cons' (nil_IV _ _) (.cons' (raise_IV (j := 8) (l := [6]) rfl hgr hr (by decide)) (.cons' (nil_IV _ _) (.cons' (nil_IV _ _) (.cons' (raise_IV (j := 9) (l := [2]) rfl hgr hr (by decide)) (.cons' (raise_IV (j := 10) (l := [7]) rfl hgr hr (by decide)) (.cons' (nil_IV _ _) (.cons' (raise_IV (j := 11) (l := [8]) rfl hgr hr (by decide)) (.cons' (raise_IV (j := 12) (l := [8]) rfl hgr hr (by decide)) (.cons' (nil_IV _ _) (.cons' (nil_IV _ _) (.cons' (nil_IV _ _) (.cons' (nil_IV _ _) (.cons' (nil_IV _ _) (.cons' (nil_IV _ _) (.cons' (raise_IV (j := 13) (l := [7]) rfl hgr hr (by decide)) (.cons' (nil_IV _ _) (.cons' (raise_IV (j := 14) (l := [8]) rfl hgr hr (by decide)) (.cons' (raise_IV (j := 15) (l := [8]) rfl hgr hr (by decide)) (.cons' (nil_IV _ _) (.cons' (nil_IV _ _) (.cons' (nil_IV _ _) .nil))))))))))))))))))))))))))))))))))
theorem prims_end {w wr w' : World} {g G : Nat} {cs ys : List Value} {l v' : Value} (H : PrL w g G cs 26 ys (recTab 0 [6] ++ recTab 1 [] ++ ordTab 2 ++ ordTab 3) l wr)
    (ho : w'.ownsRow g 70 5 v' (26 + 35) (ys ++ restCells wr.heap.size)) (hgr : (allocs wr (restObjs wr.heap.size)).grownBy w' l.ownBlock) :
    PV w' w'.heap.size v' primTab ∧ Below w.heap.size w w' := by
  have hr : ∀ k, l.ownBlock = some k → k < wr.heap.size := fun k hk => (World.ownsRow.lt H.own k hk).2
  have hr' : ∀ k, l.ownBlock = some k → g ≤ k := fun k hk => (World.ownsRow.lt H.own k hk).1
  have hs := allocs_size (restObjs wr.heap.size) wr
  have hg := H.hg
  have hb0 := allocs_below (restObjs wr.heap.size) wr
  have hb : Below g wr w' := (hb0.mono (by omega)).grown hgr (by omega) hr'
  have hsz := hb.size
  have hpx := (H.px.mono (Q' := IV w' w'.heap.size) (fun v l h => (h.keep (fun q hq => hb.cell hq)).more (by omega))).app (rest_PX hgr hr)
  refine ⟨?_, H.bel.trans (hb.mono (by have := H.hw; omega))⟩
  have hT : recTab 0 [6] ++ recTab 1 [] ++ ordTab 2 ++ ordTab 3 ++ restTab = primTab := by unfold primTab; simp only [List.append_assoc]
  rw [hT] at hpx
  rcases ho.2 with ⟨_, h0⟩ | ⟨gg, cap, cur, rfl, hbb, hh, hnc, hcm, hcs, htake⟩
  · omega
  · refine ⟨⟨gg, 0, none⟩, ys ++ restCells wr.heap.size, cap, rfl, hnc, hcm, (World.ownsRow.lt ho gg rfl).2, hpx, fun j u hu => ?_⟩
    exact ho.cells (g := gg) rfl j u hu
theorem wp_buildSlice_at {P : Program} {o : Oper} {a : Act} {w : World} {K : Act → World → Prop} {Q : Exit → Act → World → Prop} (t e : TypeId) (len : Nat) (parts : Array (Nat × Operand)) (ho : o.op = .buildSlice t len parts)
    (cells : Array Value) (ie : TypeInfo) (z : Value) (N : Nat) (hN : w.heap.size = N)
    (hu : P.underlying t = some (.slice e)) (hie : P.info? e = some ie) (hz : ie.zero = some z) (hsmall : ¬ len * ie.size > 2 ^ 24) (hpos : ¬ len * ie.size = 0)
    (hf : Instr.fill (fun i => some (i * ie.size, ie.size)) ((Array.range (len * ie.size)).map (z.cells[· % z.cells.size]!)) (parts.map fun (i, x) => (i, a.eval x)).toList = some cells)
    (h : K (a.put o.dst (.slice (some ⟨N, 0, none⟩) len len)) (w.alloc (.cells cells e))) : o.wp P a w K Q := by
  subst hN
  exact wp_buildSlice t e len parts ho cells ie z hu hie hz hsmall hpos hf h
set_option maxRecDepth 100000 in
set_option maxHeartbeats 4000000 in
theorem prims_any (w : World) : Calls Tryz.prog 9 #[] w fun e w' => ∃ v, e = .returned v ∧ PV w' w'.heap.size v primTab ∧ Below w.heap.size w w' := by
  obtain ⟨i0, hi0, hz0, hz1, hz2⟩ := info_parts infoP
  have HRC := Lib.hid (fun con T ra rn rc w hT => recs_any con T ra rn rc w hT)
  have HIV := Lib.hid (one_IV w 6)
  have hmx : maxLen = 9223372036854775807 := rfl
  have HMX := Lib.hid hmx
  clear hmx
  go_enter Tryz.func9, Tryz.ntmps9
  go_wp2_with fail
  go_at_call 26
  (with_reducible refine (HRC.out _ _ _ _ _ _ (by decide)).mono ?_)
  rintro e w1 ⟨T1, T2, T3, rfl, ho1, hb1, hs1⟩
  have hs0 : (w.alloc (.cells #[.int .i64 6] 3)).heap.size = w.heap.size + 1 := by simp
  have HP1 := Lib.hid (recTab_PX (Q := IV w1 (w.heap.size + 1)) 0 T1 T2 T3 _ [6] (HIV.out.keep (fun p hp => hb1.cell (by rw [hs0]; exact hp))) (nil_IV _ _))
  have HB1 : Hid (Below w.heap.size w w1) := Lib.hid (((Below.refl _ _).alloc (Nat.le_refl _) _).trans (hb1.mono (by rw [hs0]; omega)))
  rw [hs0] at ho1 hs1
  obtain ⟨g, hg⟩ : ∃ g, w.heap.size + 1 = g := ⟨_, rfl⟩
  rw [hs0, hg]
  rw [hg] at ho1 hs1 HP1
  have hg1 : g < w1.heap.size := by omega
  generalize recCells 0 T1 T2 T3 (Value.slice (some ⟨w.heap.size, 0, none⟩) 1 1) = xs1 at ho1 HP1
  have HO1 := Lib.hid ho1
  have HG := Lib.hid hg
  clear ho1 hb1 hs0 hs1 HIV hg
  go_wp2_with fail
  go_at_call 26
  (with_reducible refine (HRC.out _ _ _ _ _ _ (by decide)).mono ?_)
  rintro e w2 ⟨U1, U2, U3, rfl, ho2, hb2, hs2⟩
  have HO2 := Lib.hid (ownsRow_below HO1.out hb2)
  have HR2 := Lib.hid (Reads.of_own ho2)
  have HP2 := Lib.hid ((HP1.out.mono (Q' := IV w2 g) (fun v l h => h.keep (fun p hp => hb2.cell (by omega)))).app (recTab_PX (Q := IV w2 g) 1 U1 U2 U3 _ [] (nil_IV _ _) (nil_IV _ _)))
  have HB2 := Lib.hid (HB1.out.trans (hb2.mono HB1.out.size))
  have hg2 : w1.heap.size < w2.heap.size := by omega
  have HN2 := Lib.hid (rec_one 1 U1 U2 U3 none 0 0)
  clear ho2 hb2 hs2 HO1 HP1 HB1
  generalize recCells 1 U1 U2 U3 (Value.slice none 0 0) = xs2 at *
  go_wp2_with (at_builtin; go_must (refine wpList_append_any _ rfl _ _ 37 rfl g 70 i0 _ 5 72 undP hi0 hz0 hz1 hz2 rfl (by decide) _ _ _ rfl HO2.out w2.heap.size _ _ _ _ rfl HR2.out HN2.out (by rw [HMX.out]; decide) (by decide) (by omega) ?_))
  intro v3 w3 ho3 hgr3 hor3
  have hb3 := (Below.refl g w2).grown hgr3 (by omega) (fun j hj => (World.ownsRow.lt HO2.out j hj).1)
  have HO3 := Lib.hid ho3
  have HP3 := Lib.hid (HP2.out.mono (Q' := IV w3 g) (fun v l h => h.keep (fun p hp => hb3.cell hp)))
  have HB3 := Lib.hid (HB2.out.trans (hb3.mono (by have := HG.out; omega)))
  have hg3 : g < w3.heap.size := by have := hgr3.size; omega
  clear ho3 hgr3 hor3 hb3 HO2 HP2 HB2 HR2 HN2 hg2 hg1
  generalize xs1 ++ xs2 = ys3 at *
  go_wp2_with fail
  go_at_call 26
  (with_reducible refine (HRC.out _ _ _ _ _ _ (by decide)).mono ?_)
  rintro e w4 ⟨V1, V2, V3, rfl, ho4, hb4, hs4⟩
  have HO4 := Lib.hid (ownsRow_below HO3.out hb4)
  have HC4 := Lib.hid (fun j u => ho4.cells (g := w3.heap.size) rfl j u)
  have HP4 := Lib.hid (HP3.out.mono (Q' := IV w4 g) (fun v l h => h.keep (fun p hp => hb4.cell (by omega))))
  have HB4 := Lib.hid (HB3.out.trans (hb4.mono HB3.out.size))
  have hg4 : g < w4.heap.size := by omega
  have hne : v3.ownBlock ≠ some w3.heap.size := fun h => by have := (World.ownsRow.lt HO3.out _ h).2; omega
  obtain ⟨G, hG⟩ : ∃ G, w3.heap.size = G := ⟨_, rfl⟩
  rw [hG] at hne HC4 ⊢
  have hG4 : G < w4.heap.size := by omega
  have HNE := Lib.hid hne
  clear ho4 hb4 hs4 HO3 HP3 HB3 hne hG hg3
  have HL0 : Hid (PrL w g G (recCells 2 V1 V2 V3 (.slice none 0 0)) 18 ys3 (recTab 0 [6] ++ recTab 1 []) v3 w4) := Lib.hid ⟨HO4.out, HP4.out, HB4.out, HNE.out, hG4, hg4, (by have := HG.out; omega), HC4.out⟩
  have HCE := Lib.hid (fun k (hk : k < 4) => ord_cell V1 V2 V3 2 hk)
  generalize recCells 2 V1 V2 V3 (Value.slice none 0 0) = cs at *
  clear HO4 HP4 HB4 HNE HC4 hG4 hg4
  go_wp2_with fail
  go_loopw [1, 14] (fun l ix wr => ∃ (k : Nat) (ys : List Value), k ≤ 4 ∧ ix = .int .i64 (k : Int) ∧ Hid (PrL w g G cs (18 + k) ys ((recTab 0 [6] ++ recTab 1 []) ++ (ordTab 2).take k) l wr)) (fun _ i _ => 4 - (intOf i).toNat)
  case atStart => exact ⟨0, ys3, by omega, rfl, by simpa using HL0⟩
  case round =>
    obtain ⟨k, ys, hk, rfl, HL⟩ := hrel
    rcases Nat.lt_or_ge k 4 with hlt | hge
    · have hm1 : (k : Int) < 4 := by omega
      obtain ⟨p, hp, hpr, hc⟩ := HCE.out k hlt
      have hcc : ∀ j u, j < 5 → (prCells p V3 (.slice none 0 0))[j]? = some u → wr.cell? ⟨G, 25 + k * 5 + j, none⟩ = some u := fun j u hj hu => by
        have := HL.out.cell (25 + k * 5 + j) u (by rw [hc j hj]; exact hu)
        rwa [show (⟨G, 0, none⟩ : Addr).add (25 + k * 5 + j) = ⟨G, 25 + k * 5 + j, none⟩ by unfold Addr.add; split <;> simp_all] at this
      have k0 : wr.cell? ⟨G, 25 + k * 5, none⟩ = _ := hcc 0 _ (by omega) rfl
      have k1 := hcc 1 _ (by omega) rfl
      have k2 := hcc 2 _ (by omega) rfl
      have k3 := hcc 3 _ (by omega) rfl
      have k4 := hcc 4 _ (by omega) rfl
      have HSR := Lib.hid (HL.out.src p V3)
      clear hcc hc
      unfold prCells at HSR
      go_wp2_with (at_builtin; go_must (refine wpList_append_any _ rfl _ _ 37 rfl g 70 i0 _ 5 72 undP hi0 hz0 hz1 hz2 rfl (by decide) _ _ _ rfl ((HL.out.own.alloc _).alloc _) _ _ _ _ _ rfl (HSR.out _) (by simp [Value.oneCell']) (by rw [HMX.out]; omega) (by omega) (by have := HL.out.hg; simp; omega) ?_))
      intro v5 w5 ho5 hgr5 hor5
      have HL5 := Lib.hid (HL.out.step (p := p) (ty := V3) _ _ ho5 hgr5 hor5 hpr)
      have HE := Lib.hid (show (ordTab 2).take (k + 1) = (ordTab 2).take k ++ [p] by rw [List.take_add_one, hp]; rfl)
      clear ho5 hgr5 hor5 HSR k0 k1 k2 k3 k4 hp hpr
      go_wp2_with fail
      go_roundw
      case rel => exact ⟨k + 1, _, by omega, by go_num, by rw [HE.out, ← List.append_assoc]; exact HL5⟩
      case measure => simp [intOf]; omega
    · obtain rfl : k = 4 := by omega
      have q : (4 : Int) ≤ ((4 : Nat) : Int) := by decide
      have HL3 := Lib.hid (show PrL w g G cs 22 ys ((recTab 0 [6] ++ recTab 1 []) ++ ordTab 2) u1 wr from HL.out)
      clear hge hk HL HCE HL0
      go_wp2_with fail
      go_at_call 26
      (with_reducible refine (HRC.out _ _ _ _ _ _ (by decide)).mono ?_)
      rintro e w6 ⟨X1, X2, X3, rfl, ho6, hb6, hs6⟩
      have HL0 := Lib.hid (HL3.out.next hb6 hs6 ho6)
      obtain ⟨G2, hG2⟩ : ∃ G, wr.heap.size = G := ⟨_, rfl⟩
      rw [hG2] at HL0 ⊢
      clear ho6 hb6 hs6 hG2 HL3
      have HCE := Lib.hid (fun k (hk : k < 4) => ord_cell X1 X2 X3 3 hk)
      generalize recCells 3 X1 X2 X3 (Value.slice none 0 0) = cs2 at *
      go_wp2_with fail
      go_loopw [1, 26] (fun l ix wr => ∃ (k : Nat) (ys : List Value), k ≤ 4 ∧ ix = .int .i64 (k : Int) ∧ Hid (PrL w g G2 cs2 (22 + k) ys ((recTab 0 [6] ++ recTab 1 [] ++ ordTab 2) ++ (ordTab 3).take k) l wr)) (fun _ i _ => 4 - (intOf i).toNat)
      case atStart => exact ⟨0, ys, by omega, rfl, by simpa using HL0⟩
      case round =>
        obtain ⟨k, ys, hk, rfl, HL⟩ := hrel
        rcases Nat.lt_or_ge k 4 with hlt | hge
        · have hm1 : (k : Int) < 4 := by omega
          obtain ⟨p, hp, hpr, hc⟩ := HCE.out k hlt
          have hcc : ∀ j u, j < 5 → (prCells p X3 (.slice none 0 0))[j]? = some u → wr.cell? ⟨G2, 25 + k * 5 + j, none⟩ = some u := fun j u hj hu => by
            have := HL.out.cell (25 + k * 5 + j) u (by rw [hc j hj]; exact hu)
            rwa [show (⟨G2, 0, none⟩ : Addr).add (25 + k * 5 + j) = ⟨G2, 25 + k * 5 + j, none⟩ by unfold Addr.add; split <;> simp_all] at this
          have k0 : wr.cell? ⟨G2, 25 + k * 5, none⟩ = _ := hcc 0 _ (by omega) rfl
          have k1 := hcc 1 _ (by omega) rfl
          have k2 := hcc 2 _ (by omega) rfl
          have k3 := hcc 3 _ (by omega) rfl
          have k4 := hcc 4 _ (by omega) rfl
          have HSR := Lib.hid (HL.out.src p X3)
          clear hcc hc
          unfold prCells at HSR
          go_wp2_with (at_builtin; go_must (refine wpList_append_any _ rfl _ _ 37 rfl g 70 i0 _ 5 72 undP hi0 hz0 hz1 hz2 rfl (by decide) _ _ _ rfl ((HL.out.own.alloc _).alloc _) _ _ _ _ _ rfl (HSR.out _) (by simp [Value.oneCell']) (by rw [HMX.out]; omega) (by omega) (by have := HL.out.hg; simp; omega) ?_))
          intro v5 w5 ho5 hgr5 hor5
          have HL5 := Lib.hid (HL.out.step (p := p) (ty := X3) _ _ ho5 hgr5 hor5 hpr)
          have HE := Lib.hid (show (ordTab 3).take (k + 1) = (ordTab 3).take k ++ [p] by rw [List.take_add_one, hp]; rfl)
          clear ho5 hgr5 hor5 HSR k0 k1 k2 k3 k4 hp hpr
          go_wp2_with fail
          go_roundw
          case rel => exact ⟨k + 1, _, by omega, by go_num, by rw [HE.out, ← List.append_assoc]; exact HL5⟩
          case measure => simp [intOf]; omega
        · obtain rfl : k = 4 := by omega
          have q : (4 : Int) ≤ ((4 : Nat) : Int) := by decide
          have HL3 := Lib.hid (show PrL w g G2 cs2 26 ys ((recTab 0 [6] ++ recTab 1 [] ++ ordTab 2) ++ ordTab 3) u1 wr from HL.out)
          clear hge hk HL HCE HL0
          have HSR := Lib.hid (Reads.blk' (allocs_blk (restObjs wr.heap.size) wr 16 _ _ rfl) (rest_size wr.heap.size))
          have HOW := Lib.hid (ownsRow_allocs (restObjs wr.heap.size) HL3.out.own)
          have HON := Lib.hid (rest_one wr.heap.size)
          have HPE := Lib.hid (fun w' v' => prims_end (w' := w') (v' := v') HL3.out)
          have hsz := HL3.out.hg
          simp only [restObjs, allocs] at HSR HOW HPE
          go_wp2_with fail
          refine wp_buildSlice_at _ _ _ _ rfl _ i0 _ (wr.heap.size + 16) (by simp) undP hi0 hz0 (by rw [hz1]; decide) (by rw [hz1]; decide) (by rw [hz1]; exact rest_fill wr.heap.size _ _ (by rw [Array.toList_map]; rfl) (by simp)) ?_
          generalize restCells wr.heap.size = rc at *
          go_wp2_with (at_builtin; go_must (refine wpList_append_any _ rfl _ _ 37 rfl g 70 i0 _ 5 72 undP hi0 hz0 hz1 hz2 rfl (by decide) _ _ _ rfl HOW.out _ _ _ _ _ rfl HSR.out HON.out (by rw [HMX.out]; decide) (by decide) (by simp; omega) ?_))
          intro v7 w7 ho7 hgr7 _
          have HE := Lib.hid (HPE.out w7 v7 ho7 hgr7)
          clear ho7 hgr7 HSR HOW HON HPE
          go_wp2_with fail
          go_ret
          exact ⟨_, rfl, HE.out.1, HE.out.2⟩

end Go.Proofs.YtjhdlnllhjffkaaGreatDoor
