/- Words for memory: a slice that reads as a list, a block known whole, an append onto a row of the call's own, frames. Lambda: how programs lie in memory; small laws for the walks. Cps: how programs lie in memory. -/
import Derived.Below
import Derived.Laws.OwnMore
import Derived.Deep.AppendLies
import Derived.Deep.Draws
import Derived.Laws.Rows
import Derived.Maps.AppendAt
import Derived.RegionTactic
import Derived.OwnWalk
import Derived.Deep.OwnRows
import Derived.Laws.AppendOwn
import Derived.Deep.QuietTactic
import Derived.Test.YtjhdlnllhjffkaaGreatDoorCloMa
import Derived.WalkKit
import Derived.WalkSpells
import Derived.WalkLawsBesides
import Derived.Handy
import Derived.Laws.Externs
import Derived.Lib.Hide
import Derived.IntWalk
import Derived.BigQuiet
import Derived.WalkMore
import Derived.Deep.LoopGhost
namespace Go.Proofs.YtjhdlnllhjffkaaGreatDoor
open Go.RowKit

theorem block_of_add (a : Addr) (n : Nat) : (a.add n).block = a.block := by unfold Addr.add; split <;> rfl
theorem add_of_add (a : Addr) (i j : Nat) : (a.add i).add j = a.add (i + j) := by
  unfold Addr.add
  by_cases hi : i = 0 <;> by_cases hj : j = 0 <;> simp [hi, hj, Nat.add_assoc]

def Reads (w : World) (B size : Nat) (A : Option Addr) (n : Nat) (xs : List Value) : Prop :=
  xs.length = n * size ∧ (0 < n → ∃ ad, A = some ad ∧ ad.block < B ∧ ∀ j u, xs[j]? = some u → w.cell? (ad.add j) = some u)

section
variable {w w' : World} {B B' size n : Nat} {A : Option Addr} {xs : List Value}
theorem Reads.none_ : Reads w B size A 0 [] := ⟨by simp, fun h => absurd h (by omega)⟩
theorem Reads.at_ {k : Nat} (h : Reads w B 1 A n xs) (hk : k < n) : ∃ ad u, A = some ad ∧ ad.block < B ∧ xs[k]? = some u ∧ w.cell? (ad.add k) = some u := by
  obtain ⟨ad, e, hb, hc⟩ := h.2 (by omega)
  have hl : k < xs.length := by have := h.1; omega
  exact ⟨ad, xs[k], e, hb, List.getElem?_eq_getElem hl, hc k _ (List.getElem?_eq_getElem hl)⟩
theorem Reads.keep (h : Reads w B size A n xs) (hk : ∀ p : Addr, p.block < B → w'.cell? p = w.cell? p) : Reads w' B size A n xs :=
  ⟨h.1, fun hn => by
    obtain ⟨ad, e, hb, hc⟩ := h.2 hn
    exact ⟨ad, e, hb, fun j u hu => (hk _ (by rw [block_of_add]; exact hb)).trans (hc j u hu)⟩⟩
theorem Reads.more (h : Reads w B size A n xs) (hB : B ≤ B') : Reads w B' size A n xs :=
  ⟨h.1, fun hn => by
    obtain ⟨ad, e, hb, hc⟩ := h.2 hn
    exact ⟨ad, e, by omega, hc⟩⟩
theorem Reads.below (h : Reads w B size A n xs) (hb : Below B w w') : Reads w' B size A n xs := h.keep fun _ hp => hb.cell hp
theorem Reads.drew (h : Reads w B size A n xs) : Reads w.drew B size A n xs := h
theorem Reads.drewN (h : Reads w B size A n xs) (k : Nat) : Reads (w.drewN k) B size A n xs := h
theorem Reads.alloc (h : Reads w B size A n xs) (hB : B ≤ w.heap.size) (o : Obj) : Reads (w.alloc o) B size A n xs := h.keep fun p hp => World.cell?_alloc_lt w o p (by omega)
theorem Reads.setCell (h : Reads w B size A n xs) {p : Addr} (hB : B ≤ p.block) (u : Value) : Reads (w.setCell p u) B size A n xs :=
  h.keep fun q hq => World.cell?_setCell_other w p q u (fun e => by subst e; omega)
theorem Reads.grown (h : Reads w B size A n xs) {row : Option Nat} (hg : w.grownBy w' row) (hB : B ≤ w.heap.size) (hr : ∀ g, row = some g → B ≤ g) : Reads w' B size A n xs :=
  h.keep fun p hp => World.cell?_of_block (hg.block p.block (by omega) (fun e => by have := hr _ e.symm; omega))
theorem Reads.cut (h : Reads w B size A n xs) {k cap : Nat} (hk : k ≤ n) (hc : n ≤ cap) :
    Reads w B size (if cap = k then A else A.map (·.add (k * size))) (n - k) (xs.drop (k * size)) := by
  refine ⟨by rw [List.length_drop, h.1, Nat.sub_mul], fun hn => ?_⟩
  obtain ⟨ad, rfl, hb, hcell⟩ := h.2 (by omega)
  rw [if_neg (by omega)]
  refine ⟨ad.add (k * size), rfl, by rw [block_of_add]; exact hb, fun j u hu => ?_⟩
  rw [add_of_add]
  exact hcell _ u (by rw [← hu, List.getElem?_drop])
theorem Reads.of_own {base : Nat} {e : TypeId} {c : Nat} (h : w.ownsRow base e size (.slice A n c) n xs) : Reads w w.heap.size size A n xs := by
  refine ⟨h.1, fun hn => ?_⟩
  obtain ⟨g, cap, hv, _, hlt⟩ := h.form hn
  have hA : A = some ⟨g, 0, none⟩ := by injection hv
  subst hA
  exact ⟨_, rfl, hlt, h.cells (g := g) rfl⟩
end

def Blk (w : World) (g : Nat) (t : TypeId) (cs : Array Value) : Prop := w.heap[g]? = some (.cells cs t (0, 0))

section
variable {w w' : World} {g : Nat} {t : TypeId} {cs : Array Value}
theorem Blk.lt (h : Blk w g t cs) : g < w.heap.size := by
  rcases Nat.lt_or_ge g w.heap.size with hlt | hge
  · exact hlt
  · unfold Blk at h; rw [Array.getElem?_eq_none hge] at h; cases h
theorem Blk.cell (h : Blk w g t cs) (i : Nat) : w.cell? ⟨g, i, none⟩ = cs[i]? := cell_of_row w g i cs t (0, 0) h
theorem Blk.frozen (h : Blk w g t cs) (i : Nat) : w.frozen? ⟨g, i, none⟩ = false := by
  unfold Blk at h
  simp [World.frozen?, h]
theorem Blk.new (w : World) (t : TypeId) (cs : Array Value) : Blk (w.alloc (.cells cs t)) w.heap.size t cs := heap_alloc_new w _
theorem Blk.drew (h : Blk w g t cs) : Blk w.drew g t cs := h
theorem Blk.drewN (h : Blk w g t cs) (n : Nat) : Blk (w.drewN n) g t cs := h
theorem Blk.alloc (h : Blk w g t cs) (o : Obj) : Blk (w.alloc o) g t cs := (Below.heap_alloc w o g h.lt).trans h
theorem Blk.set_ (h : Blk w g t cs) (i : Nat) (u : Value) : Blk (w.setCell ⟨g, i, none⟩ u) g t (cs.setIfInBounds i u) := by
  unfold Blk at h ⊢
  simp [World.setCell, Array.getElem?_modify, h]
theorem Blk.far (h : Blk w g t cs) {p : Addr} (hp : g ≠ p.block) (u : Value) : Blk (w.setCell p u) g t cs := (Below.heap_setCell w p u g hp).trans h
theorem Blk.below {B : Nat} (h : Blk w g t cs) (hb : Below B w w') (hg : g < B) : Blk w' g t cs := (hb.block g hg).trans h
theorem Blk.grown {row : Option Nat} (h : Blk w g t cs) (hb : w.grownBy w' row) (hg : some g ≠ row) : Blk w' g t cs := (hb.block g h.lt hg).trans h
theorem Blk.ne_ {g' : Nat} {t' : TypeId} {cs' : Array Value} (h : Blk w g t cs) (h' : Blk w g' t' cs') (hne : t ≠ t') : g ≠ g' := by
  rintro rfl
  unfold Blk at h h'
  rw [h] at h'
  injection h' with h'
  injection h' with _ ht
  exact hne ht
theorem own_blk_ne {base : Nat} {e : TypeId} {size n : Nat} {v : Value} {xs : List Value} (h : w.ownsRow base e size v n xs) (hg : Blk w g t cs) (hne : e ≠ t) : v.ownBlock ≠ some g := by
  rcases h.2 with ⟨rfl, _⟩ | ⟨g', cap, cur, rfl, _, hh, _⟩
  · simp [Value.ownBlock]
  · intro he
    have : g' = g := by simpa [Value.ownBlock] using he
    subst this
    exact Blk.ne_ (t := e) hh hg hne rfl
end

section
variable {P : Program} (w : World)

theorem run_append_of_nil (base : Nat) (t ty e : TypeId) (i : TypeInfo) (size : Nat) (ht : P.underlying t = some (.slice e)) (hi : P.info? e = some i)
    (v : Value) (n : Nat) (xs : List Value) (hown : w.ownsRow base e size v n xs) (c : Nat) : (Builtin.append_ #[t, t] ty #[v, .slice none 0 c]).run P w = .ok v w := by
  rcases hown.2 with ⟨rfl, rfl⟩ | ⟨g, cap, cur, rfl, _, _, hnc, _⟩
  · simp [Builtin.append_, run_underlying ht, sizeOf, typeInfo, hi, Builtin.lenOf, Builtin.firstCells]
  · simp [Builtin.append_, run_underlying ht, sizeOf, typeInfo, hi, Builtin.lenOf, Builtin.firstCells, hnc, storeCells]

theorem run_append_any (base : Nat) (t ty e : TypeId) (i : TypeInfo) (z : Value) (size bytes : Nat) (ht : P.underlying t = some (.slice e)) (hi : P.info? e = some i) (hz : i.zero = some z)
    (hsize : i.size = size) (hby : i.bytes = bytes) (hzs : z.cells.size = size) (hsz : 0 < size)
    (v : Value) (n : Nat) (xs : List Value) (hown : w.ownsRow base e size v n xs)
    (B : Nat) (A : Option Addr) (m c : Nat) (news : List Value) (hr : Reads w B size A m news) (h1 : ∀ u ∈ news, u.oneCell' = true)
    (h63 : n + m ≤ maxLen) (hbytes : (n + m) * bytes ≤ 140737488355328) (hbase : base ≤ w.heap.size) :
    ∃ v' w', (Builtin.append_ #[t, t] ty #[v, .slice A m c]).run P w = .ok v' w' ∧ w'.ownsRow base e size v' (n + m) (xs ++ news) ∧ w.grownBy w' v.ownBlock ∧
      (v'.ownBlock = v.ownBlock ∨ v'.ownBlock = some w.heap.size) := by
  rcases A with _ | ad
  · have hm : m = 0 := by
      rcases Nat.eq_zero_or_pos m with h0 | h0
      · exact h0
      · obtain ⟨ad, h, _⟩ := hr.2 h0
        cases h
    subst hm
    have hn : news = [] := List.eq_nil_of_length_eq_zero (by simpa using hr.1)
    subst hn
    exact ⟨v, w, run_append_of_nil w base t ty e i size ht hi v n xs hown c, by simpa using hown, World.grownBy.refl w _, .inl rfl⟩
  · have hcells : ∀ j u, news[j]? = some u → w.cell? (ad.add j) = some u := by
      intro j u hu
      rcases Nat.eq_zero_or_pos m with h0 | h0
      · subst h0
        have hn : news = [] := List.eq_nil_of_length_eq_zero (by simpa using hr.1)
        subst hn
        simp at hu
      · obtain ⟨ad', h, _, hc⟩ := hr.2 h0
        injection h with h
        subst h
        exact hc j u hu
    obtain ⟨v', w', hrun, h2, h3, _, h5⟩ := run_append_own_at (P := P) w base t ty e i z size bytes ht hi hz hsize hby hzs hsz v n xs hown ad m c news hr.1 hcells h1 h63 hbytes hbase
    exact ⟨v', w', hrun, h2, h3, h5⟩

theorem wp_append_any {o : Oper} {a : Act} {K : Act → World → Prop} {Q : Exit → Act → World → Prop} (s x : Operand) (t : TypeId)
    (ho : o.op = .call { callee := .builtin .append, args := #[s, x], argTypes := #[t, t] })
    (base : Nat) (e : TypeId) (i : TypeInfo) (z : Value) (size bytes : Nat) (ht : P.underlying t = some (.slice e)) (hi : P.info? e = some i) (hz : i.zero = some z)
    (hsize : i.size = size) (hby : i.bytes = bytes) (hzs : z.cells.size = size) (hsz : 0 < size)
    (v : Value) (n : Nat) (xs : List Value) (hs : a.eval s = v) (hown : w.ownsRow base e size v n xs)
    (B : Nat) (A : Option Addr) (m c : Nat) (news : List Value) (hx : a.eval x = .slice A m c) (hr : Reads w B size A m news) (h1 : ∀ u ∈ news, u.oneCell' = true)
    (h63 : n + m ≤ maxLen) (hbytes : (n + m) * bytes ≤ 140737488355328) (hbase : base ≤ w.heap.size)
    (h : ∀ v' w', w'.ownsRow base e size v' (n + m) (xs ++ news) → w.grownBy w' v.ownBlock → (v'.ownBlock = v.ownBlock ∨ v'.ownBlock = some w.heap.size) → K (a.put o.dst v') w') : o.wp P a w K Q := by
  obtain ⟨v', w', hrun, h2, h3, h4⟩ := run_append_any (P := P) w base t o.type e i z size bytes ht hi hz hsize hby hzs hsz v n xs hown B A m c news hr h1 h63 hbytes hbase
  unfold Oper.wp execOp
  simp only [ho, resolve, invoke, builtin, Sem.run_bind, Sem.run_pure, Result.andThen_ok, List.map_toArray, List.map_cons, List.map_nil, hs, hx, hrun]
  exact h v' w' h2 h3 h4

theorem wpList_append_any {ops : Array Oper} {rest : List Oper} {o : Oper} {a : Act} {Q : Exit → Act → World → Prop} (hgd : o.guard = none) (s x : Operand) (t : TypeId)
    (ho : o.op = .call { callee := .builtin .append, args := #[s, x], argTypes := #[t, t] })
    (base : Nat) (e : TypeId) (i : TypeInfo) (z : Value) (size bytes : Nat) (ht : P.underlying t = some (.slice e)) (hi : P.info? e = some i) (hz : i.zero = some z)
    (hsize : i.size = size) (hby : i.bytes = bytes) (hzs : z.cells.size = size) (hsz : 0 < size)
    (v : Value) (n : Nat) (xs : List Value) (hs : a.eval s = v) (hown : w.ownsRow base e size v n xs)
    (B : Nat) (A : Option Addr) (m c : Nat) (news : List Value) (hx : a.eval x = .slice A m c) (hr : Reads w B size A m news) (h1 : ∀ u ∈ news, u.oneCell' = true)
    (h63 : n + m ≤ maxLen) (hbytes : (n + m) * bytes ≤ 140737488355328) (hbase : base ≤ w.heap.size)
    (h : ∀ v' w', w'.ownsRow base e size v' (n + m) (xs ++ news) → w.grownBy w' v.ownBlock → (v'.ownBlock = v.ownBlock ∨ v'.ownBlock = some w.heap.size) → wpList P ops Q rest (a.put o.dst v') w') : wpList P ops Q (o :: rest) a w :=
  wpList_plain hgd fun _ hK => wp_append_any w s x t ho base e i z size bytes ht hi hz hsize hby hzs hsz v n xs hs hown B A m c news hx hr h1 h63 hbytes hbase fun v' w' h2 h3 h4 => hK _ _ (h v' w' h2 h3 h4)

theorem step_append_any {ops : Array Oper} {o : Oper} {a : Act} {K : Act → World → Prop} {Q : Exit → Act → World → Prop} {E : Prop} (hgd : o.guard = none) (s x : Operand) (t : TypeId)
    (ho : o.op = .call { callee := .builtin .append, args := #[s, x], argTypes := #[t, t] })
    (base : Nat) (e : TypeId) (i : TypeInfo) (z : Value) (size bytes : Nat) (ht : P.underlying t = some (.slice e)) (hi : P.info? e = some i) (hz : i.zero = some z)
    (hsize : i.size = size) (hby : i.bytes = bytes) (hzs : z.cells.size = size) (hsz : 0 < size)
    (v : Value) (n : Nat) (xs : List Value) (hs : a.eval s = v) (hown : w.ownsRow base e size v n xs)
    (B : Nat) (A : Option Addr) (m c : Nat) (news : List Value) (hx : a.eval x = .slice A m c) (hr : Reads w B size A m news) (h1 : ∀ u ∈ news, u.oneCell' = true)
    (h63 : n + m ≤ maxLen) (hbytes : (n + m) * bytes ≤ 140737488355328) (hbase : base ≤ w.heap.size)
    (h : ∀ v' w', w'.ownsRow base e size v' (n + m) (xs ++ news) → w.grownBy w' v.ownBlock → (v'.ownBlock = v.ownBlock ∨ v'.ownBlock = some w.heap.size) → K (a.put o.dst v') w') :
    if Region.wanted o (yielded ops a.tmps) = true then Oper.wp P o a w K Q else E := by
  have hw : Region.wanted o (yielded ops a.tmps) = true := by simp [Region.wanted, hgd]
  rw [if_pos hw]
  exact wp_append_any w s x t ho base e i z size bytes ht hi hz hsize hby hzs hsz v n xs hs hown B A m c news hx hr h1 h63 hbytes hbase h
end

theorem below_drewN {B : Nat} {a w : World} (h : Below B a w) (n : Nat) : Below B a (w.drewN n) := ⟨h.os, h.tape, h.output, h.size, h.block⟩
theorem rowIs_drewN {w : World} {b : Nat} {t : TypeId} {n : Nat} {f : Nat → Value} (h : w.rowIs b t n f) (k : Nat) : (w.drewN k).rowIs b t n f := h
theorem grown_trans {a b c : World} (h : Grown a b) (k : Grown b c) : Grown a c :=
  ⟨World.keptBut_trans h.1 k.1, fun x => (k.2.1 x).trans (h.2.1 x), Nat.le_trans h.2.2 k.2.2⟩

theorem only_drewN {a w : World} {row : Option Nat} (h : a.grownBy w row) (n : Nat) : a.grownBy (w.drewN n) row := ⟨h.os, h.tape, h.output, h.size, h.block⟩
theorem only_drew {a w : World} {row : Option Nat} (h : a.grownBy w row) : a.grownBy w.drew row := ⟨h.os, h.tape, h.output, h.size, h.block⟩
theorem only_alloc {a w : World} {row : Option Nat} (h : a.grownBy w row) (o : Obj) : a.grownBy (w.alloc o) row :=
  ⟨h.os, h.tape, h.output, Nat.le_trans h.size (by simp), fun i hi hne => (Below.heap_alloc w o i (Nat.lt_of_lt_of_le hi h.size)).trans (h.block i hi hne)⟩
theorem only_setCell {a w : World} {g : Nat} (h : a.grownBy w (some g)) {p : Addr} (hp : p.block = g ∨ a.heap.size ≤ p.block) (u : Value) : a.grownBy (w.setCell p u) (some g) :=
  ⟨h.os, h.tape, h.output, by simpa [World.setCell] using h.size, fun i hi hne => (Below.heap_setCell w p u i (by
    rintro rfl
    rcases hp with hp | hp
    · exact hne (by rw [hp])
    · omega)).trans (h.block i hi hne)⟩
theorem only_of_below {a w : World} (h : Below a.heap.size a w) (row : Option Nat) : a.grownBy w row := ⟨h.os, h.tape, h.output, h.size, fun i hi _ => h.block i hi⟩

theorem quiet_add {P : Program} {f : FuncId} {args : Array Value} {w : World} {a n : Nat} {v : Value}
    (h : Calls P f args (w.drewN (a + n)) fun e w' => e = .returned v ∧ ∃ m, w' = (w.drewN (a + n)).drewN m) :
    Calls P f args (w.drewN (a + n)) fun e w'' => e = .returned v ∧ ∃ m, w'' = w.drewN (a + m) :=
  h.mono fun _ _ ⟨he, m, hm⟩ => ⟨he, n + m, by rw [hm, World.drewN_drewN, Nat.add_assoc]⟩
theorem quiet_add_same {P : Program} {f : FuncId} {args : Array Value} {w : World} {a n : Nat} {v : Value}
    (h : Calls P f args (w.drewN (a + n)) fun e w' => e = .returned v ∧ w' = w.drewN (a + n)) :
    Calls P f args (w.drewN (a + n)) fun e w'' => e = .returned v ∧ ∃ m, w'' = w.drewN (a + m) :=
  h.mono fun _ _ ⟨he, hm⟩ => ⟨he, n, hm⟩
theorem quiet_add_left {P : Program} {f : FuncId} {args : Array Value} {w : World} {a n : Nat} {v : Value}
    (h : Calls P f args (w.drewN (a + n)) fun e w' => e = .returned v ∧ w.drewN (a + n) = w') :
    Calls P f args (w.drewN (a + n)) fun e w'' => e = .returned v ∧ ∃ m, w'' = w.drewN (a + m) :=
  h.mono fun _ _ ⟨he, hm⟩ => ⟨he, n, hm.symm⟩
theorem quiet_left {P : Program} {f : FuncId} {args : Array Value} {w : World} {n : Nat} {v : Value}
    (h : Calls P f args (w.drewN n) fun e w' => e = .returned v ∧ w.drewN n = w') : Calls P f args (w.drewN n) fun e w'' => e = .returned v ∧ ∃ m, w'' = w.drewN m :=
  h.mono fun _ _ ⟨he, hm⟩ => ⟨he, n, hm.symm⟩

end Go.Proofs.YtjhdlnllhjffkaaGreatDoor

namespace Go.Proofs.YtjhdlnllhjffkaaGreatDoor
open Go.RowKit LamM

theorem b_true {a b : Int} (h : a = b) : (a == b) = true := beq_iff_eq.2 h
theorem b_false {a b : Int} (h : a ≠ b) : (a == b) = false := beq_eq_false_iff_ne.2 h
theorem n_true {a b : Int} (h : a ≠ b) : (a != b) = true := by unfold bne; rw [b_false h]; rfl
theorem n_false {a b : Int} (h : a = b) : (a != b) = false := by unfold bne; rw [b_true h]; rfl
theorem size_mk (s : List UInt8) : (ByteArray.mk s.toArray).size = s.length := by simp [ByteArray.size]
theorem two_alloc (w : World) (o o' : Obj) : Below w.heap.size w ((w.alloc o).alloc o') := ((Below.refl _ _).alloc (Nat.le_refl _) o).alloc (by simp) o'
theorem cell_lt {w : World} {p : Addr} {v : Value} (h : w.cell? p = some v) : p.block < w.heap.size := by
  rcases Nat.lt_or_ge p.block w.heap.size with h1 | h1
  · exact h1
  · unfold World.cell? at h
    rw [Array.getElem?_eq_none h1] at h
    simp at h
theorem own_ge {B n c : Nat} : ∀ k, (Value.slice (some ⟨B, 0, none⟩) n c).ownBlock = some k → B ≤ k := fun _ h => Nat.le_of_eq (Option.some.inj h)

/-! ### Input in memory -/
def intVals (l : List Int) : List Value := l.map fun x => .int .i64 x
def keyVals (l : List Ky) : List Value := l.flatMap fun y => [.int .i64 y.k, .int .i64 y.i, .string ⟨y.t.toArray⟩]
/-- A slice of ints. -/
def IV (w : World) (B : Nat) (v : Value) (l : List Int) : Prop := ∃ A c, v = .slice A l.length c ∧ l.length ≤ c ∧ c ≤ maxLen ∧ Reads w B 1 A l.length (intVals l)
/-- A slice of keys. -/
def KV (w : World) (B : Nat) (v : Value) (l : List Ky) : Prop := ∃ A c, v = .slice A l.length c ∧ l.length ≤ c ∧ c ≤ maxLen ∧ Reads w B 3 A l.length (keyVals l)
def tmVals (t : Tm) (vv kv av : Value) : List Value := [.int .i64 t.k, .int .i64 t.n, .int .i64 t.i, .int .u64 t.b, .string ⟨t.t.toArray⟩, vv, kv, av]
/-- What a node's three slices read as; what an int is. -/
structure TV (w : World) (B : Nat) (t : Tm) (vv kv av : Value) : Prop where
  v : IV w B vv t.vars
  k : KV w B kv t.keys
  a : IV w B av t.args
  rk : -9223372036854775808 ≤ t.k ∧ t.k ≤ 9223372036854775807
  rn : -9223372036854775808 ≤ t.n ∧ t.n ≤ 9223372036854775807
  ri : -9223372036854775808 ≤ t.i ∧ t.i ≤ 9223372036854775807
  ra : ∀ x ∈ t.args, -9223372036854775808 ≤ x ∧ x ≤ 9223372036854775807
  rv : ∀ x ∈ t.vars, -9223372036854775808 ≤ x ∧ x ≤ 9223372036854775807
  lv : t.vars.length ≤ 17592186044416
  lk : t.keys.length ≤ 17592186044416
  la : t.args.length ≤ 17592186044416
/-- A slice of nodes. -/
def NV (w : World) (B : Nat) (v : Value) (L : List Tm) : Prop :=
  ∃ A c, v = .slice A L.length c ∧ L.length ≤ c ∧ c ≤ 1300000000000 ∧ ∀ i t, L[i]? = some t → ∃ ad vv kv av, A = some ad ∧ ad.block < B ∧ TV w B t vv kv av ∧ ∀ j u, (tmVals t vv kv av)[j]? = some u → w.cell? (ad.add (i * 8 + j)) = some u

section
variable {w w' : World} {B : Nat}
theorem IV.keep {v : Value} {l : List Int} (h : IV w B v l) (hk : ∀ p : Addr, p.block < B → w'.cell? p = w.cell? p) : IV w' B v l := by
  obtain ⟨A, c, e, h1, h2, h3⟩ := h
  exact ⟨A, c, e, h1, h2, h3.keep hk⟩
theorem KV.keep {v : Value} {l : List Ky} (h : KV w B v l) (hk : ∀ p : Addr, p.block < B → w'.cell? p = w.cell? p) : KV w' B v l := by
  obtain ⟨A, c, e, h1, h2, h3⟩ := h
  exact ⟨A, c, e, h1, h2, h3.keep hk⟩
theorem TV.keep {t : Tm} {vv kv av : Value} (h : TV w B t vv kv av) (hk : ∀ p : Addr, p.block < B → w'.cell? p = w.cell? p) : TV w' B t vv kv av :=
  ⟨h.v.keep hk, h.k.keep hk, h.a.keep hk, h.rk, h.rn, h.ri, h.ra, h.rv, h.lv, h.lk, h.la⟩
theorem NV.keep {v : Value} {L : List Tm} (h : NV w B v L) (hk : ∀ p : Addr, p.block < B → w'.cell? p = w.cell? p) : NV w' B v L := by
  obtain ⟨A, c, e, h1, h2, h3⟩ := h
  refine ⟨A, c, e, h1, h2, fun i t ht => ?_⟩
  obtain ⟨ad, vv, kv, av, hA, hb, ht2, hc⟩ := h3 i t ht
  exact ⟨ad, vv, kv, av, hA, hb, ht2.keep hk, fun j u hu => (hk _ (by rw [block_of_add]; exact hb)).trans (hc j u hu)⟩
theorem IV.at_ {A : Option Addr} {n c : Nat} {l : List Int} (h : IV w B (.slice A n c) l) {j : Nat} {x : Int} (hj : l[j]? = some x) : ∃ ad, A = some ad ∧ ad.block < B ∧ w.cell? (ad.add j) = some (.int .i64 x) := by
  obtain ⟨A', c', e, _, _, hr⟩ := h
  injection e with e1 e2 e3
  subst e1 e3
  have hlt : j < l.length := (List.getElem?_eq_some_iff.1 hj).1
  obtain ⟨ad, hA, hb, hc⟩ := hr.2 (by omega)
  exact ⟨ad, hA, hb, hc j _ (by unfold intVals; rw [List.getElem?_map, hj]; rfl)⟩
theorem IV.len {v : Value} {l : List Int} (h : IV w B v l) : ∃ A c, v = .slice A l.length c ∧ l.length ≤ c ∧ c ≤ maxLen := by
  obtain ⟨A, c, e, h1, h2, _⟩ := h; exact ⟨A, c, e, h1, h2⟩
/-- A node's cells, spelled as the walks spell them. -/
theorem NV.at_ {A : Option Addr} {n c : Nat} {L : List Tm} (h : NV w B (.slice A n c) L) {i : Nat} {t : Tm} (hi : L[i]? = some t) :
    ∃ ad vv kv av, A = some ad ∧ ad.block < B ∧ TV w B t vv kv av ∧ w.cell? (ad.add (i * 8)) = some (.int .i64 t.k) ∧ w.cell? (ad.add (i * 8 + 1)) = some (.int .i64 t.n) ∧ w.cell? (ad.add (i * 8 + 2)) = some (.int .i64 t.i) ∧
      w.cell? (ad.add (i * 8 + 3)) = some (.int .u64 t.b) ∧ w.cell? (ad.add (i * 8 + 4)) = some (.string ⟨t.t.toArray⟩) ∧ w.cell? (ad.add (i * 8 + 5)) = some vv ∧ w.cell? (ad.add (i * 8 + 6)) = some kv ∧ w.cell? (ad.add (i * 8 + 7)) = some av := by
  obtain ⟨A', c', e, _, _, h3⟩ := h
  injection e with e1 e2 e3
  subst e1 e3
  obtain ⟨ad, vv, kv, av, hA, hb, ht, hc⟩ := h3 i t hi
  exact ⟨ad, vv, kv, av, hA, hb, ht, hc 0 _ rfl, hc 1 _ rfl, hc 2 _ rfl, hc 3 _ rfl, hc 4 _ rfl, hc 5 _ rfl, hc 6 _ rfl, hc 7 _ rfl⟩
theorem NV.len {v : Value} {L : List Tm} (h : NV w B v L) : ∃ A c, v = .slice A L.length c ∧ L.length ≤ c ∧ c ≤ 1300000000000 := by
  obtain ⟨A, c, e, h1, h2, _⟩ := h; exact ⟨A, c, e, h1, h2⟩
end

/-! ### A row of truths -/
def boolVals (n : Nat) (f : Nat → Bool) : List Value := (List.range n).map fun i => .bool (f i)
theorem boolVals_len (n : Nat) (f : Nat → Bool) : (boolVals n f).length = n := by unfold boolVals; simp
theorem boolVals_get {n i : Nat} {f : Nat → Bool} (h : i < n) : (boolVals n f)[i]? = some (.bool (f i)) := by unfold boolVals; simp [h]
theorem boolVals_set {n j : Nat} {f : Nat → Bool} (_ : j < n) : (boolVals n f).set j (.bool true) = boolVals n (upd f j) := by
  apply List.ext_getElem?
  intro i
  rcases Nat.lt_or_ge i n with h | h
  · rw [List.getElem?_set, boolVals_get h, boolVals_get h]
    unfold upd
    by_cases e : j = i
    · subst e; simp [boolVals_len, h]
    · rw [if_neg e]; simp [show ¬ i = j from fun x => e x.symm]
  · rw [List.getElem?_eq_none (by rw [List.length_set, boolVals_len]; exact h), List.getElem?_eq_none (by rw [boolVals_len]; exact h)]
theorem boolVals_made (n : Nat) : (madeCells #[Value.bool false] n).toList = boolVals n (fun _ => false) := by
  rw [toList_madeCells_one]
  unfold boolVals
  simp [List.map_const']
end Go.Proofs.YtjhdlnllhjffkaaGreatDoor

namespace Go.Proofs.YtjhdlnllhjffkaaGreatDoor
open Go.RowKit LamM CpsM

def flVals (t : Fl) (vv kv av : Value) : List Value := [.int .i64 t.k, .int .i64 t.n, .int .i64 t.m, .int .i64 t.i, .int .u64 t.b, .string ⟨t.t.toArray⟩, vv, kv, av]
/-- What a node's three slices read as; what an int is. -/
structure FV (w : World) (B : Nat) (t : Fl) (vv kv av : Value) : Prop where
  v : IV w B vv t.vars
  k : KV w B kv t.keys
  a : IV w B av t.args
  rk : -9223372036854775808 ≤ t.k ∧ t.k ≤ 9223372036854775807
  rn : -9223372036854775808 ≤ t.n ∧ t.n ≤ 9223372036854775807
  rm : -9223372036854775808 ≤ t.m ∧ t.m ≤ 9223372036854775807
  ri : -9223372036854775808 ≤ t.i ∧ t.i ≤ 9223372036854775807
  ra : ∀ x ∈ t.args, -9223372036854775808 ≤ x ∧ x ≤ 9223372036854775807
  rv : ∀ x ∈ t.vars, -9223372036854775808 ≤ x ∧ x ≤ 9223372036854775807
  lv : t.vars.length ≤ 17592186044416
  lk : t.keys.length ≤ 17592186044416
  la : t.args.length ≤ 17592186044416
/-- A slice of nodes. -/
def NF (w : World) (B : Nat) (v : Value) (L : List Fl) : Prop :=
  ∃ A c, v = .slice A L.length c ∧ L.length ≤ c ∧ L.length ≤ 1300000000000 ∧ ∀ i t, L[i]? = some t → ∃ ad vv kv av, A = some ad ∧ ad.block < B ∧ FV w B t vv kv av ∧ ∀ j u, (flVals t vv kv av)[j]? = some u → w.cell? (ad.add (i * 9 + j)) = some u

section
variable {w w' : World} {B B' : Nat}
theorem iv_more {v : Value} {l : List Int} (h : IV w B v l) (hB : B ≤ B') : IV w B' v l := by
  obtain ⟨A, c, e, h1, h2, h3⟩ := h
  exact ⟨A, c, e, h1, h2, h3.more hB⟩
theorem kv_more {v : Value} {l : List Ky} (h : KV w B v l) (hB : B ≤ B') : KV w B' v l := by
  obtain ⟨A, c, e, h1, h2, h3⟩ := h
  exact ⟨A, c, e, h1, h2, h3.more hB⟩
theorem FV.keep {t : Fl} {vv kv av : Value} (h : FV w B t vv kv av) (hk : ∀ p : Addr, p.block < B → w'.cell? p = w.cell? p) : FV w' B t vv kv av :=
  ⟨h.v.keep hk, h.k.keep hk, h.a.keep hk, h.rk, h.rn, h.rm, h.ri, h.ra, h.rv, h.lv, h.lk, h.la⟩
theorem FV.more {t : Fl} {vv kv av : Value} (h : FV w B t vv kv av) (hB : B ≤ B') : FV w B' t vv kv av :=
  ⟨iv_more h.v hB, kv_more h.k hB, iv_more h.a hB, h.rk, h.rn, h.rm, h.ri, h.ra, h.rv, h.lv, h.lk, h.la⟩
theorem FV.below {t : Fl} {vv kv av : Value} (h : FV w w.heap.size t vv kv av) (hb : Below w.heap.size w w') : FV w' w'.heap.size t vv kv av :=
  (h.keep (fun _ hp => hb.cell hp)).more hb.size
theorem NF.keep {v : Value} {L : List Fl} (h : NF w B v L) (hk : ∀ p : Addr, p.block < B → w'.cell? p = w.cell? p) : NF w' B v L := by
  obtain ⟨A, c, e, h1, h2, h3⟩ := h
  refine ⟨A, c, e, h1, h2, fun i t ht => ?_⟩
  obtain ⟨ad, vv, kv, av, hA, hb, ht2, hc⟩ := h3 i t ht
  exact ⟨ad, vv, kv, av, hA, hb, ht2.keep hk, fun j u hu => (hk _ (by rw [block_of_add]; exact hb)).trans (hc j u hu)⟩
theorem NF.more {v : Value} {L : List Fl} (h : NF w B v L) (hB : B ≤ B') : NF w B' v L := by
  obtain ⟨A, c, e, h1, h2, h3⟩ := h
  refine ⟨A, c, e, h1, h2, fun i t ht => ?_⟩
  obtain ⟨ad, vv, kv, av, hA, hb, ht2, hc⟩ := h3 i t ht
  exact ⟨ad, vv, kv, av, hA, Nat.lt_of_lt_of_le hb hB, ht2.more hB, hc⟩
theorem NF.below {v : Value} {L : List Fl} (h : NF w w.heap.size v L) (hb : Below w.heap.size w w') : NF w' w'.heap.size v L :=
  (h.keep (fun _ hp => hb.cell hp)).more hb.size
/-- A node's cells, spelled as the walks spell them. -/
theorem NF.at_ {A : Option Addr} {n c : Nat} {L : List Fl} (h : NF w B (.slice A n c) L) {i : Nat} {t : Fl} (hi : L[i]? = some t) :
    ∃ ad vv kv av, A = some ad ∧ ad.block < B ∧ FV w B t vv kv av ∧ w.cell? (ad.add (i * 9)) = some (.int .i64 t.k) ∧ w.cell? (ad.add (i * 9 + 1)) = some (.int .i64 t.n) ∧ w.cell? (ad.add (i * 9 + 2)) = some (.int .i64 t.m) ∧ w.cell? (ad.add (i * 9 + 3)) = some (.int .i64 t.i) ∧
      w.cell? (ad.add (i * 9 + 4)) = some (.int .u64 t.b) ∧ w.cell? (ad.add (i * 9 + 5)) = some (.string ⟨t.t.toArray⟩) ∧ w.cell? (ad.add (i * 9 + 6)) = some vv ∧ w.cell? (ad.add (i * 9 + 7)) = some kv ∧ w.cell? (ad.add (i * 9 + 8)) = some av := by
  obtain ⟨A', c', e, _, _, h3⟩ := h
  injection e with e1 e2 e3
  subst e1 e3
  obtain ⟨ad, vv, kv, av, hA, hb, ht, hc⟩ := h3 i t hi
  exact ⟨ad, vv, kv, av, hA, hb, ht, hc 0 _ rfl, hc 1 _ rfl, hc 2 _ rfl, hc 3 _ rfl, hc 4 _ rfl, hc 5 _ rfl, hc 6 _ rfl, hc 7 _ rfl, hc 8 _ rfl⟩
theorem NF.len {v : Value} {L : List Fl} (h : NF w B v L) : ∃ A c, v = .slice A L.length c ∧ L.length ≤ c ∧ L.length ≤ 1300000000000 := by
  obtain ⟨A, c, e, h1, h2, _⟩ := h; exact ⟨A, c, e, h1, h2⟩
theorem spell9 {ad : Addr} {i j : Nat} {v : Value} (h : w.cell? (ad.add (i + (j + 1))) = some v) : w.cell? ⟨(ad.add i).block, (ad.add i).off + (j + 1), none⟩ = some v := by
  rw [← add_of_add] at h; exact h
/-- A node's cells, as a load of the whole node asks for them. -/
theorem NF.at9 {n c : Nat} {A : Option Addr} {L : List Fl} (h : NF w B (.slice A n c) L) {i : Nat} {t : Fl} (hi : L[i]? = some t) :
    ∃ ad vv kv av, A = some ad ∧ ad.block < B ∧ FV w B t vv kv av ∧ w.cell? (ad.add (i * 9)) = some (.int .i64 t.k) ∧ w.cell? ⟨(ad.add (i * 9)).block, (ad.add (i * 9)).off + 1, none⟩ = some (.int .i64 t.n) ∧ w.cell? ⟨(ad.add (i * 9)).block, (ad.add (i * 9)).off + 2, none⟩ = some (.int .i64 t.m) ∧
      w.cell? ⟨(ad.add (i * 9)).block, (ad.add (i * 9)).off + 3, none⟩ = some (.int .i64 t.i) ∧ w.cell? ⟨(ad.add (i * 9)).block, (ad.add (i * 9)).off + 4, none⟩ = some (.int .u64 t.b) ∧ w.cell? ⟨(ad.add (i * 9)).block, (ad.add (i * 9)).off + 5, none⟩ = some (.string ⟨t.t.toArray⟩) ∧
      w.cell? ⟨(ad.add (i * 9)).block, (ad.add (i * 9)).off + 6, none⟩ = some vv ∧ w.cell? ⟨(ad.add (i * 9)).block, (ad.add (i * 9)).off + 7, none⟩ = some kv ∧ w.cell? ⟨(ad.add (i * 9)).block, (ad.add (i * 9)).off + 8, none⟩ = some av := by
  obtain ⟨ad, vv, kv, av, hA, hb, ht, a0, a1, a2, a3, a4, a5, a6, a7, a8⟩ := h.at_ hi
  exact ⟨ad, vv, kv, av, hA, hb, ht, a0, spell9 a1, spell9 a2, spell9 a3, spell9 a4, spell9 a5, spell9 a6, spell9 a7, spell9 a8⟩
end
end Go.Proofs.YtjhdlnllhjffkaaGreatDoor
