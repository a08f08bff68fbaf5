/- Lambda: the table of what primitives do: a map of functions; what counts: "print" gives (*Machine).print. -/
import Derived.Test.YtmedfpejfpdpdaaGreatDoorLamR
import Derived.Maps.OwnSet
import Derived.Deep.DeepFit
namespace Go.Proofs.YtmedfpejfpdpdaaGreatDoor
open Go.RowKit LamM Go.Maps

abbrev FT : TypeId := 100
abbrev MT : TypeId := 98
theorem undM : Tryz.prog.underlying MT = some (.map 9 FT) := by kernel_rfl
theorem undStr : Tryz.prog.underlying 9 = some .string := by kernel_rfl
theorem keyS : Keyed Tryz.prog 9 := string_keyed undStr
theorem zeroF (w : World) : (zeroValue FT).run Tryz.prog w = .ok .nilFunc w := by kernel_rfl
/-- A function reads as itself. -/
def funE : Value → Option (DataW Value × List MemPlace)
  | .func f a b => some (.held (.func f a b), [])
  | .nilFunc => some (.held .nilFunc, [])
  | _ => none
theorem funE_inv {v : Value} {d : DataW Value} {ps : List MemPlace} (h : funE v = some (d, ps)) : d = .held v ∧ ((∃ f a b, v = .func f a b) ∨ v = .nilFunc) := by
  unfold funE at h
  split at h
  · cases h; exact ⟨rfl, .inl ⟨_, _, _, rfl⟩⟩
  · cases h; exact ⟨rfl, .inr rfl⟩
  · cases h
abbrev prK : Lit := .string [112, 114, 105, 110, 116]
/-- Block B is a map of functions, n at most; what it holds at "print". -/
def Tab (w : World) (B n : Nat) (x : Option Value) : Prop :=
  ∃ D : DataW Value, w.ownsMap Tryz.prog 9 funE B n D ∧ (∀ v, x = some v → ∀ z, D.atKey prK z = .held v)
section
variable {w w' : World} {B n : Nat} {x : Option Value}
theorem Tab.lt (h : Tab w B n x) : B < w.heap.size := by obtain ⟨D, h, _⟩ := h; exact h.lt
theorem Tab.below (h : Tab w B n x) (hb : Below w.heap.size w w') : Tab w' B n x := by
  obtain ⟨D, h, hx⟩ := h; exact ⟨D, h.kept (Below.toGrown hb) (by simp), hx⟩
theorem Tab.alloc (h : Tab w B n x) (o : Obj) : Tab (w.alloc o) B n x := h.below ((Below.refl _ _).alloc (Nat.le_refl _) o)
theorem Tab.setCell (h : Tab w B n x) {p : Addr} (hp : p.block ≠ B) (u : Value) : Tab (w.setCell p u) B n x := by
  obtain ⟨D, h, hx⟩ := h; exact ⟨D, h.setCell (fun e => hp e.symm) u, hx⟩
theorem Tab.made (w : World) : Tab (w.alloc (.map #[] 0)) w.heap.size 0 none := ⟨_, World.ownsMap_made w _ _ _, fun v h => by cases h⟩
theorem Tab.mono (h : Tab w B n x) {m : Nat} (hm : n ≤ m) : Tab w B m x := by obtain ⟨D, h, hx⟩ := h; exact ⟨D, h.mono hm, hx⟩
theorem key_lit {s : List UInt8} (hs : s.length ≤ 100) : keyOf Tryz.prog 9 (.string ⟨s.toArray⟩) = some (.string s) := by
  have := WideMaps.keyOf_string_mk (P := Tryz.prog) (k := 9) undStr (s := ⟨s.toArray⟩) (by rw [size_mk]; unfold maxLen; omega)
  simpa using this
/-- A store at another key, or at "print". -/
theorem Tab.store (h : Tab w B n x) (hn : n < 1000) {s : List UInt8} (hs : s.length ≤ 100) {f : Fn} {a b : Array Value} :
    ∃ w', (Instr.mapUpdate MT (.map (some B)) (.string ⟨s.toArray⟩) (.func f a b)).run Tryz.prog w = .ok () w' ∧ Tab w' B (n + 1) (if s = [112, 114, 105, 110, 116] then some (.func f a b) else x) ∧ w.grownBy w' (some B) := by
  obtain ⟨D, h, hx⟩ := h
  obtain ⟨w', h1, h2, h3⟩ := h.update keyS undM (by unfold maxLen; omega) (key_lit hs) (val := .func f a b) (d := .held (.func f a b)) (ps := []) rfl
  refine ⟨w', h1, ⟨_, h2, fun v hv z => ?_⟩, h3⟩
  by_cases e : s = [112, 114, 105, 110, 116]
  · subst e
    rw [if_pos rfl] at hv
    rw [atKey_put_same h.isMap (by trivial), ← Option.some.inj hv]
  · rw [if_neg e] at hv
    rw [atKey_put_other (by intro h; injection h with h; exact e h.symm)]
    exact hx v hv z
/-- A look-up. -/
theorem Tab.look (h : Tab w B n x) {s : List UInt8} (hs : s.length ≤ 100) :
    ∃ v, (Instr.lookup MT (.map (some B)) (.string ⟨s.toArray⟩) false).run Tryz.prog w = .ok v w ∧ ((∃ f a b, v = .func f a b) ∨ v = .nilFunc) ∧ (s = [112, 114, 105, 110, 116] → ∀ u, x = some u → v = u) := by
  obtain ⟨D, h, hx⟩ := h
  obtain ⟨v, ps, h1, h2⟩ := h.lookup keyS undM (zeroF w) (zd := .held .nilFunc) (zp := []) rfl (key_lit hs)
  obtain ⟨h3, h4⟩ := funE_inv h2
  refine ⟨v, h1, h4, fun e u hu => ?_⟩
  subst e
  have h5 : D.atKey prK (.held .nilFunc) = .held u := hx u hu _
  have h6 : DataW.held v = DataW.held u := h3.symm.trans h5
  injection h6
end
/-- The operation, for the walk: a map literal's entry, and a store. -/
theorem wpList_tab (w : World) {ops : Array Oper} {rest : List Oper} {o : Oper} {a : Act} {Q : Exit → Act → World → Prop} (hg : o.guard = none) (m x v : Operand) (hop : o.op = .insert MT m x v ∨ o.op = .mapUpdate MT m x v)
    (B n : Nat) (y : Option Value) (hm : a.eval m = .map (some B)) (hT : Tab w B n y) (hn : n < 1000) (s : List UInt8) (hs : s.length ≤ 100) (hx : a.eval x = .string ⟨s.toArray⟩) (f : Fn) (c d : Array Value) (hv : a.eval v = .func f c d)
    (hK : ∀ w', Tab w' B (n + 1) (if s = [112, 114, 105, 110, 116] then some (.func f c d) else y) → w.grownBy w' (some B) → wpList Tryz.prog ops Q rest (a.put o.dst undef) w') : wpList Tryz.prog ops Q (o :: rest) a w := by
  refine wpList_plain hg fun K' hK' => ?_
  obtain ⟨w', hrun, r1, r2⟩ := hT.store hn hs (f := f) (a := c) (b := d)
  unfold Oper.wp
  rcases hop with hop | hop
  all_goals
    simp [execOp, hop, hm, hx, hv, hrun, Result.andThen]
    exact hK' _ _ (hK w' r1 r2)
/-- A function that is made. -/
def GivesF (w : World) (e : Ending) (w' : World) : Prop := ∃ f a b, e = .returned (.func f a b) ∧ Below w.heap.size w w'
theorem mk_func (fn : Fn) (first cap : Array Value) (w : World) : (Instr.makeFunc fn first cap).run Tryz.prog w = .ok (.func fn first cap) w := rfl

theorem ints_any (f : Fn) (a b : Array Value) (w : World) : Calls Tryz.prog 67 #[.func f a b] w (GivesF w) := by
  have hmf := mk_func
  have HB := Lib.hid ((Below.refl w.heap.size w).alloc (Nat.le_refl _) (.cells #[.func f a b] 135))
  go_enter Tryz.func67, Tryz.ntmps67
  go_wp2_with fail
  go_ret
  exact ⟨_, _, _, rfl, HB.out⟩
theorem floats_any (f : Fn) (a b : Array Value) (w : World) : Calls Tryz.prog 82 #[.func f a b] w (GivesF w) := by
  have hmf := mk_func
  have HB := Lib.hid ((Below.refl w.heap.size w).alloc (Nat.le_refl _) (.cells #[.func f a b] 141))
  go_enter Tryz.func82, Tryz.ntmps82
  go_wp2_with fail
  go_ret
  exact ⟨_, _, _, rfl, HB.out⟩
theorem rounds_any (f : Fn) (a b : Array Value) (w : World) : Calls Tryz.prog 98 #[.func f a b] w (GivesF w) := by
  have hmf := mk_func
  have HB := Lib.hid ((Below.refl w.heap.size w).alloc (Nat.le_refl _) (.cells #[.func f a b] 152))
  go_enter Tryz.func98, Tryz.ntmps98
  go_wp2_with fail
  go_ret
  exact ⟨_, _, _, rfl, HB.out⟩
end Go.Proofs.YtmedfpejfpdpdaaGreatDoor
