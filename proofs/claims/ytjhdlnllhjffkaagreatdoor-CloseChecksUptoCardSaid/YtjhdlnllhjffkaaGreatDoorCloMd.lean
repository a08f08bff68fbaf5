/- Lambda: the table of what primitives do: a map of functions; what counts: "print" gives (*Machine).print. Lambda: the table is made: orders, more, table. Lambda: a machine is made: key, NewMachine. Lambda: NewMachine. Lambda: the place of print. Lambda: the runner's small steps: Step, come, on, pop, find, text, print, Prim. Lambda: the runner's end: Step at the end of fuel, Ended. Lambda: what Run defers: a region that draws its order and recovers. -/
import Derived.Test.YtjhdlnllhjffkaaGreatDoorLamR
import Derived.Maps.OwnSet
import Derived.Deep.DeepFit
import Derived.Test.YtjhdlnllhjffkaaGreatDoorLamRW
import Derived.Deep.RegionLaw
import Derived.BigQuiet
import Derived.Recover
import Derived.Orders
namespace Go.Proofs.YtjhdlnllhjffkaaGreatDoor
open Go.RowKit LamM Go.Maps

abbrev FT : TypeId := 122
abbrev MT : TypeId := 120
theorem undM : Tryz.prog.underlying MT = some (.map 9 FT) := by kernel_rfl
theorem undStr : Tryz.prog.underlying 9 = some .string := by kernel_rfl
theorem keyS : Keyed Tryz.prog 9 := string_keyed undStr
theorem zeroF (w : World) : (zeroValue FT).run Tryz.prog w = .ok .nilFunc w := by kernel_rfl
/-- A function reads as itself. -/
def funE : Value → Option (DataW Value × List MemPlace)
  | .func f a b => some (.held (.func f a b), [])
  | .nilFunc => some (.held .nilFunc, [])
  | _ => none
theorem funE_inv {v : Value} {d : DataW Value} {ps : List MemPlace} (h : funE v = some (d, ps)) : d = .held v ∧ ((∃ f a b, v = .func f a b) ∨ v = .nilFunc) := by
  unfold funE at h
  split at h
  · cases h; exact ⟨rfl, .inl ⟨_, _, _, rfl⟩⟩
  · cases h; exact ⟨rfl, .inr rfl⟩
  · cases h
abbrev prK : Lit := .string [112, 114, 105, 110, 116]
/-- Block B is a map of functions, n at most; what it holds at "print". -/
def Tab (w : World) (B n : Nat) (x : Option Value) : Prop :=
  ∃ D : DataW Value, w.ownsMap Tryz.prog 9 funE B n D ∧ (∀ v, x = some v → ∀ z, D.atKey prK z = .held v)
section
variable {w w' : World} {B n : Nat} {x : Option Value}
theorem Tab.lt (h : Tab w B n x) : B < w.heap.size := by obtain ⟨D, h, _⟩ := h; exact h.lt
theorem Tab.below (h : Tab w B n x) (hb : Below w.heap.size w w') : Tab w' B n x := by
  obtain ⟨D, h, hx⟩ := h; exact ⟨D, h.kept (Below.toGrown hb) (by simp), hx⟩
theorem Tab.alloc (h : Tab w B n x) (o : Obj) : Tab (w.alloc o) B n x := h.below ((Below.refl _ _).alloc (Nat.le_refl _) o)
theorem Tab.setCell (h : Tab w B n x) {p : Addr} (hp : p.block ≠ B) (u : Value) : Tab (w.setCell p u) B n x := by
  obtain ⟨D, h, hx⟩ := h; exact ⟨D, h.setCell (fun e => hp e.symm) u, hx⟩
theorem Tab.made (w : World) : Tab (w.alloc (.map #[] 0)) w.heap.size 0 none := ⟨_, World.ownsMap_made w _ _ _, fun v h => by cases h⟩
theorem Tab.mono (h : Tab w B n x) {m : Nat} (hm : n ≤ m) : Tab w B m x := by obtain ⟨D, h, hx⟩ := h; exact ⟨D, h.mono hm, hx⟩
theorem key_lit {s : List UInt8} (hs : s.length ≤ 100) : keyOf Tryz.prog 9 (.string ⟨s.toArray⟩) = some (.string s) := by
  have := WideMaps.keyOf_string_mk (P := Tryz.prog) (k := 9) undStr (s := ⟨s.toArray⟩) (by rw [size_mk]; unfold maxLen; omega)
  simpa using this
/-- A store at another key, or at "print". -/
theorem Tab.store (h : Tab w B n x) (hn : n < 1000) {s : List UInt8} (hs : s.length ≤ 100) {f : Fn} {a b : Array Value} :
    ∃ w', (Instr.mapUpdate MT (.map (some B)) (.string ⟨s.toArray⟩) (.func f a b)).run Tryz.prog w = .ok () w' ∧ Tab w' B (n + 1) (if s = [112, 114, 105, 110, 116] then some (.func f a b) else x) ∧ w.grownBy w' (some B) := by
  obtain ⟨D, h, hx⟩ := h
  obtain ⟨w', h1, h2, h3⟩ := h.update keyS undM (by unfold maxLen; omega) (key_lit hs) (val := .func f a b) (d := .held (.func f a b)) (ps := []) rfl
  refine ⟨w', h1, ⟨_, h2, fun v hv z => ?_⟩, h3⟩
  by_cases e : s = [112, 114, 105, 110, 116]
  · subst e
    rw [if_pos rfl] at hv
    rw [atKey_put_same h.isMap (by trivial), ← Option.some.inj hv]
  · rw [if_neg e] at hv
    rw [atKey_put_other (by intro h; injection h with h; exact e h.symm)]
    exact hx v hv z
/-- A look-up. -/
theorem Tab.look (h : Tab w B n x) {s : List UInt8} (hs : s.length ≤ 100) :
    ∃ v, (Instr.lookup MT (.map (some B)) (.string ⟨s.toArray⟩) false).run Tryz.prog w = .ok v w ∧ ((∃ f a b, v = .func f a b) ∨ v = .nilFunc) ∧ (s = [112, 114, 105, 110, 116] → ∀ u, x = some u → v = u) := by
  obtain ⟨D, h, hx⟩ := h
  obtain ⟨v, ps, h1, h2⟩ := h.lookup keyS undM (zeroF w) (zd := .held .nilFunc) (zp := []) rfl (key_lit hs)
  obtain ⟨h3, h4⟩ := funE_inv h2
  refine ⟨v, h1, h4, fun e u hu => ?_⟩
  subst e
  have h5 : D.atKey prK (.held .nilFunc) = .held u := hx u hu _
  have h6 : DataW.held v = DataW.held u := h3.symm.trans h5
  injection h6
end
/-- The operation, for the walk: a map literal's entry, and a store. -/
theorem wpList_tab (w : World) {ops : Array Oper} {rest : List Oper} {o : Oper} {a : Act} {Q : Exit → Act → World → Prop} (hg : o.guard = none) (m x v : Operand) (hop : o.op = .insert MT m x v ∨ o.op = .mapUpdate MT m x v)
    (B n : Nat) (y : Option Value) (hm : a.eval m = .map (some B)) (hT : Tab w B n y) (hn : n < 1000) (s : List UInt8) (hs : s.length ≤ 100) (hx : a.eval x = .string ⟨s.toArray⟩) (f : Fn) (c d : Array Value) (hv : a.eval v = .func f c d)
    (hK : ∀ w', Tab w' B (n + 1) (if s = [112, 114, 105, 110, 116] then some (.func f c d) else y) → w.grownBy w' (some B) → wpList Tryz.prog ops Q rest (a.put o.dst undef) w') : wpList Tryz.prog ops Q (o :: rest) a w := by
  refine wpList_plain hg fun K' hK' => ?_
  obtain ⟨w', hrun, r1, r2⟩ := hT.store hn hs (f := f) (a := c) (b := d)
  unfold Oper.wp
  rcases hop with hop | hop
  all_goals
    simp [execOp, hop, hm, hx, hv, hrun, Result.andThen]
    exact hK' _ _ (hK w' r1 r2)
/-- A function that is made. -/
def GivesF (w : World) (e : Ending) (w' : World) : Prop := ∃ f a b, e = .returned (.func f a b) ∧ Below w.heap.size w w'
theorem mk_func (fn : Fn) (first cap : Array Value) (w : World) : (Instr.makeFunc fn first cap).run Tryz.prog w = .ok (.func fn first cap) w := rfl

theorem ints_any (f : Fn) (a b : Array Value) (w : World) : Calls Tryz.prog 86 #[.func f a b] w (GivesF w) := by
  have hmf := mk_func
  have HB := Lib.hid ((Below.refl w.heap.size w).alloc (Nat.le_refl _) (.cells #[.func f a b] 162))
  go_enter Tryz.func86, Tryz.ntmps86
  go_wp2_with fail
  go_ret
  exact ⟨_, _, _, rfl, HB.out⟩
theorem floats_any (f : Fn) (a b : Array Value) (w : World) : Calls Tryz.prog 101 #[.func f a b] w (GivesF w) := by
  have hmf := mk_func
  have HB := Lib.hid ((Below.refl w.heap.size w).alloc (Nat.le_refl _) (.cells #[.func f a b] 168))
  go_enter Tryz.func101, Tryz.ntmps101
  go_wp2_with fail
  go_ret
  exact ⟨_, _, _, rfl, HB.out⟩
theorem rounds_any (f : Fn) (a b : Array Value) (w : World) : Calls Tryz.prog 117 #[.func f a b] w (GivesF w) := by
  have hmf := mk_func
  have HB := Lib.hid ((Below.refl w.heap.size w).alloc (Nat.le_refl _) (.cells #[.func f a b] 179))
  go_enter Tryz.func117, Tryz.ntmps117
  go_wp2_with fail
  go_ret
  exact ⟨_, _, _, rfl, HB.out⟩
end Go.Proofs.YtjhdlnllhjffkaaGreatDoor

namespace Go.Proofs.YtjhdlnllhjffkaaGreatDoor
open Go.RowKit LamM Go.Maps

theorem grown_refl (w : World) (r : Option Nat) : w.grownBy w r := ⟨rfl, rfl, rfl, Nat.le_refl _, fun _ _ _ => rfl⟩
theorem bytes_cons (c : UInt8) (s : List UInt8) : ByteArray.mk #[c] ++ ByteArray.mk s.toArray = ByteArray.mk (c :: s).toArray := by
  apply ByteArray.ext
  simp
/-- What a filler of the map does. -/
def Fills (w : World) (B n : Nat) (x : Option Value) (e : Ending) (w' : World) : Prop := e = .returned (.tuple #[]) ∧ Tab w' B n x ∧ w.grownBy w' (some B)
set_option maxRecDepth 100000 in
set_option maxHeartbeats 2000000 in
theorem orders_any (nm : List UInt8) (ra : Option Addr) (rn rc : Nat) (B n : Nat) (x : Option Value) (w : World) (hT : Tab w B n x) (hn : n < 900) (hl : nm.length ≤ 10) (hp : nm ≠ [112, 114, 105, 110, 116]) :
    Calls Tryz.prog 129 #[.map (some B), .string ⟨nm.toArray⟩, .slice ra rn rc] w (Fills w B (n + 1 + 1 + 1) x) := by
  have hmf := mk_func
  have e1 := bytes_cons 114 nm
  have e2 := bytes_cons 115 nm
  have HT := Lib.hid (hT.alloc (.cells #[.slice ra rn rc] 31))
  have HG := Lib.hid (World.grownBy_alloc w (.cells #[.slice ra rn rc] 31) (some B))
  clear hT
  go_enter Tryz.func129, Tryz.ntmps129
  go_wp2_with (refine wpList_tab _ rfl _ _ _ (.inr rfl) B n x rfl HT.out (by omega) nm (by omega) rfl _ _ _ rfl ?_)
  intro w1 ht1 hg1
  have HT1 := Lib.hid ht1
  have HG1 := Lib.hid (World.grownBy.trans HG.out hg1)
  clear ht1 hg1
  go_wp2_with (refine wpList_tab _ rfl _ _ _ (.inr rfl) B (n + 1) x rfl HT1.out (by omega) (114 :: nm) (by simp; omega) rfl _ _ _ rfl ?_)
  intro w2 ht2 hg2
  have HT2 := Lib.hid ht2
  have HG2 := Lib.hid (World.grownBy.trans HG1.out hg2)
  clear ht2 hg2
  go_wp2_with (refine wpList_tab _ rfl _ _ _ (.inr rfl) B (n + 1 + 1) x rfl HT2.out (by omega) (115 :: nm) (by simp; omega) rfl _ _ _ rfl ?_)
  intro w3 ht3 hg3
  have HT3 := Lib.hid ht3
  have HG3 := Lib.hid (World.grownBy.trans HG2.out hg3)
  clear ht3 hg3
  go_wp2_with fail
  go_end0
  exact ⟨rfl, HT3.out, HG3.out⟩

set_option maxRecDepth 100000 in
set_option maxHeartbeats 4000000 in
theorem more_any (B n : Nat) (x : Option Value) (w : World) (hT : Tab w B n x) (hn : n < 900) :
    Calls Tryz.prog 130 #[.map (some B)] w (Fills w B (n + 19) (some (.func (.func 209) #[] #[]))) := by
  have HT0 := Lib.hid hT
  have HG0 := Lib.hid (grown_refl w (some B))
  clear hT
  go_enter Tryz.func130, Tryz.ntmps130
  go_wp2_with (refine wpList_tab _ rfl _ _ _ (.inr rfl) B (n + 0) _ rfl HT0.out (by omega) _ (by decide) rfl _ _ _ rfl ?_)
  intro w1 ht hg
  have HT1 := Lib.hid ht
  have HG1 := Lib.hid (World.grownBy.trans HG0.out hg)
  clear ht hg HT0 HG0
  go_wp2_with (refine wpList_tab _ rfl _ _ _ (.inr rfl) B (n + 1) _ rfl HT1.out (by omega) _ (by decide) rfl _ _ _ rfl ?_)
  intro w2 ht hg
  have HT2 := Lib.hid ht
  have HG2 := Lib.hid (World.grownBy.trans HG1.out hg)
  clear ht hg HT1 HG1
  go_wp2_with (refine wpList_tab _ rfl _ _ _ (.inr rfl) B (n + 2) _ rfl HT2.out (by omega) _ (by decide) rfl _ _ _ rfl ?_)
  intro w3 ht hg
  have HT3 := Lib.hid ht
  have HG3 := Lib.hid (World.grownBy.trans HG2.out hg)
  clear ht hg HT2 HG2
  go_wp2_with (refine wpList_tab _ rfl _ _ _ (.inr rfl) B (n + 3) _ rfl HT3.out (by omega) _ (by decide) rfl _ _ _ rfl ?_)
  intro w4 ht hg
  have HT4 := Lib.hid ht
  have HG4 := Lib.hid (World.grownBy.trans HG3.out hg)
  clear ht hg HT3 HG3
  go_wp2_with (refine wpList_tab _ rfl _ _ _ (.inr rfl) B (n + 4) _ rfl HT4.out (by omega) _ (by decide) rfl _ _ _ rfl ?_)
  intro w5 ht hg
  have HT5 := Lib.hid ht
  have HG5 := Lib.hid (World.grownBy.trans HG4.out hg)
  clear ht hg HT4 HG4
  go_wp2_with (refine wpList_tab _ rfl _ _ _ (.inr rfl) B (n + 5) _ rfl HT5.out (by omega) _ (by decide) rfl _ _ _ rfl ?_)
  intro w6 ht hg
  have HT6 := Lib.hid ht
  have HG6 := Lib.hid (World.grownBy.trans HG5.out hg)
  clear ht hg HT5 HG5
  go_wp2_with (refine wpList_tab _ rfl _ _ _ (.inr rfl) B (n + 6) _ rfl HT6.out (by omega) _ (by decide) rfl _ _ _ rfl ?_)
  intro w7 ht hg
  have HT7 := Lib.hid ht
  have HG7 := Lib.hid (World.grownBy.trans HG6.out hg)
  clear ht hg HT6 HG6
  go_wp2_with (refine wpList_tab _ rfl _ _ _ (.inr rfl) B (n + 7) _ rfl HT7.out (by omega) _ (by decide) rfl _ _ _ rfl ?_)
  intro w8 ht hg
  have HT8 := Lib.hid ht
  have HG8 := Lib.hid (World.grownBy.trans HG7.out hg)
  clear ht hg HT7 HG7
  go_wp2_with (refine wpList_tab _ rfl _ _ _ (.inr rfl) B (n + 8) _ rfl HT8.out (by omega) _ (by decide) rfl _ _ _ rfl ?_)
  intro w9 ht hg
  have HT9 := Lib.hid ht
  have HG9 := Lib.hid (World.grownBy.trans HG8.out hg)
  clear ht hg HT8 HG8
  go_wp2_with (refine wpList_tab _ rfl _ _ _ (.inr rfl) B (n + 9) _ rfl HT9.out (by omega) _ (by decide) rfl _ _ _ rfl ?_)
  intro w10 ht hg
  have HT10 := Lib.hid ht
  have HG10 := Lib.hid (World.grownBy.trans HG9.out hg)
  clear ht hg HT9 HG9
  go_wp2_with (refine wpList_tab _ rfl _ _ _ (.inr rfl) B (n + 10) _ rfl HT10.out (by omega) _ (by decide) rfl _ _ _ rfl ?_)
  intro w11 ht hg
  have HT11 := Lib.hid ht
  have HG11 := Lib.hid (World.grownBy.trans HG10.out hg)
  clear ht hg HT10 HG10
  go_wp2_with (refine wpList_tab _ rfl _ _ _ (.inr rfl) B (n + 11) _ rfl HT11.out (by omega) _ (by decide) rfl _ _ _ rfl ?_)
  intro w12 ht hg
  have HT12 := Lib.hid ht
  have HG12 := Lib.hid (World.grownBy.trans HG11.out hg)
  clear ht hg HT11 HG11
  go_wp2_with (refine wpList_tab _ rfl _ _ _ (.inr rfl) B (n + 12) _ rfl HT12.out (by omega) _ (by decide) rfl _ _ _ rfl ?_)
  intro w13 ht hg
  have HT13 := Lib.hid ht
  have HG13 := Lib.hid (World.grownBy.trans HG12.out hg)
  clear ht hg HT12 HG12
  go_wp2_with (refine wpList_tab _ rfl _ _ _ (.inr rfl) B (n + 13) _ rfl HT13.out (by omega) _ (by decide) rfl _ _ _ rfl ?_)
  intro w14 ht hg
  have HT14 := Lib.hid ht
  have HG14 := Lib.hid (World.grownBy.trans HG13.out hg)
  clear ht hg HT13 HG13
  go_wp2_with (refine wpList_tab _ rfl _ _ _ (.inr rfl) B (n + 14) _ rfl HT14.out (by omega) _ (by decide) rfl _ _ _ rfl ?_)
  intro w15 ht hg
  have HT15 := Lib.hid ht
  have HG15 := Lib.hid (World.grownBy.trans HG14.out hg)
  clear ht hg HT14 HG14
  go_wp2_with (refine wpList_tab _ rfl _ _ _ (.inr rfl) B (n + 15) _ rfl HT15.out (by omega) _ (by decide) rfl _ _ _ rfl ?_)
  intro w16 ht hg
  have HT16 := Lib.hid ht
  have HG16 := Lib.hid (World.grownBy.trans HG15.out hg)
  clear ht hg HT15 HG15
  go_wp2_with (refine wpList_tab _ rfl _ _ _ (.inr rfl) B (n + 16) _ rfl HT16.out (by omega) _ (by decide) rfl _ _ _ rfl ?_)
  intro w17 ht hg
  have HT17 := Lib.hid ht
  have HG17 := Lib.hid (World.grownBy.trans HG16.out hg)
  clear ht hg HT16 HG16
  go_wp2_with (refine wpList_tab _ rfl _ _ _ (.inr rfl) B (n + 17) _ rfl HT17.out (by omega) _ (by decide) rfl _ _ _ rfl ?_)
  intro w18 ht hg
  have HT18 := Lib.hid ht
  have HG18 := Lib.hid (World.grownBy.trans HG17.out hg)
  clear ht hg HT17 HG17
  go_wp2_with (refine wpList_tab _ rfl _ _ _ (.inr rfl) B (n + 18) _ rfl HT18.out (by omega) _ (by decide) rfl _ _ _ rfl ?_)
  intro w19 ht hg
  have HT19 := Lib.hid ht
  have HG19 := Lib.hid (World.grownBy.trans HG18.out hg)
  clear ht hg HT18 HG18
  go_wp2_with fail
  go_end0
  exact ⟨rfl, HT19.out, HG19.out⟩

/-- What table hands back. -/
def TabPost (w : World) (e : Ending) (w' : World) : Prop := ∃ B, e = .returned (.map (some B)) ∧ w.heap.size ≤ B ∧ Tab w' B 100 (some (.func (.func 209) #[] #[])) ∧ Below w.heap.size w w'
theorem grown_below {w w' : World} {B : Nat} {a : World} (h : Below B a w) (hg : w.grownBy w' (some B)) (hB : B ≤ w.heap.size) : Below B a w' := h.grown hg hB (fun k hk => by rw [← Option.some.inj hk]; exact Nat.le_refl _)
set_option maxRecDepth 100000 in
set_option maxHeartbeats 8000000 in
theorem table_any (w : World) : Calls Tryz.prog 62 #[] w (TabPost w) := by
  have hmm := @run_makeMap Tryz.prog
  have HT := Lib.hid (Tab.made w)
  have HB := Lib.hid ((Below.refl w.heap.size w).alloc (Nat.le_refl _) (.map #[] 0))
  unfold TabPost
  go_enter Tryz.func62, Tryz.ntmps62
  go_wp2_with (first
    | (go_at_call 86; ((with_reducible refine (ints_any _ _ _ _).mono ?_); rintro e w' ⟨f, a, b, rfl, hb⟩; have HB := Lib.hid (HB.out.trans (hb.mono (Nat.le_of_lt HT.out.lt))); have HT := Lib.hid (HT.out.below hb); clear hb))
    | (go_at_call 101; ((with_reducible refine (floats_any _ _ _ _).mono ?_); rintro e w' ⟨f, a, b, rfl, hb⟩; have HB := Lib.hid (HB.out.trans (hb.mono (Nat.le_of_lt HT.out.lt))); have HT := Lib.hid (HT.out.below hb); clear hb))
    | (go_at_call 117; ((with_reducible refine (rounds_any _ _ _ _).mono ?_); rintro e w' ⟨f, a, b, rfl, hb⟩; have HB := Lib.hid (HB.out.trans (hb.mono (Nat.le_of_lt HT.out.lt))); have HT := Lib.hid (HT.out.below hb); clear hb))
    | (go_at_call 129; ((with_reducible refine (orders_any _ _ _ _ _ _ _ _ (HT.out.alloc _) (by omega) (by decide) (by decide)).mono ?_); rintro e w' ⟨rfl, ht, hg⟩; have HB := Lib.hid (grown_below (HB.out.alloc (Nat.le_of_lt HT.out.lt) _) hg (by simp; exact Nat.le_of_lt (Nat.lt_succ_of_lt HT.out.lt))); have HT := Lib.hid ht; clear ht hg))
    | (go_at_call 130; ((with_reducible refine (more_any _ _ _ _ HT.out (by omega)).mono ?_); rintro e w' ⟨rfl, ht, hg⟩; have HB := Lib.hid (grown_below HB.out hg (Nat.le_of_lt HT.out.lt)); have HT := Lib.hid ht; clear ht hg))
    | (refine wpList_tab _ rfl _ _ _ (.inl rfl) w.heap.size _ _ rfl HT.out (by omega) _ (by decide) rfl _ _ _ rfl ?_; intro w1 ht hg; have HB := Lib.hid (grown_below HB.out hg (Nat.le_of_lt HT.out.lt)); have HT := Lib.hid ht; clear ht hg))
  go_ret
  exact ⟨_, rfl, Nat.le_refl _, HT.out.mono (by decide), HB.out⟩

end Go.Proofs.YtjhdlnllhjffkaaGreatDoor

namespace LamM
/-- A primitive's key. -/
def keyOf (p : Pr) : List UInt8 := if p.con = 1 then 114 :: p.nm else if p.con = 3 then 115 :: p.nm else p.nm
theorem key_len : ∀ p ∈ primTab, (keyOf p).length ≤ 100 := by decide
theorem nm_len : ∀ p ∈ primTab, p.nm.length ≤ 100 := by decide
theorem key_print : (primTab[58]?).map keyOf = some [112, 114, 105, 110, 116] := rfl
end LamM
namespace Go.Proofs.YtjhdlnllhjffkaaGreatDoor
open Go.RowKit LamM Go.Maps

set_option maxRecDepth 100000 in
set_option maxHeartbeats 2000000 in
theorem key_any (p : Pr) (ty : ByteArray) (rv : Value) (w : World) (hl : p.nm.length ≤ 100) : Calls Tryz.prog 63 #[.agg #[.string ⟨p.nm.toArray⟩, .int .i64 p.con, .int .i64 p.args, .string ty, rv]] w
    fun e w' => e = .returned (.string ⟨(LamM.keyOf p).toArray⟩) ∧ Below w.heap.size w w' := by
  have HB := Lib.hid ((Below.refl w.heap.size w).alloc (Nat.le_refl _) (.cells #[.string ⟨p.nm.toArray⟩, .int .i64 p.con, .int .i64 p.args, .string ty, rv] 70))
  have HBL := Blk.new w 70 #[.string ⟨p.nm.toArray⟩, .int .i64 p.con, .int .i64 p.args, .string ty, rv]
  have c0 := HBL.cell 0
  have c1 := HBL.cell 1
  have hs := size_mk p.nm
  have e1 := bytes_cons 114 p.nm
  have e2 := bytes_cons 115 p.nm
  obtain ⟨r, hr⟩ : ∃ r, LamM.keyOf p = r := ⟨_, rfl⟩
  rw [hr]
  unfold LamM.keyOf at hr
  clear HBL
  generalize p.con = con at *
  generalize p.nm = nm at *
  by_cases k0 : con = 0
  · have q0 := b_true k0
    rw [if_neg (by omega), if_neg (by omega)] at hr
    subst hr
    clear k0
    go_enter Tryz.func63, Tryz.ntmps63
    go_wp2_with fail
    go_ret
    exact ⟨rfl, HB.out⟩
  · have q0 := b_false k0
    by_cases k1 : con = 1
    · have q1 := b_true k1
      have q2 := b_false (show con ≠ 2 by omega)
      rw [if_pos k1] at hr
      subst hr
      clear k0 k1
      go_enter Tryz.func63, Tryz.ntmps63
      go_wp2_with fail
      go_ret
      exact ⟨rfl, HB.out⟩
    · have q1 := b_false k1
      rw [if_neg k1] at hr
      by_cases k2 : con = 2
      · have q2 := b_true k2
        rw [if_neg (by omega)] at hr
        subst hr
        clear k0 k1 k2
        go_enter Tryz.func63, Tryz.ntmps63
        go_wp2_with fail
        go_ret
        exact ⟨rfl, HB.out⟩
      · have q2 := b_false k2
        by_cases k3 : con = 3
        · have q3 := b_true k3
          rw [if_pos k3] at hr
          subst hr
          clear k0 k1 k2 k3
          go_enter Tryz.func63, Tryz.ntmps63
          go_wp2_with fail
          go_ret
          exact ⟨rfl, HB.out⟩
        · have q3 := b_false k3
          rw [if_neg k3] at hr
          subst hr
          clear k0 k1 k2 k3
          go_enter Tryz.func63, Tryz.ntmps63
          go_wp2_with fail
          go_ret
          exact ⟨rfl, HB.out⟩

theorem infoF : (Tryz.prog.info? FT).map (fun i => (i.zero, i.size, i.bytes)) = some (some .nilFunc, 1, 8) := by kernel_rfl
theorem undFs : Tryz.prog.underlying 117 = some (.slice FT) := by kernel_rfl
theorem spell5 {w : World} {ad : Addr} {i j : Nat} {v : Value} (h : w.cell? (ad.add (i + (j + 1))) = some v) : w.cell? ⟨(ad.add i).block, (ad.add i).off + (j + 1), none⟩ = some v := by
  rw [← add_of_add] at h; exact h
abbrev printF : Value := .func (.func 209) #[] #[]
theorem cell_plain {w : World} {a : Addr} {v : Value} (h : w.cell? a = some v) : w.cell? ⟨a.block, a.off, none⟩ = some v := by
  unfold World.cell? at h ⊢
  split at h
  · next c _ _ hc =>
    split at h
    · cases h
    · simp only [hc]; exact h
  · cases h
/-- The table of primitives, but for what they raise. -/
def PN (w : World) (P0 : Nat) (ad : Addr) : Prop :=
  ad.block < P0 ∧ ∀ i p, primTab[i]? = some p → ∃ ty RA rn rc, w.cell? (ad.add (i * 5)) = some (.string ⟨p.nm.toArray⟩) ∧ w.cell? (ad.add (i * 5 + 1)) = some (.int .i64 p.con) ∧ w.cell? (ad.add (i * 5 + 2)) = some (.int .i64 p.args) ∧
    w.cell? (ad.add (i * 5 + 3)) = some (.string ty) ∧ w.cell? (ad.add (i * 5 + 4)) = some (.slice RA rn rc)
theorem PN.of {w : World} {B n c : Nat} {ad : Addr} (h : PV w B (.slice (some ad) n c) primTab) : PN w B ad := by
  have hb : ad.block < B := by
    obtain ⟨ad', xs, c', e, _, _, h3, _⟩ := h
    injection e with e1 e2 e3
    injection e1 with e1
    rw [e1]; exact h3
  refine ⟨hb, fun i p hp => ?_⟩
  obtain ⟨ty, rv, _, hrv, h0, h1, h2, h3, h4⟩ := h.at_ hp
  obtain ⟨a, c, rfl, _⟩ := hrv
  exact ⟨ty, a, _, c, h0, h1, h2, h3, h4⟩
theorem PN.keep {w w' : World} {P0 : Nat} {ad : Addr} (h : PN w P0 ad) (hk : ∀ p : Addr, p.block = ad.block → w'.cell? p = w.cell? p) : PN w' P0 ad := by
  refine ⟨h.1, fun i p hp => ?_⟩
  obtain ⟨ty, RA, rn, rc, h0, h1, h2, h3, h4⟩ := h.2 i p hp
  exact ⟨ty, RA, rn, rc, (hk _ (block_of_add _ _)).trans h0, (hk _ (block_of_add _ _)).trans h1, (hk _ (block_of_add _ _)).trans h2, (hk _ (block_of_add _ _)).trans h3, (hk _ (block_of_add _ _)).trans h4⟩
/-- A machine while its table grows. -/
structure NmS (w0 : World) (B M P0 : Nat) (fuel : Int) (ad : Addr) (dv : Value) (vs : List Value) (k : Nat) (wr : World) : Prop where
  own : wr.ownsRow P0 FT 1 dv k vs
  tab : Tab wr B 100 (some printF)
  prv : PN wr P0 ad
  box : Blk wr M 119 #[.slice none 0 0, .int .i64 0, .int .i64 fuel, .slice none 0 0, dv]
  bel : Below w0.heap.size w0 wr
  hM : w0.heap.size ≤ M
  hMB : M < B
  hBP : B < P0
  hP : P0 ≤ wr.heap.size
  prt : ∀ u, vs[58]? = some u → u = printF
section
variable {w0 wr w' : World} {B M P0 k : Nat} {fuel : Int} {ad : Addr} {dv : Value} {vs : List Value}
theorem NmS.below (H : NmS w0 B M P0 fuel ad dv vs k wr) (hb : Below wr.heap.size wr w') : NmS w0 B M P0 fuel ad dv vs k w' :=
  ⟨ownsRow_below H.own hb, H.tab.below hb, H.prv.keep (fun p hp => hb.cell (by rw [hp]; exact Nat.lt_of_lt_of_le H.prv.1 H.hP)), H.box.below hb H.box.lt, H.bel.trans (hb.mono H.bel.size), H.hM, H.hMB, H.hBP, Nat.le_trans H.hP hb.size, H.prt⟩
theorem NmS.ne (H : NmS w0 B M P0 fuel ad dv vs k wr) : ad.block ≠ M := fun h => by
  obtain ⟨ty, RA, rn, rc, h0, _⟩ := H.prv.2 0 _ rfl
  have h1 : wr.cell? ⟨M, ad.off, none⟩ = some (.string ⟨[43].toArray⟩) := by
    rw [show ad.add (0 * 5) = ad by unfold Addr.add; simp] at h0
    rw [← h]; exact cell_plain h0
  rw [H.box.cell ad.off] at h1
  generalize ad.off = off at h1
  rcases (by omega : off = 0 ∨ off = 1 ∨ off = 2 ∨ off = 3 ∨ off = 4 ∨ 5 ≤ off) with rfl | rfl | rfl | rfl | rfl | h5
  · simp at h1
  · simp at h1
  · simp at h1
  · simp at h1
  · simp at h1
    rcases H.own.2 with ⟨e, _⟩ | ⟨_, _, _, e, _⟩ <;> (rw [e] at h1; cases h1)
  · rw [Array.getElem?_eq_none (by simp; omega)] at h1; cases h1
theorem fun_one {v : Value} (h : (∃ f a b, v = .func f a b) ∨ v = .nilFunc) : ∀ u ∈ [v], u.oneCell' = true := by
  intro u hu
  rw [List.mem_singleton.1 hu]
  rcases h with ⟨f, a, b, rfl⟩ | rfl <;> rfl
theorem fun_cells {v : Value} (h : (∃ f a b, v = .func f a b) ∨ v = .nilFunc) : v.cells = #[v] := by
  rcases h with ⟨f, a, b, rfl⟩ | rfl <;> rfl
/-- One function more. -/
theorem NmS.grow {v e : Value} {o : Obj} (H : NmS w0 B M P0 fuel ad dv vs k wr) (ho : w'.ownsRow P0 FT 1 e (k + 1) (vs ++ [v])) (hg : (wr.alloc o).grownBy w' dv.ownBlock) (hv : k = 58 → v = printF) :
    NmS w0 B M P0 fuel ad e (vs ++ [v]) (k + 1) (w'.setCell ⟨M, 4, none⟩ e) ∧ w'.cell? ⟨M, 4, none⟩ = some dv ∧ w'.frozen? ⟨M, 4, none⟩ = false := by
  have hdv : ∀ j, dv.ownBlock = some j → P0 ≤ j := fun j hj => (World.ownsRow.lt H.own j hj).1
  have h1 := H.hMB
  have h2 := H.hBP
  have h3 := H.hP
  have hb : Below P0 wr w' := ((Below.refl P0 wr).alloc h3 o).grown hg (by simp; omega) hdv
  have hx : Blk w' M 119 #[.slice none 0 0, .int .i64 0, .int .i64 fuel, .slice none 0 0, dv] := H.box.below hb (by omega)
  have hsz := hb.size
  have hs : (w'.setCell ⟨M, 4, none⟩ e).heap.size = w'.heap.size := by simp [World.setCell]
  have hlen : vs.length = k := by have := H.own.1; omega
  refine ⟨⟨?_, ?_, ?_, hx.set_ 4 e, (H.bel.trans (hb.mono (by have := H.hM; omega))).setCell (by exact H.hM) e, H.hM, H.hMB, H.hBP, by rw [hs]; omega, fun u hu => ?_⟩, hx.cell 4, hx.frozen 4⟩
  · refine ho.kept (row := some M) ⟨rfl, rfl, rfl, by simp [World.setCell], fun j _ hj => Below.heap_setCell w' _ e j (fun h => hj (by rw [h]))⟩ ?_
    cases hob : e.ownBlock with
    | none => exact .inl rfl
    | some j => refine .inr fun h => ?_; have := (World.ownsRow.lt ho j hob).1; have := Option.some.inj h; omega
  · obtain ⟨D, hD, hxx⟩ := H.tab
    have : w'.ownsMap Tryz.prog 9 funE B 100 D := by
      obtain ⟨es, clock, hbk, F, hz, hDD⟩ := hD
      exact ⟨es, clock, (hb.block B h2).trans hbk, F, hz, hDD⟩
    exact Tab.setCell ⟨D, this, hxx⟩ (by show M ≠ B; omega) e
  · refine H.prv.keep fun p hp => ?_
    have hpb : p.block < P0 := by rw [hp]; exact H.prv.1
    rw [World.cell?_setCell_other w' _ p e (fun h => H.ne (by have := congrArg Addr.block h; rw [← hp]; first | exact this | exact this.symm))]
    exact hb.cell hpb
  · rcases Nat.lt_or_ge 58 k with h | h
    · rw [List.getElem?_append_left (by omega)] at hu
      exact H.prt u hu
    · rcases Nat.eq_or_lt_of_le h with h | h
      · subst h
        rw [List.getElem?_append_right (by omega), hlen, Nat.sub_self] at hu
        have : v = u := by simpa using hu
        rw [← this]; exact hv rfl
      · rw [List.getElem?_eq_none (by simp; omega)] at hu; cases hu
end
end Go.Proofs.YtjhdlnllhjffkaaGreatDoor

namespace Go.Proofs.YtjhdlnllhjffkaaGreatDoor
open Go.RowKit LamM Go.Maps

/-- A machine that is new. -/
def NewPost (w : World) (fuel : Int) (e : Ending) (w' : World) : Prop :=
  ∃ M P0 ad dv B vs, e = .returned (.pointer (some ⟨M, 0, none⟩)) ∧ NmS w B M P0 fuel ad dv vs 61 w'
set_option maxRecDepth 100000 in
set_option maxHeartbeats 8000000 in
theorem new_any (fuel : Int) (w : World) : Calls Tryz.prog 43 #[.slice none 0 0, .int .i64 fuel] w (NewPost w fuel) := by
  obtain ⟨i0, hi0, hz0, hz1, hz2⟩ := info_parts infoF
  obtain ⟨W1, hW⟩ : ∃ W1, w.alloc (.cells #[.slice none 0 0, .int .i64 0, .int .i64 fuel, .slice none 0 0, .slice none 0 0] 119) = W1 := ⟨_, rfl⟩
  have hbw : Below w.heap.size w W1 := by rw [← hW]; exact (Below.refl _ _).alloc (Nat.le_refl _) _
  have HBX := Lib.hid (show Blk W1 w.heap.size 119 #[.slice none 0 0, .int .i64 0, .int .i64 fuel, .slice none 0 0, .slice none 0 0] by rw [← hW]; exact Blk.new _ _ _)
  have HB0 := Lib.hid hbw
  unfold NewPost
  clear hbw
  go_enter Tryz.func43, Tryz.ntmps43
  go_wp2_with fail
  go_at_call 62
  (with_reducible refine (table_any _).mono ?_)
  rintro e w2 ⟨B, rfl, hB, ht, hb2⟩
  have HT2 := Lib.hid ht
  have HX2 := Lib.hid (HBX.out.below hb2 HBX.out.lt)
  have HB2 := Lib.hid (HB0.out.trans (hb2.mono HB0.out.size))
  clear ht hb2
  go_wp2_with fail
  go_at_call 9
  (with_reducible refine (prims_any _).mono ?_)
  rintro e w3 ⟨pv, rfl, hpv, hb3⟩
  have hBM : w.heap.size < B := Nat.lt_of_lt_of_le HBX.out.lt hB
  obtain ⟨M, hM⟩ : ∃ M, w.heap.size = M := ⟨_, rfl⟩
  obtain ⟨PA, pc, hpe, hpc1, hpc2⟩ := hpv.len
  rw [primTab_len] at hpe
  subst hpe
  have HS0 := Lib.hid (show NmS w B M w3.heap.size fuel PA (.slice none 0 0) [] 0 w3 from ⟨World.ownsRow_nil _ _ _ _, HT2.out.below hb3, PN.of hpv, by rw [← hM]; exact HX2.out.below hb3 HX2.out.lt, HB2.out.trans (hb3.mono HB2.out.size), Nat.le_of_eq hM, by omega, Nat.lt_of_lt_of_le HT2.out.lt hb3.size, Nat.le_refl _, fun u h => by simp at h⟩)
  obtain ⟨P0, hP0⟩ : ∃ P, w3.heap.size = P := ⟨_, rfl⟩
  rw [hP0] at HS0
  rw [hM] at ⊢
  clear hpv hb3 HT2 HX2 HB2 HBX HB0 hW hB hM hBM hP0
  go_wp2_with fail
  go_loopw [16] (fun ix wr => ∃ (k : Nat) (dv : Value) (vs : List Value), k ≤ 61 ∧ ix = .int .i64 (k : Int) ∧ Hid (NmS w B M P0 fuel PA dv vs k wr)) (fun ix _ => 61 - (intOf ix).toNat)
  case atStart => exact ⟨0, .slice none 0 0, [], Nat.zero_le _, rfl, HS0⟩
  case round =>
    obtain ⟨k, dv, vs, hk, rfl, HS⟩ := hrel
    obtain ⟨wo, rfl⟩ : ∃ wo : World, wo = wr := ⟨_, rfl⟩
    rcases Nat.lt_or_ge k 61 with hlt | hge
    · obtain ⟨p, hp⟩ : ∃ p, primTab[k]? = some p := ⟨_, List.getElem?_eq_getElem (by rw [primTab_len]; omega)⟩
      obtain ⟨ty, RA, rn, rc, p0, p1, p2, p3, p4⟩ := HS.out.prv.2 k p hp
      replace p1 := spell5 (j := 0) p1
      replace p2 := spell5 (j := 1) p2
      replace p3 := spell5 (j := 2) p3
      replace p4 := spell5 (j := 3) p4
      have hpm := List.mem_of_getElem? hp
      have hnl := nm_len p hpm
      have hkl := key_len p hpm
      obtain ⟨W1, hW⟩ : ∃ W1, wo.alloc (.cells #[.string ⟨p.nm.toArray⟩, .int .i64 p.con, .int .i64 p.args, .string ty, .slice RA rn rc] 70) = W1 := ⟨_, rfl⟩
      have hbw : Below wo.heap.size wo W1 := by rw [← hW]; exact (Below.refl _ _).alloc (Nat.le_refl _) _
      have HPX := Lib.hid (show Blk W1 wo.heap.size 70 #[.string ⟨p.nm.toArray⟩, .int .i64 p.con, .int .i64 p.args, .string ty, .slice RA rn rc] by rw [← hW]; exact Blk.new _ _ _)
      have HS1 := Lib.hid ((HS.out.below hbw).below (Below.drew (Below.refl _ _)))
      obtain ⟨DA, dn, dc, rfl⟩ : ∃ a n c, dv = .slice a n c := by obtain ⟨a, c, e⟩ := ownsRow_slice HS1.out.own; exact ⟨_, _, _, e⟩
      have c4 : W1.drew.cell? ⟨M, 4, none⟩ = some (.slice DA dn dc) := HS1.out.box.cell 4
      have d0 : W1.drew.cell? ⟨wo.heap.size, 0, none⟩ = some (.string ⟨p.nm.toArray⟩) := HPX.out.drew.cell 0
      have d1 : W1.drew.cell? ⟨wo.heap.size, 1, none⟩ = some (.int .i64 p.con) := HPX.out.drew.cell 1
      have d2 : W1.drew.cell? ⟨wo.heap.size, 2, none⟩ = some (.int .i64 p.args) := HPX.out.drew.cell 2
      have d3 : W1.drew.cell? ⟨wo.heap.size, 3, none⟩ = some (.string ty) := HPX.out.drew.cell 3
      have d4 : W1.drew.cell? ⟨wo.heap.size, 4, none⟩ = some (.slice RA rn rc) := HPX.out.drew.cell 4
      have HKY := Lib.hid (key_any p ty (.slice RA rn rc) W1.drew hnl)
      have HKL := Lib.hid hkl
      have HPE : Hid (k = 58 → LamM.keyOf p = [112, 114, 105, 110, 116]) := Lib.hid (fun h => by subst h; have := key_print; rw [hp] at this; exact Option.some.inj this)
      have hkn : (k : Int) < 61 := by omega
      clear hp hpm hnl hkl hbw
      go_upto_region 6 with fail
      go_region_law (first
        | (refine step_append_any _ rfl _ _ 117 rfl P0 FT i0 .nilFunc 1 8 undFs hi0 hz0 hz1 hz2 rfl (by decide) _ _ _ rfl (HS4.out.own.alloc _) _ _ _ _ [_] rfl (Reads.blk' (Blk.new _ _ _) rfl) HON.out (by unfold maxLen; omega) (by omega) (by have := HS4.out.hP; simp; omega) ?_; intro v2 w5 hown5 hgrow5 hor5; obtain ⟨ea, ec, rfl⟩ := ownsRow_slice hown5; obtain ⟨hs5, c5, f5⟩ := HS4.out.grow hown5 hgrow5 HVP.out; have HS5 := Lib.hid hs5; clear hs5; clear hown5 hgrow5 hor5)
        | (go_simp; go_at_call 63; (with_reducible refine (HKY.out).mono ?_); rintro e w4 ⟨rfl, hb4⟩; have HS4 := Lib.hid (HS1.out.below hb4); obtain ⟨v, hlk, hvf, hvp⟩ := HS4.out.tab.look HKL.out; have HON := Lib.hid (fun_one hvf); have hvc := fun_cells hvf; unfold Value.cells at hvc; have HVP := Lib.hid (show k = 58 → v = printF from fun h => hvp (HPE.out h) _ rfl); have c4' : w4.cell? ⟨M, 4, none⟩ = some (.slice DA dn dc) := HS4.out.box.cell 4; have c4'' : (w4.alloc (.cells #[v] FT)).cell? ⟨M, 4, none⟩ = some (.slice DA dn dc) := (HS4.out.box.alloc _).cell 4; clear hb4 hvf hvp))
      all_goals
        go_wp2_with fail
        go_roundw
        case rel => exact ⟨k + 1, _, _, by omega, by go_num, HS5⟩
        case measure => simp [intOf]; omega
    · obtain rfl : k = 61 := by omega
      have q0 : (61 : Int) ≤ ((61 : Nat) : Int) := by decide
      clear hge hk
      go_wp2_with fail
      go_ret
      exact ⟨M, P0, PA, dv, B, vs, rfl, HS.out⟩
end Go.Proofs.YtjhdlnllhjffkaaGreatDoor

namespace LamM
theorem print_first : ∀ p ∈ primTab.take 58, p.nm ≠ [112, 114, 105, 110, 116] := by decide
theorem print_at : ∃ p, primTab[58]? = some p ∧ p.nm = [112, 114, 105, 110, 116] ∧ p.con = -1 := ⟨_, rfl, rfl, rfl⟩
theorem print_not {k : Nat} {p : Pr} (hk : k < 58) (hp : primTab[k]? = some p) : p.nm ≠ [112, 114, 105, 110, 116] :=
  print_first p (List.mem_of_getElem? (i := k) (by rw [List.getElem?_take, if_pos hk]; exact hp))
end LamM
namespace Go.Proofs.YtjhdlnllhjffkaaGreatDoor
open Go.RowKit LamM Go.Maps

end Go.Proofs.YtjhdlnllhjffkaaGreatDoor

namespace Go.Proofs.YtjhdlnllhjffkaaGreatDoor
open Go.RowKit LamM Go.Maps

/-- Only these blocks may have changed. -/
structure Only (bs : List Nat) (w w' : World) : Prop where
  os : w'.os = w.os
  tape : w'.tape = w.tape
  output : w'.output = w.output
  size : w.heap.size ≤ w'.heap.size
  block : ∀ k, k < w.heap.size → k ∉ bs → w'.heap[k]? = w.heap[k]?
section
variable {w w' w'' : World} {bs cs : List Nat} {B g n size base : Nat} {t e : TypeId} {xs : List Value} {v : Value} {arr : Array Value}
theorem Only.refl (bs : List Nat) (w : World) : Only bs w w := ⟨rfl, rfl, rfl, Nat.le_refl _, fun _ _ _ => rfl⟩
theorem Only.trans (h : Only bs w w') (k : Only bs w' w'') : Only bs w w'' :=
  ⟨k.os.trans h.os, k.tape.trans h.tape, k.output.trans h.output, Nat.le_trans h.size k.size, fun i hi hb => (k.block i (Nat.lt_of_lt_of_le hi h.size) hb).trans (h.block i hi hb)⟩
theorem Only.mono (h : Only bs w w') (hs : ∀ k ∈ bs, k ∈ cs) : Only cs w w' := ⟨h.os, h.tape, h.output, h.size, fun k hk hc => h.block k hk (fun hb => hc (hs k hb))⟩
theorem Only.alloc (h : Only bs w w') (o : Obj) : Only bs w (w'.alloc o) := h.trans ⟨rfl, rfl, rfl, by simp, fun k hk _ => Below.heap_alloc _ _ _ hk⟩
theorem Only.setCell (h : Only bs w w') {p : Addr} (hp : p.block ∈ bs ∨ w.heap.size ≤ p.block) (u : Value) : Only bs w (w'.setCell p u) :=
  ⟨h.os, h.tape, h.output, by simpa [World.setCell] using h.size, fun k hk hb => (Below.heap_setCell w' p u k (fun e => by subst e; rcases hp with h | h; exact hb h; omega)).trans (h.block k hk hb)⟩
theorem Only.drew (h : Only bs w w') : Only bs w w'.drew := ⟨h.os, h.tape, h.output, h.size, h.block⟩
theorem Only.drewN (h : Only bs w w') (k : Nat) : Only bs w (w'.drewN k) := ⟨h.os, h.tape, h.output, h.size, h.block⟩
theorem Only.of_below (h : Below w.heap.size w w') : Only bs w w' := ⟨h.os, h.tape, h.output, h.size, fun k hk _ => h.block k hk⟩
theorem Only.grown (h : Only bs w w') {row : Option Nat} (hg : w'.grownBy w'' row) (hr : ∀ k, row = some k → k ∈ bs ∨ w.heap.size ≤ k) : Only bs w w'' :=
  ⟨hg.os.trans h.os, hg.tape.trans h.tape, hg.output.trans h.output, Nat.le_trans h.size hg.size, fun k hk hb => (hg.block k (Nat.lt_of_lt_of_le hk h.size) (fun e => by rcases hr k e.symm with h | h; exact hb h; omega)).trans (h.block k hk hb)⟩
theorem Blk.only (h : Blk w g t arr) (ho : Only bs w w') (hg : g ∉ bs) : Blk w' g t arr := (ho.block g h.lt hg).trans h
theorem ownsRow_only (h : w.ownsRow base e size v n xs) (ho : Only bs w w') (hv : ∀ k, v.ownBlock = some k → k ∉ bs) : w'.ownsRow base e size v n xs := by
  refine ⟨h.1, ?_⟩
  rcases h.2 with hn | ⟨g, cap, cur, rfl, hb, hgg, rest⟩
  · exact .inl hn
  · exact .inr ⟨g, cap, cur, rfl, hb, (ho.block g (Array.getElem?_eq_some_iff.1 hgg).1 (hv g rfl)).trans hgg, rest⟩
theorem below_only {w0 : World} (h : Below B w0 w) (ho : Only bs w w') (hb : ∀ k ∈ bs, B ≤ k) (hB : B ≤ w.heap.size) : Below B w0 w' :=
  h.trans ⟨ho.os, ho.tape, ho.output, ho.size, fun k hk => ho.block k (by omega) (fun hc => by have := hb k hc; omega)⟩
theorem Only.one {M i : Nat} {u : Value} (h : Only [M] w w') : Only [M] w (w'.setCell ⟨M, i, none⟩ u) := h.setCell (.inl (List.mem_singleton.2 rfl)) u
end

abbrev runV (R : Nat) : Value := .pointer (some ⟨R, 0, none⟩)
def RC (M : Nat) (lv stk : Value) (node : Int) (env val : Value) (up : Bool) : Array Value := #[.pointer (some ⟨M, 0, none⟩), lv, stk, .int .i64 node, env, val, .bool up]
def MC (out : Value) (steps fuel : Int) (dv : Value) : Array Value := #[out, .int .i64 steps, .int .i64 fuel, .slice none 0 0, dv]

set_option maxRecDepth 100000 in
set_option maxHeartbeats 2000000 in
theorem step_ok (M : Nat) (out dv : Value) (steps fuel : Int) (w : World) (h : steps < fuel) (h0 : 0 ≤ steps) (h1 : fuel ≤ 1073741824) (hM : Blk w M 119 (MC out steps fuel dv)) :
    Calls Tryz.prog 46 #[runV M] w fun e w' => e = .returned (.tuple #[]) ∧ Blk w' M 119 (MC out (steps + 1) fuel dv) ∧ Only [M] w w' := by
  have c1 : w.cell? ⟨M, 1, none⟩ = some (.int .i64 steps) := hM.cell 1
  have c2 : w.cell? ⟨M, 2, none⟩ = some (.int .i64 fuel) := hM.cell 2
  have f1 := hM.frozen 1
  have HM := Lib.hid hM
  have q1 : decide (fuel ≤ steps) = false := decide_eq_false (by omega)
  have HL := Lib.hid hM.lt
  clear hM
  go_enter Tryz.func46, Tryz.ntmps46
  go_upto_region 0 with fail
  go_quiet (fail)
  go_wp2_with fail
  go_end0
  exact ⟨rfl, (HM.out.drewN nq).set_ 1 (.int .i64 (steps + 1)), ((Only.refl _ _).drewN nq).one⟩
end Go.Proofs.YtjhdlnllhjffkaaGreatDoor

namespace Go.Proofs.YtjhdlnllhjffkaaGreatDoor
open Go.RowKit LamM Go.Maps

/-- What Step panics with. -/
abbrev overV : Value := .iface 125 (.agg #[.int .i64 3])
set_option maxRecDepth 100000 in
set_option maxHeartbeats 2000000 in
theorem step_over (M : Nat) (out dv : Value) (steps fuel : Int) (w : World) (h : fuel ≤ steps) (hM : Blk w M 119 (MC out steps fuel dv)) :
    Calls Tryz.prog 46 #[runV M] w fun e w' => e = .panicked [{ v := overV, recovered := false }] ∧ Only [] w w' := by
  have c1 : w.cell? ⟨M, 1, none⟩ = some (.int .i64 steps) := hM.cell 1
  have c2 : w.cell? ⟨M, 2, none⟩ = some (.int .i64 fuel) := hM.cell 2
  have q1 : decide (fuel ≤ steps) = true := decide_eq_true (by omega)
  clear hM
  go_enter Tryz.func46, Tryz.ntmps46
  go_upto_region 0 with fail
  go_quiet (fail)
  go_wp2_with fail
  exact ⟨rfl, rfl, (Only.refl [] w).drewN nq⟩
theorem ta_over_nil : ∀ w, (Instr.typeAssert .nilIface 20 125 true).run Tryz.prog w = .ok (.tuple #[.agg #[.int .i64 0], .bool false]) w := fun w => by kernel_rfl
theorem ta_over : ∀ w, (Instr.typeAssert overV 20 125 true).run Tryz.prog w = .ok (.tuple #[.agg #[.int .i64 3], .bool true]) w := fun w => by kernel_rfl
set_option maxRecDepth 100000 in
set_option maxHeartbeats 4000000 in
theorem ended_nil (M ob on oc : Nat) (oa : Option Addr) (dv : Value) (steps fuel : Int) (oo st ex sp : Value) (w : World) (hM : Blk w M 119 (MC (.slice oa on oc) steps fuel dv)) (hO : Blk w ob 58 #[oo, st, ex, sp]) (_ : M ≠ ob) :
    Calls Tryz.prog 45 #[runV M, .nilIface, .pointer (some ⟨ob, 0, none⟩)] w fun e w' => e = .returned (.tuple #[]) ∧ Blk w' ob 58 #[.slice oa on oc, st, ex, .int .i64 steps] ∧ Only [ob] w w' := by
  have hta := ta_over_nil
  have HM0 := Lib.hid hM
  have HO0 := Lib.hid hO
  clear hM hO
  go_enter Tryz.func45, Tryz.ntmps45
  go_upto_region 5 with fail
  obtain ⟨W1, hW⟩ : ∃ W1, w.alloc (.cells #[.int .i64 0] 125) = W1 := ⟨_, rfl⟩
  have HO1 := Lib.hid (show Only [] w W1 by rw [← hW]; exact (Only.refl [] w).alloc _)
  rw [hW]
  clear hW
  have HM := Lib.hid (HM0.out.only HO1.out (by simp))
  have HO := Lib.hid (HO0.out.only HO1.out (by simp))
  have g0 : W1.cell? ⟨ob, 0, none⟩ = some oo := HO.out.cell 0
  have g3 : W1.cell? ⟨ob, 3, none⟩ = some sp := HO.out.cell 3
  have e0 : W1.frozen? ⟨ob, 0, none⟩ = false := HO.out.frozen 0
  have e3 : W1.frozen? ⟨ob, 3, none⟩ = false := HO.out.frozen 3
  have c0 : W1.drew.cell? ⟨M, 0, none⟩ = some (.slice oa on oc) := HM.out.cell 0
  have c1 : W1.drew.cell? ⟨M, 1, none⟩ = some (.int .i64 steps) := HM.out.cell 1
  have d0 : W1.drew.cell? ⟨ob, 0, none⟩ = some oo := HO.out.cell 0
  have d3 : W1.drew.cell? ⟨ob, 3, none⟩ = some sp := HO.out.cell 3
  have f0 : W1.drew.frozen? ⟨ob, 0, none⟩ = false := HO.out.frozen 0
  have f3 : W1.drew.frozen? ⟨ob, 3, none⟩ = false := HO.out.frozen 3
  go_region
  all_goals
    go_end0
    exact ⟨rfl, ((HO.out.set_ 0 (.slice oa on oc)).set_ 3 (.int .i64 steps)).drew, (((HO1.out.mono (by simp)).one).one).drew⟩
set_option maxRecDepth 100000 in
set_option maxHeartbeats 4000000 in
theorem ended_over (M ob on oc : Nat) (oa : Option Addr) (dv : Value) (steps fuel : Int) (oo st ex sp : Value) (w : World) (hM : Blk w M 119 (MC (.slice oa on oc) steps fuel dv)) (hO : Blk w ob 58 #[oo, st, ex, sp]) (hMO : M ≠ ob) :
    Calls Tryz.prog 45 #[runV M, overV, .pointer (some ⟨ob, 0, none⟩)] w fun e w' => e = .returned (.tuple #[]) ∧ Blk w' ob 58 #[.slice oa on oc, .int .i64 3, .string ⟨#[]⟩, .int .i64 steps] ∧ Only [ob] w w' := by
  have hta := ta_over
  have HM0 := Lib.hid hM
  have HO0 := Lib.hid hO
  clear hM hO
  go_enter Tryz.func45, Tryz.ntmps45
  have HOL := Lib.hid HO0.out.lt
  have z0 : (w.alloc (.cells #[.int .i64 3] 125)).cell? ⟨ob, 0, none⟩ = some oo := (HO0.out.alloc _).cell 0
  have z1 : (w.alloc (.cells #[.int .i64 3] 125)).cell? ⟨ob, 1, none⟩ = some st := (HO0.out.alloc _).cell 1
  have z2 : (w.alloc (.cells #[.int .i64 3] 125)).cell? ⟨ob, 2, none⟩ = some ex := (HO0.out.alloc _).cell 2
  have z3 : (w.alloc (.cells #[.int .i64 3] 125)).cell? ⟨ob, 3, none⟩ = some sp := (HO0.out.alloc _).cell 3
  have y0 := (HO0.out.alloc (.cells #[.int .i64 3] 125)).frozen 0
  have y1 := (HO0.out.alloc (.cells #[.int .i64 3] 125)).frozen 1
  have y2 := (HO0.out.alloc (.cells #[.int .i64 3] 125)).frozen 2
  have y3 := (HO0.out.alloc (.cells #[.int .i64 3] 125)).frozen 3
  go_upto_region 5 with fail
  clear z0 z1 z2 z3 y0 y1 y2 y3
  obtain ⟨W1, hW⟩ : ∃ W1, ((((w.alloc (.cells #[.int .i64 3] 125)).setCell ⟨ob, 0, none⟩ (.slice none 0 0)).setCell ⟨ob, 1, none⟩ (.int .i64 3)).setCell ⟨ob, 2, none⟩ (.string ⟨#[]⟩)).setCell ⟨ob, 3, none⟩ (.int .i64 0) = W1 := ⟨_, rfl⟩
  have HO1 := Lib.hid (show Only [ob] w W1 by rw [← hW]; exact (((((Only.refl [ob] w).alloc _).one).one).one).one)
  have HOX := Lib.hid (show Blk W1 ob 58 #[.slice none 0 0, .int .i64 3, .string ⟨#[]⟩, .int .i64 0] by rw [← hW]; exact ((((HO0.out.alloc _).set_ 0 (.slice none 0 0)).set_ 1 (.int .i64 3)).set_ 2 (.string ⟨#[]⟩)).set_ 3 (.int .i64 0))
  rw [hW]
  clear hW
  have HM := Lib.hid (HM0.out.only HO1.out (fun h => hMO (List.mem_singleton.1 h)))
  have HO := HOX
  have g0 : W1.cell? ⟨ob, 0, none⟩ = some (.slice none 0 0) := HO.out.cell 0
  have g3 : W1.cell? ⟨ob, 3, none⟩ = some (.int .i64 0) := HO.out.cell 3
  have e0 : W1.frozen? ⟨ob, 0, none⟩ = false := HO.out.frozen 0
  have e3 : W1.frozen? ⟨ob, 3, none⟩ = false := HO.out.frozen 3
  have c0 : W1.drew.cell? ⟨M, 0, none⟩ = some (.slice oa on oc) := HM.out.cell 0
  have c1 : W1.drew.cell? ⟨M, 1, none⟩ = some (.int .i64 steps) := HM.out.cell 1
  have d0 : W1.drew.cell? ⟨ob, 0, none⟩ = some (.slice none 0 0) := HO.out.cell 0
  have d3 : W1.drew.cell? ⟨ob, 3, none⟩ = some (.int .i64 0) := HO.out.cell 3
  have f0 : W1.drew.frozen? ⟨ob, 0, none⟩ = false := HO.out.frozen 0
  have f3 : W1.drew.frozen? ⟨ob, 3, none⟩ = false := HO.out.frozen 3
  go_region
  all_goals
    go_end0
    exact ⟨rfl, ((HO.out.set_ 0 (.slice oa on oc)).set_ 3 (.int .i64 steps)).drew, ((HO1.out.one).one).drew⟩
end Go.Proofs.YtjhdlnllhjffkaaGreatDoor

namespace Go.Proofs.YtjhdlnllhjffkaaGreatDoor
open Go.RowKit LamM Go.Maps

section
variable {P : Program} {md : Region.Mode} {ops : Array Oper} {Q : Exit → Act → List Frame → World → Prop}
theorem upon_mono {o : Oper} {a : Act} {K K' : Act → World → Prop} {QQ : Exit → Act → World → Prop} (h : ∀ a w, K a w → K' a w) : ∀ {r : Result Next}, o.upon P a K QQ r → o.upon P a K' QQ r := by
  intro r hr
  cases r with
  | ok n w' =>
    cases n <;> simp only [Oper.upon] at hr ⊢
    case value v => exact h _ _ hr
    case skip => exact h _ _ hr
    case defer d => exact h _ _ hr
    case enter f args =>
      refine Calls.mono hr fun e w'' he => ?_
      cases e with
      | returned v => exact h _ _ he
      | panicked c => exact he
      | outgrown => exact he
    case row row args => exact Rows.mono hr fun v w'' hv => h _ _ hv
  | halt x w' => cases x <;> simp only [Oper.upon] at hr ⊢ <;> exact hr
/-- One operation, the frames beside it. -/
def opS (P : Program) (ops : Array Oper) (Q : Exit → Act → List Frame → World → Prop) (i : Nat) (K : Act → List Frame → World → Prop) (a : Act) (cs : List Frame) (w : World) : Prop :=
  match ops[i]? with
  | none => K a cs w
  | some o =>
    if Region.wanted o (yielded ops a.tmps) then
      match (execOp a.eval o).run P w with
      | .ok .recover w' =>
        match recoverD cs with
        | some (v, cs') => K (a.put o.dst v) cs' w'
        | none => K (a.put o.dst .nilIface) cs w'
      | r => o.upon P a (fun a' w' => K a' cs w') (fun e a' w' => Q e a' cs w') r
    else K (a.put o.dst undef) cs w
theorem opS_mono {i : Nat} {K K' : Act → List Frame → World → Prop} (h : ∀ a cs w, K a cs w → K' a cs w) {a : Act} {cs : List Frame} {w : World} (hk : opS P ops Q i K a cs w) : opS P ops Q i K' a cs w := by
  unfold opS at hk ⊢
  split at hk
  · exact h _ _ _ hk
  · split at hk
    · next hw =>
      rw [if_pos hw]
      generalize (execOp a.eval _).run P w = r at hk ⊢
      rcases r with ⟨n, w'⟩ | ⟨x, w'⟩
      · cases n with
        | recover =>
          simp only at hk ⊢
          cases hrec : recoverD cs with
          | none => rw [hrec] at hk; exact h _ _ _ hk
          | some q => rw [hrec] at hk; exact h _ _ _ hk
        | value v => exact upon_mono (K := fun a' w' => K a' cs w') (fun a w hh => h a cs w hh) hk
        | skip => exact upon_mono (K := fun a' w' => K a' cs w') (fun a w hh => h a cs w hh) hk
        | defer d => exact upon_mono (K := fun a' w' => K a' cs w') (fun a w hh => h a cs w hh) hk
        | enter f args => exact upon_mono (K := fun a' w' => K a' cs w') (fun a w hh => h a cs w hh) hk
        | row row args => exact upon_mono (K := fun a' w' => K a' cs w') (fun a w hh => h a cs w hh) hk
        | _ => exact hk
      · exact upon_mono (K := fun a' w' => K a' cs w') (fun a w hh => h a cs w hh) hk
    · next hw => rw [if_neg hw]; exact h _ _ _ hk
theorem opsS_cons {i : Nat} {rest : List Nat} {a : Act} {cs : List Frame} {w : World} : wpOpsS P ops Q (i :: rest) a cs w = opS P ops Q i (wpOpsS P ops Q rest) a cs w := by
  unfold opS
  rw [wpOpsS]
  rfl
/-- Whatever order is picked. -/
def anyS (P : Program) (md : Region.Mode) (ops : Array Oper) (Q : Exit → Act → List Frame → World → Prop) : Nat → Array Bool → Act → List Frame → World → Prop
  | 0, listed, a, cs, w => Region.ready md ops listed = [] ∧ Q .normal a cs w
  | fuel + 1, listed, a, cs, w => (Region.ready md ops listed = [] → Q .normal a cs w) ∧ ∀ i ∈ Region.ready md ops listed, opS P ops Q i (anyS P md ops Q fuel (listed.setIfInBounds i true)) a cs w
theorem anyS_sound : ∀ (fuel t : Nat) (listed : Array Bool) (a : Act) (cs : List Frame) (w : World), anyS P md ops Q fuel listed a cs w → wpOpsS P ops Q (Region.linearise.go md ops fuel t listed []) a cs w := by
  intro fuel
  induction fuel with
  | zero => intro t listed a cs w h; simpa [Region.linearise.go, wpOpsS] using h.2
  | succ fuel ih =>
    intro t listed a cs w h
    obtain ⟨h0, h1⟩ := h
    simp only [Region.linearise.go]
    change wpOpsS P ops Q (match (Region.ready md ops listed)[t % (Region.ready md ops listed).length]? with
      | some i => Region.linearise.go md ops fuel (t / (Region.ready md ops listed).length) (listed.setIfInBounds i true) [i]
      | none => [].reverse) a cs w
    cases hi : (Region.ready md ops listed)[t % (Region.ready md ops listed).length]? with
    | none =>
      have hnil : Region.ready md ops listed = [] := by
        rcases hl : Region.ready md ops listed with _ | ⟨x, xs⟩
        · rfl
        · rw [hl, List.getElem?_eq_none_iff] at hi
          have := Nat.mod_lt t (show 0 < (x :: xs).length by simp)
          omega
      simpa [wpOpsS] using h0 hnil
    | some i =>
      simp only []
      rw [linearise_go_acc, List.reverse_singleton, List.singleton_append, opsS_cons]
      exact opS_mono (fun a cs w => ih _ _ a cs w) (h1 i (List.mem_of_getElem? hi))
theorem wpS_region_any {id : Nat} {a : Act} {cs : List Frame} {w : World} (hm : P.follows .mixedOrders = true) (h : anyS P .any ops Q ops.size (Array.replicate ops.size false) a cs w.drew) : (Code.region id ops true).wpS P Q a cs w := by
  intro b k hb hr
  have hs : wpOpsS P ops Q (Region.schedule (P.follows .mixedOrders) ops (w.tape w.drawn (.order b.fn id))) a cs { w with drawn := w.drawn + 1 } := by
    simp only [Region.schedule, hm, Bool.true_or, if_true]
    exact anyS_sound ops.size _ _ a cs _ h
  obtain ⟨e, a', cs', w', q, r⟩ := wp_opsS _ a cs _ hs b k hb hr
  exact ⟨e, a', cs', w', q, .of_steps (.one step_region_draw) r⟩
end
end Go.Proofs.YtjhdlnllhjffkaaGreatDoor
