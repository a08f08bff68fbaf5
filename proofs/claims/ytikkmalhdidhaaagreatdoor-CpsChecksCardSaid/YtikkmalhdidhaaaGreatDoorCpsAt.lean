/- Cps: the runner finds an atom's value. -/
import Derived.Test.YtikkmalhdidhaaaGreatDoorCpsMf
namespace Go.Proofs.YtikkmalhdidhaaaGreatDoor
open Go.RowKit LamM CpsM Go.Maps

/-- The runner's cells: machine, nodes, place, scope, done?, outcome. -/
def RQ (M : Nat) (lv : Value) (at_ : Int) (env : Value) (over : Bool) (st : Int) : Array Value := #[.pointer (some ⟨M, 0, none⟩), lv, .int .i64 at_, env, .bool over, .slice none 0 0, .int .i64 st, .string ⟨#[]⟩, .int .i64 0]
/-- A scope, and those around it. -/
def EnvC (w : World) : Option Addr → List (Int × Value) → Prop
  | none, [] => True
  | some ⟨b, 0, none⟩, (v, x) :: r => ∃ o, Blk w b 189 #[.int .i64 v, x, .pointer o] ∧ EnvC w o r
  | _, _ => False
theorem only_cellC {w w' : World} {bs : List Nat} {p : Addr} {v : Value} (h : Only bs w w') (hp : p.block ∉ bs) (hc : w.cell? p = some v) : w'.cell? p = some v := (World.cell?_of_block (h.block _ (cell_lt hc) hp)).trans hc

set_option maxRecDepth 100000 in
set_option maxHeartbeats 4000000 in
/-- A number. -/
theorem atom_int (L : List Fl) (t : Fl) (i R M : Nat) (ad : Addr) (c : Nat) (at_ st : Int) (env : Value) (over : Bool) (w : World) (ht : L[i]? = some t) (hk : t.k = 2) (hN : NF w w.heap.size (.slice (some ad) L.length c) L) (hR : Blk w R 88 (RQ M (.slice (some ad) L.length c) at_ env over st)) :
    Calls Tryz.prog 75 #[runV R, .int .i64 (i : Int)] w fun e w' => e = .returned (.iface 190 (.int .i64 t.i)) ∧ Only [] w w' := by
  obtain ⟨adx, vv, kv, av, hadE, had, htv, a0, a1, a2, a3, a4, a5, a6, a7, a8⟩ := hN.at9 ht
  obtain rfl := Option.some.inj hadE
  obtain ⟨VA, vc, rfl, _, _⟩ := htv.v.len
  obtain ⟨KA, kc, rfl, _, _⟩ := htv.k.len
  obtain ⟨AA, ac, rfl, _, _⟩ := htv.a.len
  have r1 : w.cell? ⟨R, 1, none⟩ = some (.slice (some ad) L.length c) := hR.cell 1
  have hil : i < L.length := (List.getElem?_eq_some_iff.1 ht).1
  have hi : (i : Int) < (L.length : Int) := by omega
  have q2 := b_true hk
  obtain ⟨W, hW⟩ : ∃ W, w.alloc (BoxF t (.slice VA t.vars.length vc) (.slice KA t.keys.length kc) (.slice AA t.args.length ac)) = W := ⟨_, rfl⟩
  have HO := Lib.hid (show Only [] w W by rw [← hW]; exact (Only.refl _ _).alloc _)
  have HX := Lib.hid (show Blk W w.heap.size 40 #[.int .i64 t.k, .int .i64 t.n, .int .i64 t.m, .int .i64 t.i, .int .u64 t.b, .string ⟨t.t.toArray⟩, .slice VA t.vars.length vc, .slice KA t.keys.length kc, .slice AA t.args.length ac] by rw [← hW]; exact Blk.new _ _ _)
  have c0 : W.cell? ⟨w.heap.size, 0, none⟩ = some (.int .i64 t.k) := HX.out.cell 0
  have c3 : W.cell? ⟨w.heap.size, 3, none⟩ = some (.int .i64 t.i) := HX.out.cell 3
  unfold BoxF at hW
  clear ht hk hN hR htv hadE
  go_enter Tryz.func75, Tryz.ntmps75
  go_wp2_with fail
  go_ret
  exact ⟨rfl, HO.out⟩

set_option maxRecDepth 100000 in
set_option maxHeartbeats 4000000 in
/-- The variable that was bound last. -/
theorem atom_one (L : List Fl) (t : Fl) (i R M : Nat) (ad : Addr) (c : Nat) (at_ st : Int) (env : Value) (over : Bool) (w : World) (ht : L[i]? = some t) (hk : t.k = 1) (b : Nat) (x : Value) (o : Option Addr) (he : env = .pointer (some ⟨b, 0, none⟩)) (hS : Blk w b 189 #[.int .i64 t.n, x, .pointer o]) (hN : NF w w.heap.size (.slice (some ad) L.length c) L) (hR : Blk w R 88 (RQ M (.slice (some ad) L.length c) at_ env over st)) :
    Calls Tryz.prog 75 #[runV R, .int .i64 (i : Int)] w fun e w' => e = .returned x ∧ Only [] w w' := by
  obtain ⟨adx, vv, kv, av, hadE, had, htv, a0, a1, a2, a3, a4, a5, a6, a7, a8⟩ := hN.at9 ht
  obtain rfl := Option.some.inj hadE
  obtain ⟨VA, vc, rfl, _, _⟩ := htv.v.len
  obtain ⟨KA, kc, rfl, _, _⟩ := htv.k.len
  obtain ⟨AA, ac, rfl, _, _⟩ := htv.a.len
  have r1 : w.cell? ⟨R, 1, none⟩ = some (.slice (some ad) L.length c) := hR.cell 1
  have hil : i < L.length := (List.getElem?_eq_some_iff.1 ht).1
  have hi : (i : Int) < (L.length : Int) := by omega
  have q2 := b_false (show t.k ≠ 2 by omega)
  have q3 := b_false (show t.k ≠ 3 by omega)
  have q4 := b_false (show t.k ≠ 4 by omega)
  subst he
  obtain ⟨W, hW⟩ : ∃ W, w.alloc (BoxF t (.slice VA t.vars.length vc) (.slice KA t.keys.length kc) (.slice AA t.args.length ac)) = W := ⟨_, rfl⟩
  have HO := Lib.hid (show Only [] w W by rw [← hW]; exact (Only.refl _ _).alloc _)
  have HX := Lib.hid (show Blk W w.heap.size 40 #[.int .i64 t.k, .int .i64 t.n, .int .i64 t.m, .int .i64 t.i, .int .u64 t.b, .string ⟨t.t.toArray⟩, .slice VA t.vars.length vc, .slice KA t.keys.length kc, .slice AA t.args.length ac] by rw [← hW]; exact Blk.new _ _ _)
  have c0 : W.cell? ⟨w.heap.size, 0, none⟩ = some (.int .i64 t.k) := HX.out.cell 0
  have c1 : W.cell? ⟨w.heap.size, 1, none⟩ = some (.int .i64 t.n) := HX.out.cell 1
  have HRW := Lib.hid (hR.only HO.out (by simp))
  have r3 : W.cell? ⟨R, 3, none⟩ = some (.pointer (some ⟨b, 0, none⟩)) := HRW.out.cell 3
  have HS := Lib.hid (hS.only HO.out (by simp))
  have s0 : W.cell? ⟨b, 0, none⟩ = some (.int .i64 t.n) := HS.out.cell 0
  have s1 : W.cell? ⟨b, 1, none⟩ = some x := HS.out.cell 1
  have qn := b_true (show t.n = t.n from rfl)
  unfold BoxF at hW
  clear ht hk hN hR htv hadE hS
  go_enter Tryz.func75, Tryz.ntmps75
  go_wp2_with fail
  refine wp_loop_rounds 1 ?_
  rw [rounds_succ]
  go_wp2_with fail
  go_quiet (fail)
  go_wp2_with fail
  go_ret
  exact ⟨rfl, HO.out.drewN _⟩

set_option maxRecDepth 100000 in
set_option maxHeartbeats 4000000 in
/-- The variable that was bound ahead of it. -/
theorem atom_two (L : List Fl) (t : Fl) (i R M : Nat) (ad : Addr) (c : Nat) (at_ st : Int) (env : Value) (over : Bool) (w : World) (ht : L[i]? = some t) (hk : t.k = 1) (b b2 : Nat) (v1 : Int) (x1 x : Value) (o : Option Addr) (hne : v1 ≠ t.n) (he : env = .pointer (some ⟨b, 0, none⟩)) (hS : Blk w b 189 #[.int .i64 v1, x1, .pointer (some ⟨b2, 0, none⟩)]) (hS2 : Blk w b2 189 #[.int .i64 t.n, x, .pointer o]) (hN : NF w w.heap.size (.slice (some ad) L.length c) L) (hR : Blk w R 88 (RQ M (.slice (some ad) L.length c) at_ env over st)) :
    Calls Tryz.prog 75 #[runV R, .int .i64 (i : Int)] w fun e w' => e = .returned x ∧ Only [] w w' := by
  obtain ⟨adx, vv, kv, av, hadE, had, htv, a0, a1, a2, a3, a4, a5, a6, a7, a8⟩ := hN.at9 ht
  obtain rfl := Option.some.inj hadE
  obtain ⟨VA, vc, rfl, _, _⟩ := htv.v.len
  obtain ⟨KA, kc, rfl, _, _⟩ := htv.k.len
  obtain ⟨AA, ac, rfl, _, _⟩ := htv.a.len
  have r1 : w.cell? ⟨R, 1, none⟩ = some (.slice (some ad) L.length c) := hR.cell 1
  have hil : i < L.length := (List.getElem?_eq_some_iff.1 ht).1
  have hi : (i : Int) < (L.length : Int) := by omega
  have q2 := b_false (show t.k ≠ 2 by omega)
  have q3 := b_false (show t.k ≠ 3 by omega)
  have q4 := b_false (show t.k ≠ 4 by omega)
  subst he
  obtain ⟨W, hW⟩ : ∃ W, w.alloc (BoxF t (.slice VA t.vars.length vc) (.slice KA t.keys.length kc) (.slice AA t.args.length ac)) = W := ⟨_, rfl⟩
  have HO := Lib.hid (show Only [] w W by rw [← hW]; exact (Only.refl _ _).alloc _)
  have HX := Lib.hid (show Blk W w.heap.size 40 #[.int .i64 t.k, .int .i64 t.n, .int .i64 t.m, .int .i64 t.i, .int .u64 t.b, .string ⟨t.t.toArray⟩, .slice VA t.vars.length vc, .slice KA t.keys.length kc, .slice AA t.args.length ac] by rw [← hW]; exact Blk.new _ _ _)
  have c0 : W.cell? ⟨w.heap.size, 0, none⟩ = some (.int .i64 t.k) := HX.out.cell 0
  have c1 : W.cell? ⟨w.heap.size, 1, none⟩ = some (.int .i64 t.n) := HX.out.cell 1
  have HRW := Lib.hid (hR.only HO.out (by simp))
  have r3 : W.cell? ⟨R, 3, none⟩ = some (.pointer (some ⟨b, 0, none⟩)) := HRW.out.cell 3
  have HS := Lib.hid (hS.only HO.out (by simp))
  have HS2 := Lib.hid (hS2.only HO.out (by simp))
  have s0 : W.cell? ⟨b, 0, none⟩ = some (.int .i64 v1) := HS.out.cell 0
  have s2 : W.cell? ⟨b, 2, none⟩ = some (.pointer (some ⟨b2, 0, none⟩)) := HS.out.cell 2
  have u0 : W.cell? ⟨b2, 0, none⟩ = some (.int .i64 t.n) := HS2.out.cell 0
  have u1 : W.cell? ⟨b2, 1, none⟩ = some x := HS2.out.cell 1
  have qn := b_true (show t.n = t.n from rfl)
  have qm := b_false hne
  unfold BoxF at hW
  clear ht hk hN hR htv hadE hS hS2 hne
  go_enter Tryz.func75, Tryz.ntmps75
  go_wp2_with fail
  refine wp_loop_rounds 2 ?_
  rw [rounds_succ]
  go_wp2_with fail
  go_quiet (fail)
  go_wp2_with fail
  rw [rounds_succ]
  go_wp2_with fail
  go_quiet (fail)
  go_wp2_with fail
  go_ret
  exact ⟨rfl, HO.out.drewN _⟩

theorem infoVl : (Tryz.prog.info? 134).map (fun i => (i.zero, i.size, i.bytes)) = some (some .nilIface, 1, 16) := by kernel_rfl
theorem undVl : Tryz.prog.underlying 127 = some (.slice 134) := by kernel_rfl
/-- The row of values while it fills. -/
def fillV (xs : List Value) (n k : Nat) : List Value := xs.take k ++ List.replicate (n - k) .nilIface
theorem fillV_len {xs : List Value} {n k : Nat} (h : xs.length = n) (hk : k ≤ n) : (fillV xs n k).length = n := by unfold fillV; simp; omega
theorem fillV_set {xs : List Value} {n k : Nat} {x : Value} (h : xs.length = n) (hx : xs[k]? = some x) : (fillV xs n k).set k x = fillV xs n (k + 1) := by
  have hk : k < n := by have := (List.getElem?_eq_some_iff.1 hx).1; omega
  unfold fillV
  rw [List.set_append_right _ _ (by rw [List.length_take]; omega), List.length_take, show k - min k xs.length = 0 by omega, show n - k = (n - (k + 1)) + 1 by omega, List.replicate_succ, List.set_cons_zero, List.take_add_one, hx]
  simp
theorem fillV_all {xs : List Value} {n : Nat} (h : xs.length = n) : fillV xs n n = xs := by unfold fillV; simp [← h]
set_option maxRecDepth 100000 in
set_option maxHeartbeats 4000000 in
/-- The values of atoms. -/
theorem atoms_any (R : Nat) (l : List Int) (v : Value) (xs : List Value) (w : World) (hV : IV w w.heap.size v l) (hx : xs.length = l.length) (hl : l.length ≤ 100) (hI : ∀ x ∈ xs, ∃ ti y, x = .iface ti y)
    (hA : ∀ (i : Nat) (a : Int) (x : Value), l[i]? = some a → xs[i]? = some x → ∀ w', Only [] w w' → Calls Tryz.prog 75 #[runV R, .int .i64 a] w' fun e w'' => e = .returned x ∧ Only [] w' w'') :
    Calls Tryz.prog 73 #[runV R, v] w fun e w' => ∃ g, e = .returned (.slice (some ⟨g, 0, none⟩) l.length l.length) ∧ g = w.heap.size ∧ w'.ownsRow g 134 1 (.slice (some ⟨g, 0, none⟩) l.length l.length) l.length xs ∧ Only [] w w' := by
  obtain ⟨i0, hi0, hz0, hz1, hz2⟩ := info_parts infoVl
  obtain ⟨A, c, rfl, h1, h2⟩ := hV.len
  have HV := Lib.hid hV
  have HA := Lib.hid hA
  have HI := Lib.hid hI
  obtain ⟨n, hn⟩ : ∃ n, l.length = n := ⟨_, rfl⟩
  have HLN := Lib.hid hn
  have HXN := Lib.hid (show xs.length = n from hx.trans hn)
  rw [hn] at hl h1 ⊢
  clear hV hA hx hn hI
  go_enter Tryz.func73, Tryz.ntmps73
  go_wp2_with (refine wpList_make_full _ rfl _ _ _ rfl w.heap.size 134 i0 .nilIface 1 undVl hi0 hz0 hz1 _ _ _ _ n rfl rfl (by omega) (by omega) (by rw [hz2]; omega) (by unfold maxLen; omega) (Nat.le_refl _) ?_)
  intro w1 hown1 hgrow1
  rw [toList_madeCells_one] at hown1
  have ho1 : Only [] w w1 := (Only.refl [] w).grown hgrow1 (fun k hk => by cases hk)
  obtain ⟨g, hg⟩ : ∃ g, g = w.heap.size := ⟨_, rfl⟩
  rw [← hg] at hown1 ⊢
  have HO1 := Lib.hid ho1
  have HW1 := Lib.hid (show w1.ownsRow g 134 1 (.slice (some ⟨g, 0, none⟩) n n) n (fillV xs n 0) from hown1)
  have HG := Lib.hid hg
  clear hown1 hgrow1 ho1 hg
  go_wp2_with fail
  go_loopw [13] (fun ix wr => ∃ k : Nat, k ≤ n ∧ ix = .int .i64 (k : Int) ∧ Hid (wr.ownsRow g 134 1 (.slice (some ⟨g, 0, none⟩) n n) n (fillV xs n k)) ∧ Hid (Only [] w wr)) (fun ix _ => n - (intOf ix).toNat)
  case atStart => exact ⟨0, Nat.zero_le _, rfl, HW1, HO1⟩
  case round =>
    obtain ⟨k, hk, rfl, HW, HO⟩ := hrel
    rcases Nat.lt_or_ge k n with hlt | hge
    · obtain ⟨a, ha⟩ : ∃ a, l[k]? = some a := ⟨_, List.getElem?_eq_getElem (by have := HLN.out; omega)⟩
      obtain ⟨x, hxk⟩ : ∃ x, xs[k]? = some x := ⟨_, List.getElem?_eq_getElem (by have := HXN.out; omega)⟩
      obtain ⟨ti, y0, rfl⟩ := HI.out x (List.mem_of_getElem? hxk)
      obtain ⟨aa, rfl, _, ca0⟩ := HV.out.at_ ha
      have ca := only_cellC HO.out (by simp) ca0
      have HAT := Lib.hid (HA.out k a _ ha hxk wr HO.out)
      have hkn : (k : Int) < (n : Int) := by omega
      have HXK := Lib.hid hxk
      clear ha hxk ca0
      go_wp2_with (go_at_call 75; ((with_reducible refine (HAT.out).mono ?_); rintro e w4 ⟨rfl, ho4⟩; have HW4 := Lib.hid (ownsRow_only HW.out ho4 (by simp)); have HO4 := Lib.hid (HO.out.trans ho4); have c4 := World.ownsRow.cellAt HW4.out k (by omega); have f4 := World.ownsRow.frozenAt HW4.out k; have hst := (World.ownsRow.stored HW4.out k (.iface ti y0)).1; rw [fillV_set HXN.out HXK.out] at hst; have HW5 := Lib.hid hst; have HO5 := Lib.hid (HO4.out.setCell (p := ⟨g, k, none⟩) (.inr (by show w.heap.size ≤ g; have := HG.out; omega)) (.iface ti y0)); obtain ⟨y, hy⟩ : ∃ y, (fillV xs n k)[k]? = some y := ⟨_, List.getElem?_eq_getElem (by rw [fillV_len HXN.out hk]; exact hlt)⟩; rw [hy] at c4; clear ho4 hst hy))
      go_roundw
      case rel => exact ⟨k + 1, by omega, by go_num, HW5, HO5⟩
      case measure => simp [intOf]; omega
    · obtain rfl : k = n := by omega
      have q : (k : Int) ≤ (k : Int) := Int.le_refl _
      have HW2 := Lib.hid (show wr.ownsRow g 134 1 (.slice (some ⟨g, 0, none⟩) k k) k xs by have := HW.out; rw [fillV_all HXN.out] at this; exact this)
      clear hge hk
      go_wp2_with fail
      go_ret
      exact ⟨g, rfl, HG.out, HW2.out, HO.out⟩
end Go.Proofs.YtikkmalhdidhaaaGreatDoor
