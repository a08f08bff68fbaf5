/- Lambda: find, text, print, Prim. -/
import Derived.Test.YtmedfpejfpdpdaaGreatDoorLamACD
namespace Go.Proofs.YtmedfpejfpdpdaaGreatDoor
open Go.RowKit LamM Go.Maps

set_option maxRecDepth 100000 in
set_option maxHeartbeats 2000000 in
theorem find_one (sc : Nat) (v : Int) (ti : TypeId) (x out : Value) (w : World) (hS : Blk w sc 121 #[.int .i64 v, .iface ti x, out]) :
    Calls Tryz.prog 56 #[.pointer (some ⟨sc, 0, none⟩), .int .i64 v] w fun e w' => e = .returned (.iface ti x) ∧ w = w' := by
  have c0 : w.cell? ⟨sc, 0, none⟩ = some (.int .i64 v) := hS.cell 0
  have c1 : w.cell? ⟨sc, 1, none⟩ = some (.iface ti x) := hS.cell 1
  clear hS
  go_enter Tryz.func56, Tryz.ntmps56
  go_wp2_with fail
  refine wp_loop_rounds 1 ?_
  rw [rounds_succ]
  go_wp2_with fail
  go_ret
  exact ⟨rfl, rfl⟩
theorem ta_str {s : ByteArray} : ∀ w, (Instr.typeAssert (.iface 109 (.string s)) 81 109 true).run Tryz.prog w = .ok (.tuple #[.string s, .bool true]) w := fun w => by kernel_rfl
set_option maxRecDepth 100000 in
set_option maxHeartbeats 2000000 in
theorem text_str (m : Value) (s : ByteArray) (w : World) :
    Calls Tryz.prog 141 #[m, .iface 109 (.string s)] w fun e w' => e = .returned (.string s) ∧ w = w' := by
  have hta := ta_str (s := s)
  go_enter Tryz.func141, Tryz.ntmps141
  go_wp2_with fail
  go_ret
  exact ⟨rfl, rfl⟩
/-- A row of one: where it lies, what it holds. -/
theorem own_out {w : World} {base : Nat} {e : TypeId} {v u : Value} (h : w.ownsRow base e 1 v (0 + 1) ([] ++ [u])) : ∃ og oc, v = .slice (some ⟨og, 0, none⟩) 1 oc ∧ w.cell? ⟨og, 0, none⟩ = some u ∧ base ≤ og := by
  rcases h.2 with ⟨_, h0⟩ | ⟨g, cap, cur, rfl, hb, _⟩
  · cases h0
  · have := h.cells (g := g) rfl 0 u rfl
    rw [show (⟨g, 0, none⟩ : Addr).add 0 = ⟨g, 0, none⟩ from rfl] at this
    exact ⟨g, cap, rfl, this, hb⟩
theorem infoSt : (Tryz.prog.info? 9).map (fun i => (i.zero, i.size, i.bytes)) = some (some (.string ⟨#[]⟩), 1, 16) := by kernel_rfl
theorem undSts : Tryz.prog.underlying 56 = some (.slice 9) := by kernel_rfl
set_option maxRecDepth 100000 in
set_option maxHeartbeats 4000000 in
theorem print_any (M vg c : Nat) (s : ByteArray) (dv : Value) (steps fuel : Int) (w : World) (hM : Blk w M 97 (MC (.slice none 0 0) steps fuel dv)) (hv : w.cell? ⟨vg, 0, none⟩ = some (.iface 109 (.string s))) :
    Calls Tryz.prog 170 #[runV M, .slice (some ⟨vg, 0, none⟩) 1 c] w fun e w' => ∃ og oc, e = .returned (.tuple #[.iface 107 (.int .i64 0), .int .i64 0]) ∧
      Blk w' M 97 (MC (.slice (some ⟨og, 0, none⟩) 1 oc) steps fuel dv) ∧ w'.cell? ⟨og, 0, none⟩ = some (.string s) ∧ w.heap.size ≤ og ∧ Only [M] w w' := by
  obtain ⟨i0, hi0, hz0, hz1, hz2⟩ := info_parts infoSt
  have c0 : w.cell? ⟨M, 0, none⟩ = some (.slice none 0 0) := hM.cell 0
  have HM := Lib.hid hM
  have HTX := Lib.hid (fun w => text_str (runV M) s w)
  have hl := hM.lt
  have c0d : w.drew.cell? ⟨M, 0, none⟩ = some (.slice none 0 0) := c0
  have hvd : w.drew.cell? ⟨vg, 0, none⟩ = some (.iface 109 (.string s)) := hv
  have c0a : (w.drew.alloc (.cells #[.string s] 9)).cell? ⟨M, 0, none⟩ = some (.slice none 0 0) := (HM.out.drew.alloc _).cell 0
  clear hM
  go_enter Tryz.func170, Tryz.ntmps170
  go_upto_region 1 with fail
  go_region_law (first
    | (refine step_append_any _ rfl _ _ 56 rfl w.drew.heap.size 9 i0 _ 1 16 undSts hi0 hz0 hz1 hz2 rfl (by decide) _ 0 [] rfl (World.ownsRow_nil _ _ _ _) _ _ _ _ [_] rfl (Reads.blk' (Blk.new _ _ _) rfl) (by simp [Value.oneCell']) (by unfold maxLen; omega) (by omega) (by simp) ?_; intro v2 w5 hown5 hgrow5 _; obtain ⟨og, oc, ho, hoc, hge⟩ := own_out hown5; subst ho; have HB5 := Lib.hid (((Below.refl w.drew.heap.size w.drew).alloc (Nat.le_refl _) (.cells #[.string s] 9)).grown hgrow5 (by simp) (fun k hk => by cases hk)); have HM5 := Lib.hid (HM.out.drew.below HB5.out hl); have HOC := Lib.hid hoc; have HGE := Lib.hid hge; have c5 : w5.cell? ⟨M, 0, none⟩ = some (.slice none 0 0) := HM5.out.cell 0; have f5 := HM5.out.frozen 0; clear hown5 hgrow5 hoc hge)
    | (go_simp; go_at_call 141; (with_reducible refine (HTX.out _).mono ?_); rintro e w' ⟨rfl, rfl⟩))
  all_goals
    go_wp2_with fail
    go_ret2
    have hog : og ≠ M := by have := HGE.out; rw [show w.drew.heap.size = w.heap.size from rfl] at this; omega
    refine ⟨og, oc, rfl, HM5.out.set_ 0 (.slice (some ⟨og, 0, none⟩) 1 oc), ?_, HGE.out, (((Only.refl [M] w).drew).trans (Only.of_below HB5.out)).one⟩
    rw [World.cell?_setCell_other w5 _ _ _ (fun e => hog (by have := congrArg Addr.block e; first | exact this | exact this.symm))]
    exact HOC.out
end Go.Proofs.YtmedfpejfpdpdaaGreatDoor
