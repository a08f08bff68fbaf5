/- Lambda: the place of print. Lambda: the runner's small steps: Step, come, on, pop, find, text, print, Prim. -/
import Derived.Test.YtmedfpejfpdpdaaGreatDoorLamAB
import Derived.BigQuiet
namespace LamM
theorem print_first : ∀ p ∈ primTab.take 58, p.nm ≠ [112, 114, 105, 110, 116] := by decide
theorem print_at : ∃ p, primTab[58]? = some p ∧ p.nm = [112, 114, 105, 110, 116] ∧ p.con = -1 := ⟨_, rfl, rfl, rfl⟩
theorem print_not {k : Nat} {p : Pr} (hk : k < 58) (hp : primTab[k]? = some p) : p.nm ≠ [112, 114, 105, 110, 116] :=
  print_first p (List.mem_of_getElem? (i := k) (by rw [List.getElem?_take, if_pos hk]; exact hp))
end LamM
namespace Go.Proofs.YtmedfpejfpdpdaaGreatDoor
open Go.RowKit LamM Go.Maps

set_option maxRecDepth 100000 in
set_option maxHeartbeats 2000000 in
theorem place_any (w : World) : Calls Tryz.prog 22 #[.string ⟨#[112, 114, 105, 110, 116]⟩, .int .i64 (-1)] w fun e w' => e = .returned (.int .i64 58) ∧ Below w.heap.size w w' := by
  go_enter Tryz.func22, Tryz.ntmps22
  go_wp2_with fail
  go_at_call 10
  (with_reducible refine (prims_any _).mono ?_)
  rintro e w1 ⟨pv, rfl, hpv, hb1⟩
  obtain ⟨PA, pc, hpe, hpc1, hpc2⟩ := hpv.len
  rw [primTab_len] at hpe
  subst hpe
  have HPN := Lib.hid (PN.of hpv)
  have HB := Lib.hid hb1
  clear hpv hb1
  go_wp2_with fail
  go_loopw [6] (fun ix wr => wr = w1 ∧ ∃ (k : Nat), k ≤ 58 ∧ ix = .int .i64 (k : Int)) (fun ix _ => 58 - (intOf ix).toNat)
  case atStart => exact ⟨rfl, 0, Nat.zero_le _, rfl⟩
  case round =>
    obtain ⟨rfl, k, hk, rfl⟩ := hrel
    obtain ⟨p, hp⟩ : ∃ p, primTab[k]? = some p := ⟨_, List.getElem?_eq_getElem (by rw [primTab_len]; omega)⟩
    obtain ⟨ty, RA, rn, rc, p0, p1, p2, p3, p4⟩ := HPN.out.2 k p hp
    replace p1 := spell5 (j := 0) p1
    have hkn : (k : Int) < 61 := by omega
    have q0 : decide ((k : Int) < 61) = true := decide_eq_true hkn
    rcases Nat.lt_or_ge k 58 with hlt | hge
    · have hne := print_not hlt hp
      have hnn : ¬ p.nm = [112, 114, 105, 110, 116] := hne
      clear hp hne
      go_wp2_with fail
      go_roundw
      case rel => exact ⟨by first | rfl | trivial, k + 1, by omega, by go_num⟩
      case measure => simp [intOf]; omega
    · have hk58 : k = 58 := by omega
      have HK := Lib.hid (show Value.int .i64 (k : Int) = .int .i64 58 by rw [hk58]; rfl)
      obtain ⟨p', hp', hnm, hcon⟩ := print_at
      rw [← hk58, hp] at hp'
      obtain rfl := Option.some.inj hp'
      rw [hnm] at p0
      rw [hcon] at p1
      clear hp hp' hnm hcon hk hge hk58
      go_wp2_with fail
      go_ret
      exact ⟨by rw [HK.out]; rfl, HB.out⟩
end Go.Proofs.YtmedfpejfpdpdaaGreatDoor

namespace Go.Proofs.YtmedfpejfpdpdaaGreatDoor
open Go.RowKit LamM Go.Maps

/-- Only these blocks may have changed. -/
structure Only (bs : List Nat) (w w' : World) : Prop where
  os : w'.os = w.os
  tape : w'.tape = w.tape
  output : w'.output = w.output
  size : w.heap.size ≤ w'.heap.size
  block : ∀ k, k < w.heap.size → k ∉ bs → w'.heap[k]? = w.heap[k]?
section
variable {w w' w'' : World} {bs cs : List Nat} {B g n size base : Nat} {t e : TypeId} {xs : List Value} {v : Value} {arr : Array Value}
theorem Only.refl (bs : List Nat) (w : World) : Only bs w w := ⟨rfl, rfl, rfl, Nat.le_refl _, fun _ _ _ => rfl⟩
theorem Only.trans (h : Only bs w w') (k : Only bs w' w'') : Only bs w w'' :=
  ⟨k.os.trans h.os, k.tape.trans h.tape, k.output.trans h.output, Nat.le_trans h.size k.size, fun i hi hb => (k.block i (Nat.lt_of_lt_of_le hi h.size) hb).trans (h.block i hi hb)⟩
theorem Only.mono (h : Only bs w w') (hs : ∀ k ∈ bs, k ∈ cs) : Only cs w w' := ⟨h.os, h.tape, h.output, h.size, fun k hk hc => h.block k hk (fun hb => hc (hs k hb))⟩
theorem Only.alloc (h : Only bs w w') (o : Obj) : Only bs w (w'.alloc o) := h.trans ⟨rfl, rfl, rfl, by simp, fun k hk _ => Below.heap_alloc _ _ _ hk⟩
theorem Only.setCell (h : Only bs w w') {p : Addr} (hp : p.block ∈ bs ∨ w.heap.size ≤ p.block) (u : Value) : Only bs w (w'.setCell p u) :=
  ⟨h.os, h.tape, h.output, by simpa [World.setCell] using h.size, fun k hk hb => (Below.heap_setCell w' p u k (fun e => by subst e; rcases hp with h | h; exact hb h; omega)).trans (h.block k hk hb)⟩
theorem Only.drew (h : Only bs w w') : Only bs w w'.drew := ⟨h.os, h.tape, h.output, h.size, h.block⟩
theorem Only.drewN (h : Only bs w w') (k : Nat) : Only bs w (w'.drewN k) := ⟨h.os, h.tape, h.output, h.size, h.block⟩
theorem Only.of_below (h : Below w.heap.size w w') : Only bs w w' := ⟨h.os, h.tape, h.output, h.size, fun k hk _ => h.block k hk⟩
theorem Only.grown (h : Only bs w w') {row : Option Nat} (hg : w'.grownBy w'' row) (hr : ∀ k, row = some k → k ∈ bs ∨ w.heap.size ≤ k) : Only bs w w'' :=
  ⟨hg.os.trans h.os, hg.tape.trans h.tape, hg.output.trans h.output, Nat.le_trans h.size hg.size, fun k hk hb => (hg.block k (Nat.lt_of_lt_of_le hk h.size) (fun e => by rcases hr k e.symm with h | h; exact hb h; omega)).trans (h.block k hk hb)⟩
theorem Blk.only (h : Blk w g t arr) (ho : Only bs w w') (hg : g ∉ bs) : Blk w' g t arr := (ho.block g h.lt hg).trans h
theorem ownsRow_only (h : w.ownsRow base e size v n xs) (ho : Only bs w w') (hv : ∀ k, v.ownBlock = some k → k ∉ bs) : w'.ownsRow base e size v n xs := by
  refine ⟨h.1, ?_⟩
  rcases h.2 with hn | ⟨g, cap, cur, rfl, hb, hgg, rest⟩
  · exact .inl hn
  · exact .inr ⟨g, cap, cur, rfl, hb, (ho.block g (Array.getElem?_eq_some_iff.1 hgg).1 (hv g rfl)).trans hgg, rest⟩
theorem below_only {w0 : World} (h : Below B w0 w) (ho : Only bs w w') (hb : ∀ k ∈ bs, B ≤ k) (hB : B ≤ w.heap.size) : Below B w0 w' :=
  h.trans ⟨ho.os, ho.tape, ho.output, ho.size, fun k hk => ho.block k (by omega) (fun hc => by have := hb k hc; omega)⟩
theorem Only.one {M i : Nat} {u : Value} (h : Only [M] w w') : Only [M] w (w'.setCell ⟨M, i, none⟩ u) := h.setCell (.inl (List.mem_singleton.2 rfl)) u
end

abbrev runV (R : Nat) : Value := .pointer (some ⟨R, 0, none⟩)
def RC (M : Nat) (lv stk : Value) (node : Int) (env val : Value) (up : Bool) : Array Value := #[.pointer (some ⟨M, 0, none⟩), lv, stk, .int .i64 node, env, val, .bool up]
def MC (out : Value) (steps fuel : Int) (dv : Value) : Array Value := #[out, .int .i64 steps, .int .i64 fuel, .slice none 0 0, dv]

set_option maxRecDepth 100000 in
set_option maxHeartbeats 2000000 in
theorem step_ok (M : Nat) (out dv : Value) (steps fuel : Int) (w : World) (h : steps < fuel) (h0 : 0 ≤ steps) (h1 : fuel ≤ 1073741824) (hM : Blk w M 97 (MC out steps fuel dv)) :
    Calls Tryz.prog 55 #[runV M] w fun e w' => e = .returned (.tuple #[]) ∧ Blk w' M 97 (MC out (steps + 1) fuel dv) ∧ Only [M] w w' := by
  have c1 : w.cell? ⟨M, 1, none⟩ = some (.int .i64 steps) := hM.cell 1
  have c2 : w.cell? ⟨M, 2, none⟩ = some (.int .i64 fuel) := hM.cell 2
  have f1 := hM.frozen 1
  have HM := Lib.hid hM
  have q1 : decide (fuel ≤ steps) = false := decide_eq_false (by omega)
  have HL := Lib.hid hM.lt
  clear hM
  go_enter Tryz.func55, Tryz.ntmps55
  go_upto_region 0 with fail
  go_quiet (fail)
  go_wp2_with fail
  go_end0
  exact ⟨rfl, (HM.out.drewN nq).set_ 1 (.int .i64 (steps + 1)), ((Only.refl _ _).drewN nq).one⟩
set_option maxRecDepth 100000 in
set_option maxHeartbeats 2000000 in
theorem come_any (R M : Nat) (lv stk env val x : Value) (ti : TypeId) (node : Int) (up : Bool) (w : World) (hR : Blk w R 83 (RC M lv stk node env val up)) :
    Calls Tryz.prog 58 #[runV R, .iface ti x] w fun e w' => e = .returned (.tuple #[]) ∧ Blk w' R 83 (RC M lv stk (-1) env (.iface ti x) false) ∧ Only [R] w w' := by
  have c3 : w.cell? ⟨R, 3, none⟩ = some (.int .i64 node) := hR.cell 3
  have c5 : w.cell? ⟨R, 5, none⟩ = some val := hR.cell 5
  have c6 : w.cell? ⟨R, 6, none⟩ = some (.bool up) := hR.cell 6
  have f3 := hR.frozen 3
  have f5 := hR.frozen 5
  have f6 := hR.frozen 6
  have HR := Lib.hid hR
  clear hR
  go_enter Tryz.func58, Tryz.ntmps58
  go_wp2_with fail
  go_end0
  exact ⟨rfl, (((HR.out.set_ 3 (.int .i64 (-1))).set_ 5 (.iface ti x)).set_ 6 (.bool false)), (((Only.refl _ _).one).one).one⟩
set_option maxRecDepth 100000 in
set_option maxHeartbeats 2000000 in
theorem on_any (R M : Nat) (lv stk env val : Value) (node : Int) (up : Bool) (k : Int) (EA : Option Addr) (w : World) (hR : Blk w R 83 (RC M lv stk node env val up)) :
    Calls Tryz.prog 63 #[runV R, .int .i64 k, .pointer EA] w fun e w' => e = .returned (.tuple #[]) ∧ Blk w' R 83 (RC M lv stk k (.pointer EA) val up) ∧ Only [R] w w' := by
  have c3 : w.cell? ⟨R, 3, none⟩ = some (.int .i64 node) := hR.cell 3
  have c4 : w.cell? ⟨R, 4, none⟩ = some env := hR.cell 4
  have f3 := hR.frozen 3
  have f4 := hR.frozen 4
  have HR := Lib.hid hR
  clear hR
  go_enter Tryz.func63, Tryz.ntmps63
  go_wp2_with fail
  go_end0
  exact ⟨rfl, ((HR.out.set_ 3 (.int .i64 k)).set_ 4 (.pointer EA)), ((Only.refl _ _).one).one⟩
set_option maxRecDepth 100000 in
set_option maxHeartbeats 2000000 in
theorem pop_one (R M g c : Nat) (lv env val : Value) (node : Int) (up : Bool) (w : World) (hc : 1 ≤ c) (hR : Blk w R 83 (RC M lv (.slice (some ⟨g, 0, none⟩) 1 c) node env val up)) :
    Calls Tryz.prog 62 #[runV R] w fun e w' => e = .returned (.tuple #[]) ∧ Blk w' R 83 (RC M lv (.slice (some ⟨g, 0, none⟩) 0 c) node env val up) ∧ Only [R] w w' := by
  have c2 : w.cell? ⟨R, 2, none⟩ = some (.slice (some ⟨g, 0, none⟩) 1 c) := hR.cell 2
  have f2 := hR.frozen 2
  have HR := Lib.hid hR
  clear hR
  go_enter Tryz.func62, Tryz.ntmps62
  go_region
  all_goals
    go_wp2_with fail
    go_end0
    exact ⟨rfl, (HR.out.set_ 2 (.slice (some ⟨g, 0, none⟩) 0 c)).drew, ((Only.refl _ _).one).drew⟩
end Go.Proofs.YtmedfpejfpdpdaaGreatDoor
