/- Walks of the library's shortest decimal: shortFloat. -/
import Derived.Test.YtceoapkkmgllaaaGreatDoorFloWalkE
import Derived.Test.YtceoapkkmgllaaaGreatDoorFloMem
namespace Go.Proofs.YtceoapkkmgllaaaGreatDoor
open Go.RowKit FloM

theorem pre_world (w : World) (b : Nat) (t : TypeId) (v0 v1 v2 x0 x1 x2 : Value) (hb : Blk w b t #[v0, v1, v2]) :
    Blk (((w.setCell ⟨b, 0, none⟩ x0).setCell ⟨b, 1, none⟩ x1).setCell ⟨b, 2, none⟩ x2) b t #[x0, x1, x2] ∧
    w.grownBy (((w.setCell ⟨b, 0, none⟩ x0).setCell ⟨b, 1, none⟩ x1).setCell ⟨b, 2, none⟩ x2) (some b) := by
  have g1 : w.grownBy (w.setCell ⟨b, 0, none⟩ x0) (some b) := only_setCell (p := ⟨b, 0, none⟩) (World.grownBy.refl w _) (.inl rfl) x0
  have g2 := only_setCell (p := ⟨b, 1, none⟩) g1 (.inl rfl) x1
  have g3 := only_setCell (p := ⟨b, 2, none⟩) g2 (.inl rfl) x2
  refine ⟨?_, g3⟩
  have h := ((hb.set_ 0 x0).set_ 1 x1).set_ 2 x2
  have e : ((#[v0, v1, v2].setIfInBounds 0 x0).setIfInBounds 1 x1).setIfInBounds 2 x2 = #[x0, x1, x2] := by simp
  rw [e] at h
  exact h

set_option maxRecDepth 100000 in
set_option maxHeartbeats 400000 in
theorem pre_any (e p lp : Int) (b : Nat) (w : World) (v0 v1 v2 : Value) (hb : Blk w b 192 #[v0, v1, v2]) (i : Nat) (hp : p = (i : Int) - 348) (hi : i < 696) (hi1 lo1 : Nat) (s : Nat)
   (c1 : w.cell? ⟨8, i * 2, none⟩ = some (.int .u64 (hi1 : Int))) (c2 : w.cell? ⟨8, i * 2 + 1, none⟩ = some (.int .u64 (lo1 : Int)))
   (he : -100000 ≤ e ∧ e ≤ 100000) (hl : -100000 ≤ lp ∧ lp ≤ 100000) (hs : (s : Int) = -(e + lp + 3)) :
    Calls Tryz.prog 192 #[.pointer (some ⟨b, 0, none⟩), .int .i64 e, .int .i64 p, .int .i64 lp] w fun e w' => e = .returned (.tuple #[]) ∧ Blk w' b 192 #[.int .u64 (hi1 : Int), .int .u64 (lo1 : Int), .int .i64 (s : Int)] ∧ w.grownBy w' (some b) := by
  have k0 : w.cell? ⟨b, 0, none⟩ = some v0 := hb.cell 0
  have k1 : w.cell? ⟨b, 1, none⟩ = some v1 := hb.cell 1
  have k2 : w.cell? ⟨b, 2, none⟩ = some v2 := hb.cell 2
  have f0 : w.frozen? ⟨b, 0, none⟩ = false := hb.frozen 0
  have f1 : w.frozen? ⟨b, 1, none⟩ = false := hb.frozen 1
  have f2 : w.frozen? ⟨b, 2, none⟩ = false := hb.frozen 2
  have hw := Lib.hid (pre_world w b _ v0 v1 v2 (.int .u64 (hi1 : Int)) (.int .u64 (lo1 : Int)) (.int .i64 (s : Int)) hb)
  rw [hs] at hw
  subst hp
  have hs' := Lib.hid hs
  clear hb hs
  go_enter Tryz.func192, Tryz.ntmps192
  go_wp2
  go_end0
  rw [hs'.out]
  exact ⟨rfl, hw.out⟩

theorem M64_eq : M64 = 18446744073709551616 := by decide

set_option maxRecDepth 100000 in
set_option maxHeartbeats 400000 in
theorem nudge_any0 (u : Nat) (d : Int) (w : World) :
    Calls Tryz.prog 195 #[.int .u64 u, .int .i64 d] w fun e w' => e = .returned (.int .u64 (IntKind.u64.wrap (u + IntKind.u64.wrap d))) ∧ w = w' := by
  go_enter Tryz.func195, Tryz.ntmps195
  go_wp2
  go_ret
  exact ⟨rfl, rfl⟩
theorem nudge_up (u : Nat) (d : Nat) (w : World) :
    Calls Tryz.prog 195 #[.int .u64 u, .int .i64 (d : Int)] w fun e w' => e = .returned (.int .u64 (nudgeP u d : Nat)) ∧ w = w' :=
  (nudge_any0 u d w).mono fun _ _ ⟨h1, h2⟩ => ⟨h1.trans (ret_int (by rw [IntKind.wrap_u64, IntKind.wrap_u64]; unfold nudgeP; rw [M64_eq]; omega)), h2⟩
theorem nudge_dn (u : Nat) (d : Nat) (hd : d ≤ 1) (w : World) :
    Calls Tryz.prog 195 #[.int .u64 u, .int .i64 (-(d : Int))] w fun e w' => e = .returned (.int .u64 (nudgeM u d : Nat)) ∧ w = w' :=
  (nudge_any0 u (-(d : Int)) w).mono fun _ _ ⟨h1, h2⟩ => ⟨h1.trans (ret_int (by rw [IntKind.wrap_u64, IntKind.wrap_u64]; unfold nudgeM; rw [M64_eq]; omega)), h2⟩

set_option maxRecDepth 100000 in
set_option maxHeartbeats 400000 in
theorem ceil_u (u : Nat) (w : World) :
    Calls Tryz.prog 196 #[.int .u64 u] w fun e w' => e = .returned (.int .u64 (uceil u : Nat)) ∧ w = w' := by
  have he : IntKind.u64.wrap (↑u + 3) / 4 = ((uceil u : Nat) : Int) := by rw [IntKind.wrap_u64]; unfold uceil; rw [M64_eq]; omega
  rw [← he]
  clear he
  go_enter Tryz.func196, Tryz.ntmps196
  go_wp2
  go_ret
  exact ⟨rfl, rfl⟩
set_option maxRecDepth 100000 in
set_option maxHeartbeats 400000 in
theorem floor_u (u : Nat) (hu : u < M64) (w : World) :
    Calls Tryz.prog 197 #[.int .u64 u] w fun e w' => e = .returned (.int .u64 (ufloor u : Nat)) ∧ w = w' := by
  have he : IntKind.u64.wrap ↑u / 4 = ((ufloor u : Nat) : Int) := by rw [M64_eq] at hu; rw [IntKind.wrap_u64]; unfold ufloor; omega
  rw [← he]
  clear he hu
  go_enter Tryz.func197, Tryz.ntmps197
  go_wp2
  go_ret
  exact ⟨rfl, rfl⟩
theorem and1 (k : Nat) (hk : k < 18446744073709551616) : bits .and .u64 (k : Int) 1 = ((k % 2 : Nat) : Int) := by
  have h := u64_and_nat k 1 hk (by decide)
  rw [Nat.and_one_is_mod] at h
  exact h
set_option maxRecDepth 100000 in
set_option maxHeartbeats 400000 in
theorem round_u (u : Nat) (hu : u < M64) (w : World) :
    Calls Tryz.prog 198 #[.int .u64 u] w fun e w' => e = .returned (.int .u64 (uround u : Nat)) ∧ w = w' := by
  have he : IntKind.u64.wrap (IntKind.u64.wrap (↑u + 1) + bits BinOp.and IntKind.u64 (↑u / 4) 1) / 4 = ((uround u : Nat) : Int) := by
    rw [M64_eq] at hu
    have := and1 (u / 4) (by omega)
    have e : ((u / 4 : Nat) : Int) = (u : Int) / 4 := by omega
    rw [e] at this
    rw [this, IntKind.wrap_u64, IntKind.wrap_u64]; unfold uround; rw [M64_eq]; omega
  rw [← he]
  clear he hu
  go_enter Tryz.func198, Tryz.ntmps198
  go_wp2
  go_ret
  exact ⟨rfl, rfl⟩
set_option maxRecDepth 100000 in
set_option maxHeartbeats 400000 in
theorem l10_any (x : Int) (w : World) (hx : -5000 ≤ x ∧ x ≤ 5000) :
    Calls Tryz.prog 166 #[.int .i64 x] w fun e w' => e = .returned (.int .i64 (l10p2 x)) ∧ w = w' := by
  go_enter Tryz.func166, Tryz.ntmps166
  go_wp2
  go_ret
  exact ⟨rfl, rfl⟩
set_option maxRecDepth 100000 in
set_option maxHeartbeats 400000 in
theorem l2_any (x : Int) (w : World) (hx : -5000 ≤ x ∧ x ≤ 5000) :
    Calls Tryz.prog 193 #[.int .i64 x] w fun e w' => e = .returned (.int .i64 (l2p10 x)) ∧ w = w' := by
  go_enter Tryz.func193, Tryz.ntmps193
  go_wp2
  go_ret
  exact ⟨rfl, rfl⟩
set_option maxRecDepth 100000 in
set_option maxHeartbeats 400000 in
theorem skw_any (x : Int) (w : World) (hx : -5000 ≤ x ∧ x ≤ 5000) :
    Calls Tryz.prog 191 #[.int .i64 x] w fun e w' => e = .returned (.int .i64 (skw x)) ∧ w = w' := by
  go_enter Tryz.func191, Tryz.ntmps191
  go_wp2
  go_ret
  exact ⟨rfl, rfl⟩
end Go.Proofs.YtceoapkkmgllaaaGreatDoor
