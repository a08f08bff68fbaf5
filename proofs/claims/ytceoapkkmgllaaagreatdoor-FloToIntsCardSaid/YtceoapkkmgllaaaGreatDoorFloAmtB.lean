/- Amounts: addD. -/
import Derived.Test.YtceoapkkmgllaaaGreatDoorFloAmtA
import Derived.IntWalk
namespace Go.Proofs.YtceoapkkmgllaaaGreatDoor
open Go.RowKit FloM

theorem info16 : (Tryz.prog.info? 102).map (fun i => (i.zero, i.size, i.bytes)) = some (some (.int .u16 0), 1, 2) := by kernel_rfl
theorem und16 : Tryz.prog.underlying 68 = some (.slice 102) := by kernel_rfl

/-- What is gathered in a row of the call's own. -/
def Own (base : Nat) (w : World) (v : Value) (k N : Nat) : Prop := w.ownsRow base 102 1 v k (vals (fd k N))

theorem Own.DS {base : Nat} {w : World} {v : Value} {k N : Nat} (h : Own base w v k N) (hN : N < 65536 ^ k) : DS w v k N := by
  rcases h.2 with ⟨rfl, h0⟩ | ⟨g, cap, cur, rfl, h1, h2, h3, h4, h5⟩
  · subst h0
    exact ⟨none, 0, rfl, Nat.le_refl _, by unfold maxLen; omega, hN, Reads.none_⟩
  · exact ⟨_, _, rfl, h3, h4, hN, Reads.of_own (c := cap) h⟩

/-- One digit more. -/
theorem Own.more {base : Nat} {w : World} {v : Value} {k N : Nat} {d : Int} (h : w.ownsRow base 102 1 v (k + 1) (vals (fd k N) ++ [.int .u16 d])) (hd : d = (dg N k : Nat)) : Own base w v (k + 1) N := by
  unfold Own
  rw [fd_succ, vals_app]
  subst hd
  exact h

/-- The cells of the one digit that is appended. -/
theorem one_cell (w : World) (d : Int) (t : TypeId) : ∀ j u, [Value.int .u16 d][j]? = some u → (w.alloc (.cells #[.int .u16 d] t)).cell? ((⟨w.heap.size, 0, none⟩ : Addr).add j) = some u := by
  intro j u hj
  match j, hj with
  | 0, hj => simp at hj; subst hj; simp [Addr.add]
theorem one_one (d : Int) : ∀ u ∈ [Value.int .u16 d], u.oneCell' = true := by
  intro u hu; simp at hu; subst hu; rfl

set_option maxRecDepth 100000 in
set_option maxHeartbeats 1000000 in
theorem add_any' (A B : Option Addr) (c d a b : Nat) (w : World) (hb1 : nd a ≤ 100000) (hb2 : nd b ≤ 100000) (hr : Reads w w.heap.size 1 A (nd a) (vals (fd (nd a) a))) (hs : Reads w w.heap.size 1 B (nd b) (vals (fd (nd b) b))) :
    Calls Tryz.prog 99 #[.slice A (nd a) c, .slice B (nd b) d] w fun e w' => ∃ v, e = .returned v ∧ Own w.heap.size w' v (nd (a + b)) (a + b) ∧ Below w.heap.size w w' := by
  obtain ⟨i0, hi0, hz0, hz1, hz2⟩ := info_parts info16
  have hR := Lib.hid hr
  have hS := Lib.hid hs
  have hb3 : nd (a + b) ≤ 100001 := by
    have := cyA_done (a := a) (b := b) (i := max (nd a) (nd b) + 1) (by omega) (by omega) (by
      unfold cyA
      have h1 : a < 65536 ^ max (nd a) (nd b) := (nd_le a _).1 (by omega)
      have h2 : b < 65536 ^ max (nd a) (nd b) := (nd_le b _).1 (by omega)
      apply Nat.div_eq_of_lt
      have h3 := Nat.mod_le a (65536 ^ (max (nd a) (nd b) + 1))
      have h4 := Nat.mod_le b (65536 ^ (max (nd a) (nd b) + 1))
      rw [Nat.pow_succ] at *
      omega)
    omega
  clear hr hs
  go_enter Tryz.func99, Tryz.ntmps99
  go_wp2
  go_loopw [5, 6, 7] (fun o cy i wr => ∃ k : Nat, k ≤ nd (a + b) ∧ Own w.heap.size wr o k (a + b) ∧ cy = .int .u32 (cyA a b k : Nat) ∧ i = .int .i64 k ∧ Below w.heap.size w wr) (fun _ _ i _ => nd (a + b) - (intOf i).toNat)
  case atStart => exact ⟨0, Nat.zero_le _, World.ownsRow_nil _ _ _ _, by rw [cyA_zero]; rfl, rfl, Below.refl _ _⟩
  case round =>
    obtain ⟨k, hk, hown, rfl, rfl, hbel⟩ := hrel
    have hcy := cyA_le a b k
    have hstep := cyA_step a b k
    by_cases h1 : k < nd a
    · have hm := cyA_more (b := b) (.inl h1)
      obtain ⟨ad, rfl, ha, hcell⟩ := DS.at_ hR.out h1
      rw [← hbel.cell (by rw [block_of_add]; exact ha)] at hcell
      have hx := dg_lt a k
      by_cases h2 : k < nd b
      · obtain ⟨bd, rfl, hb, hcell2⟩ := DS.at_ hS.out h2
        rw [← hbel.cell (by rw [block_of_add]; exact hb)] at hcell2
        have hy := dg_lt b k
        have HS := Lib.hid hstep
        clear hstep
        generalize dg a k = x at *
        generalize dg b k = y at *
        generalize cyA a b k = cy at *
        have hown' : wr.ownsRow w.heap.size 102 1 _ k (vals (fd k (a + b))) := hown
        have hsz := hbel.size
        clear hown
        go_wp2_with (at_builtin; refine wpList_append_own _ rfl _ _ 68 rfl w.heap.size 102 i0 (.int .u16 0) 1 2 und16 hi0 hz0 hz1 hz2 rfl (by decide) _ _ _ rfl (hown'.alloc _) ⟨wr.heap.size, 0, none⟩ 1 1 [_] rfl rfl (one_cell wr _ _) (one_one _) (by unfold maxLen; omega) (by omega) (by simp; omega) ?_)
        intro v' w1 hown1 hgrow _
        have hown2 := Own.more hown1 (by have := HS.out.1; first | (rw [IntKind.wrap_u16]; omega) | omega)
        have bel2 := (hbel.alloc hsz _).grown hgrow (by simp; omega) (fun j hj => (hown'.lt j hj).1)
        clear hown1 hgrow hown' hbel
        go_wp2
        go_roundw
        case rel => exact ⟨k + 1, hm, hown2, by have := HS.out.2; go_num, by go_num, bel2⟩
        case measure => simp [intOf]; omega
      · have d2 : decide (k < nd b) = false := decide_eq_false h2
        rw [dg_zero ((nd_le b k).1 (by omega)), Nat.add_zero] at hstep
        clear h2
        have HS := Lib.hid hstep
        clear hstep
        generalize dg a k = x at *
        generalize cyA a b k = cy at *
        have hown' : wr.ownsRow w.heap.size 102 1 _ k (vals (fd k (a + b))) := hown
        have hsz := hbel.size
        clear hown
        go_wp2_with (at_builtin; refine wpList_append_own _ rfl _ _ 68 rfl w.heap.size 102 i0 (.int .u16 0) 1 2 und16 hi0 hz0 hz1 hz2 rfl (by decide) _ _ _ rfl (hown'.alloc _) ⟨wr.heap.size, 0, none⟩ 1 1 [_] rfl rfl (one_cell wr _ _) (one_one _) (by unfold maxLen; omega) (by omega) (by simp; omega) ?_)
        intro v' w1 hown1 hgrow _
        have hown2 := Own.more hown1 (by have := HS.out.1; first | (rw [IntKind.wrap_u16]; omega) | omega)
        have bel2 := (hbel.alloc hsz _).grown hgrow (by simp; omega) (fun j hj => (hown'.lt j hj).1)
        clear hown1 hgrow hown' hbel
        go_wp2
        go_roundw
        case rel => exact ⟨k + 1, hm, hown2, by have := HS.out.2; go_num, by go_num, bel2⟩
        case measure => simp [intOf]; omega
    · have d1 : decide (k < nd a) = false := decide_eq_false h1
      by_cases h2 : k < nd b
      · have hm := cyA_more (a := a) (.inr (.inl h2))
        obtain ⟨bd, rfl, hb, hcell2⟩ := DS.at_ hS.out h2
        rw [← hbel.cell (by rw [block_of_add]; exact hb)] at hcell2
        have hy := dg_lt b k
        rw [dg_zero ((nd_le a k).1 (by omega)), Nat.add_zero] at hstep
        clear h1
        have HS := Lib.hid hstep
        clear hstep
        generalize dg b k = y at *
        generalize cyA a b k = cy at *
        have hown' : wr.ownsRow w.heap.size 102 1 _ k (vals (fd k (a + b))) := hown
        have hsz := hbel.size
        clear hown
        go_wp2_with (at_builtin; refine wpList_append_own _ rfl _ _ 68 rfl w.heap.size 102 i0 (.int .u16 0) 1 2 und16 hi0 hz0 hz1 hz2 rfl (by decide) _ _ _ rfl (hown'.alloc _) ⟨wr.heap.size, 0, none⟩ 1 1 [_] rfl rfl (one_cell wr _ _) (one_one _) (by unfold maxLen; omega) (by omega) (by simp; omega) ?_)
        intro v' w1 hown1 hgrow _
        have hown2 := Own.more hown1 (by have := HS.out.1; first | (rw [IntKind.wrap_u16]; omega) | omega)
        have bel2 := (hbel.alloc hsz _).grown hgrow (by simp; omega) (fun j hj => (hown'.lt j hj).1)
        clear hown1 hgrow hown' hbel
        go_wp2
        go_roundw
        case rel => exact ⟨k + 1, hm, hown2, by have := HS.out.2; go_num, by go_num, bel2⟩
        case measure => simp [intOf]; omega
      · have d2 : decide (k < nd b) = false := decide_eq_false h2
        rw [dg_zero ((nd_le a k).1 (by omega)), dg_zero ((nd_le b k).1 (by omega)), Nat.add_zero, Nat.add_zero] at hstep
        by_cases h3 : 0 < cyA a b k
        · have hm := cyA_more (.inr (.inr h3))
          clear h1 h2
          have HS := Lib.hid hstep
          clear hstep
          generalize cyA a b k = cy at *
          have hown' : wr.ownsRow w.heap.size 102 1 _ k (vals (fd k (a + b))) := hown
          have hsz := hbel.size
          clear hown
          go_wp2_with (at_builtin; refine wpList_append_own _ rfl _ _ 68 rfl w.heap.size 102 i0 (.int .u16 0) 1 2 und16 hi0 hz0 hz1 hz2 rfl (by decide) _ _ _ rfl (hown'.alloc _) ⟨wr.heap.size, 0, none⟩ 1 1 [_] rfl rfl (one_cell wr _ _) (one_one _) (by unfold maxLen; omega) (by omega) (by simp; omega) ?_)
          intro v' w1 hown1 hgrow _
          have hown2 := Own.more hown1 (by have := HS.out.1; first | (rw [IntKind.wrap_u16]; omega) | omega)
          have bel2 := (hbel.alloc hsz _).grown hgrow (by simp; omega) (fun j hj => (hown'.lt j hj).1)
          clear hown1 hgrow hown' hbel
          go_wp2
          go_roundw
          case rel => exact ⟨k + 1, hm, hown2, by have := HS.out.2; go_num, by go_num, bel2⟩
          case measure => simp [intOf]; omega
        · have HE := Lib.hid (show nd (a + b) = k from Nat.le_antisymm (cyA_done (by omega) (by omega) (by omega)) hk)
          have hcz : cyA a b k = 0 := by omega
          rw [hcz]
          have HO := Lib.hid hown
          have HB := Lib.hid hbel
          clear hstep hcz h3 hcy h1 h2 hown hbel hk
          go_wp2
          go_ret
          refine ⟨_, rfl, ?_, HB.out⟩
          rw [HE.out]
          exact HO.out
end Go.Proofs.YtceoapkkmgllaaaGreatDoor
