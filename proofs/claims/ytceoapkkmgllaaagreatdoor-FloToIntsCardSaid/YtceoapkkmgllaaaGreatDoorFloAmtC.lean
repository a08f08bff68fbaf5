/- Amounts: subD, timesD; what a call gives. -/
import Derived.Test.YtceoapkkmgllaaaGreatDoorFloAmtB
namespace Go.Proofs.YtceoapkkmgllaaaGreatDoor
open Go.RowKit FloM

/-- What a call that makes an amount gives. -/
def Fr (lo : Nat) (v : Value) : Prop := ∀ g, v.ownBlock = some g → lo ≤ g
theorem Own.fr {base : Nat} {w : World} {v : Value} {k N : Nat} (h : Own base w v k N) : Fr base v := fun g hg => (World.ownsRow.lt h g hg).1
theorem Fr.of {lo : Nat} {v v' : Value} (h : Fr lo v) (e : v'.ownBlock = v.ownBlock) : Fr lo v' := fun g hg => h g (e.symm.trans hg)
def GivesD (w : World) (N : Nat) (e : Ending) (w' : World) : Prop := ∃ v, e = .returned v ∧ D w' v N ∧ Fr w.heap.size v ∧ Below w.heap.size w w'

/-- trim, at a row. -/
theorem trim_D (v : Value) (n N : Nat) (w : World) (h : DS w v n N) : Calls Tryz.prog 102 #[v] w fun e w' => (∃ v', e = .returned v' ∧ D w v' N ∧ v'.ownBlock = v.ownBlock) ∧ w = w' := by
  obtain ⟨A, c, rfl, hc, hx, hN, hr⟩ := h
  refine (trim_any A n c N w hc hx hN hr).mono ?_
  rintro e w' ⟨rfl, rfl⟩
  exact ⟨⟨_, rfl, DS.take hc hx hr ((nd_le N n).2 hN) (lt_nd N), by cases A <;> rfl⟩, rfl⟩

theorem add_D (va vb : Value) (a b : Nat) (w : World) (hb1 : nd a ≤ 100000) (hb2 : nd b ≤ 100000) (ha : D w va a) (hb : D w vb b) :
    Calls Tryz.prog 99 #[va, vb] w (GivesD w (a + b)) := by
  obtain ⟨A, c, rfl, _, _, _, hr⟩ := ha
  obtain ⟨B, d, rfl, _, _, _, hs⟩ := hb
  refine (add_any' A B c d a b w hb1 hb2 hr hs).mono ?_
  rintro e w' ⟨v, rfl, ho, hbel⟩
  exact ⟨v, rfl, ho.DS (lt_nd _), ho.fr, hbel⟩

theorem cmp_D (va vb : Value) (a b : Nat) (w : World) (hb1 : nd a ≤ 100000) (ha : D w va a) (hb : D w vb b) :
    Calls Tryz.prog 105 #[va, vb] w fun e w' => e = .returned (.int .i64 (cmpN a b)) ∧ ∃ n, w' = w.drewN n := by
  obtain ⟨A, c, rfl, _, _, _, hr⟩ := ha
  obtain ⟨B, d, rfl, _, _, _, hs⟩ := hb
  exact cmp_any A B c d a b w hb1 hr hs

set_option maxRecDepth 100000 in
set_option maxHeartbeats 1600000 in
/-- subD: b + r less b. -/
theorem sub_any' (A B : Option Addr) (c d b r : Nat) (w : World) (hb1 : nd (b + r) ≤ 100000) (hr : Reads w w.heap.size 1 A (nd (b + r)) (vals (fd (nd (b + r)) (b + r)))) (hs : Reads w w.heap.size 1 B (nd b) (vals (fd (nd b) b))) :
    Calls Tryz.prog 106 #[.slice A (nd (b + r)) c, .slice B (nd b) d] w (GivesD w r) := by
  obtain ⟨i0, hi0, hz0, hz1, hz2⟩ := info_parts info16
  have hR := Lib.hid hr
  have hS := Lib.hid hs
  have hbn : nd b ≤ nd (b + r) := nd_mono (by omega)
  have hrn := Lib.hid (Nat.lt_of_le_of_lt (show r ≤ b + r by omega) (lt_nd (b + r)))
  clear hr hs
  go_enter Tryz.func106, Tryz.ntmps106
  go_wp2
  go_loopw [5, 6, 7] (fun o cy i wr => ∃ k : Nat, k ≤ nd (b + r) ∧ Own w.heap.size wr o k r ∧ cy = .int .i32 (cyA b r k : Nat) ∧ i = .int .i64 k ∧ Below w.heap.size w wr) (fun _ _ i _ => nd (b + r) - (intOf i).toNat)
  case atStart => exact ⟨0, Nat.zero_le _, World.ownsRow_nil _ _ _ _, by rw [cyA_zero]; rfl, rfl, Below.refl _ _⟩
  case round =>
    obtain ⟨k, hk, hown, rfl, rfl, hbel⟩ := hrel
    by_cases h1 : k < nd (b + r)
    · have hcy := cyA_le b r k
      have hcy2 := cyA_le b r (k + 1)
      have st := sub_step b r k
      obtain ⟨ad, rfl, ha, hcell⟩ := DS.at_ hR.out h1
      rw [← hbel.cell (by rw [block_of_add]; exact ha)] at hcell
      have hx := dg_lt (b + r) k
      generalize dg (b + r) k = x at *
      generalize cyA b r k = cy at *
      by_cases h2 : k < nd b
      · obtain ⟨bd, rfl, hb, hcell2⟩ := DS.at_ hS.out h2
        rw [← hbel.cell (by rw [block_of_add]; exact hb)] at hcell2
        have hy := dg_lt b k
        generalize dg b k = y at *
        by_cases hneg : (((x : Nat) : Int) - (cy : Nat) - (y : Nat)) < 0
        · have hown' : wr.ownsRow w.heap.size 102 1 _ k (vals (fd k r)) := hown
          have e1 : decide ((((x : Nat) : Int) - (cy : Nat) - (y : Nat)) < 0) = true := decide_eq_true hneg
          have HS := Lib.hid (show ((dg r k : Nat) : Int) = (((x : Nat) : Int) - (cy : Nat) - (y : Nat)) + 65536 ∧ cyA b r (k + 1) = 1 from by omega)
          clear st hcy2

          have hsz := hbel.size
          clear hown
          go_wp2_with (at_builtin; refine wpList_append_own _ rfl _ _ 68 rfl w.heap.size 102 i0 (.int .u16 0) 1 2 und16 hi0 hz0 hz1 hz2 rfl (by decide) _ _ _ rfl (hown'.alloc _) ⟨wr.heap.size, 0, none⟩ 1 1 [_] rfl rfl (one_cell wr _ _) (one_one _) (by unfold maxLen; omega) (by omega) (by simp; omega) ?_)
          intro v' w1 hown1 hgrow _
          have hown2 := Own.more hown1 (by have := HS.out; first | (rw [IntKind.wrap_u16]; omega) | omega)
          have bel2 := (hbel.alloc hsz _).grown hgrow (by simp; omega) (fun j hj => (hown'.lt j hj).1)
          clear hown1 hgrow hown' hbel
          go_wp2
          go_roundw
          case rel => exact ⟨k + 1, by omega, hown2, by have := HS.out; go_num, by go_num, bel2⟩
          case measure => simp [intOf]; omega
        · have hown' : wr.ownsRow w.heap.size 102 1 _ k (vals (fd k r)) := hown
          have e1 : decide ((((x : Nat) : Int) - (cy : Nat) - (y : Nat)) < 0) = false := decide_eq_false hneg
          have HS := Lib.hid (show ((dg r k : Nat) : Int) = (((x : Nat) : Int) - (cy : Nat) - (y : Nat)) ∧ cyA b r (k + 1) = 0 from by omega)
          clear st hcy2

          have hsz := hbel.size
          clear hown
          go_wp2_with (at_builtin; refine wpList_append_own _ rfl _ _ 68 rfl w.heap.size 102 i0 (.int .u16 0) 1 2 und16 hi0 hz0 hz1 hz2 rfl (by decide) _ _ _ rfl (hown'.alloc _) ⟨wr.heap.size, 0, none⟩ 1 1 [_] rfl rfl (one_cell wr _ _) (one_one _) (by unfold maxLen; omega) (by omega) (by simp; omega) ?_)
          intro v' w1 hown1 hgrow _
          have hown2 := Own.more hown1 (by have := HS.out; first | (rw [IntKind.wrap_u16]; omega) | omega)
          have bel2 := (hbel.alloc hsz _).grown hgrow (by simp; omega) (fun j hj => (hown'.lt j hj).1)
          clear hown1 hgrow hown' hbel
          go_wp2
          go_roundw
          case rel => exact ⟨k + 1, by omega, hown2, by have := HS.out; go_num, by go_num, bel2⟩
          case measure => simp [intOf]; omega
      · have d2 : decide (k < nd b) = false := decide_eq_false h2
        rw [dg_zero ((nd_le b k).1 (by omega))] at st
        clear h2
        by_cases hneg : (((x : Nat) : Int) - (cy : Nat)) < 0
        · have hown' : wr.ownsRow w.heap.size 102 1 _ k (vals (fd k r)) := hown
          have e1 : decide ((((x : Nat) : Int) - (cy : Nat)) < 0) = true := decide_eq_true hneg
          have HS := Lib.hid (show ((dg r k : Nat) : Int) = (((x : Nat) : Int) - (cy : Nat)) + 65536 ∧ cyA b r (k + 1) = 1 from by omega)
          clear st hcy2

          have hsz := hbel.size
          clear hown
          go_wp2_with (at_builtin; refine wpList_append_own _ rfl _ _ 68 rfl w.heap.size 102 i0 (.int .u16 0) 1 2 und16 hi0 hz0 hz1 hz2 rfl (by decide) _ _ _ rfl (hown'.alloc _) ⟨wr.heap.size, 0, none⟩ 1 1 [_] rfl rfl (one_cell wr _ _) (one_one _) (by unfold maxLen; omega) (by omega) (by simp; omega) ?_)
          intro v' w1 hown1 hgrow _
          have hown2 := Own.more hown1 (by have := HS.out; first | (rw [IntKind.wrap_u16]; omega) | omega)
          have bel2 := (hbel.alloc hsz _).grown hgrow (by simp; omega) (fun j hj => (hown'.lt j hj).1)
          clear hown1 hgrow hown' hbel
          go_wp2
          go_roundw
          case rel => exact ⟨k + 1, by omega, hown2, by have := HS.out; go_num, by go_num, bel2⟩
          case measure => simp [intOf]; omega
        · have hown' : wr.ownsRow w.heap.size 102 1 _ k (vals (fd k r)) := hown
          have e1 : decide ((((x : Nat) : Int) - (cy : Nat)) < 0) = false := decide_eq_false hneg
          have HS := Lib.hid (show ((dg r k : Nat) : Int) = (((x : Nat) : Int) - (cy : Nat)) ∧ cyA b r (k + 1) = 0 from by omega)
          clear st hcy2

          have hsz := hbel.size
          clear hown
          go_wp2_with (at_builtin; refine wpList_append_own _ rfl _ _ 68 rfl w.heap.size 102 i0 (.int .u16 0) 1 2 und16 hi0 hz0 hz1 hz2 rfl (by decide) _ _ _ rfl (hown'.alloc _) ⟨wr.heap.size, 0, none⟩ 1 1 [_] rfl rfl (one_cell wr _ _) (one_one _) (by unfold maxLen; omega) (by omega) (by simp; omega) ?_)
          intro v' w1 hown1 hgrow _
          have hown2 := Own.more hown1 (by have := HS.out; first | (rw [IntKind.wrap_u16]; omega) | omega)
          have bel2 := (hbel.alloc hsz _).grown hgrow (by simp; omega) (fun j hj => (hown'.lt j hj).1)
          clear hown1 hgrow hown' hbel
          go_wp2
          go_roundw
          case rel => exact ⟨k + 1, by omega, hown2, by have := HS.out; go_num, by go_num, bel2⟩
          case measure => simp [intOf]; omega
    · have e : k = nd (b + r) := by omega
      have hds : DS wr u5 k r := Own.DS hown (by rw [e]; exact hrn.out)
      have hT := Lib.hid (trim_D u5 k r wr hds)
      have hF := Lib.hid (Own.fr hown)
      have HB := Lib.hid hbel
      clear hown hbel hds e hk
      go_wp2_with (go_at_call 102; refine hT.out.mono ?_; rintro e w' ⟨⟨v', rfl, hv', ho'⟩, rfl⟩; have HV := Lib.hid hv'; have HO := Lib.hid ho'; clear hv' ho')
      go_ret
      exact ⟨_, rfl, HV.out, Fr.of hF.out HO.out, HB.out⟩

theorem sub_D (va vb : Value) (a b : Nat) (w : World) (hb1 : nd a ≤ 100000) (hle : b ≤ a) (ha : D w va a) (hb : D w vb b) :
    Calls Tryz.prog 106 #[va, vb] w (GivesD w (a - b)) := by
  obtain ⟨r, rfl⟩ : ∃ r, a = b + r := ⟨a - b, by omega⟩
  rw [Nat.add_sub_cancel_left]
  obtain ⟨A, c, rfl, _, _, _, hr⟩ := ha
  obtain ⟨B, d, rfl, _, _, _, hs⟩ := hb
  exact sub_any' A B c d b r w hb1 hr hs

set_option maxRecDepth 100000 in
set_option maxHeartbeats 1600000 in
theorem times_any' (A : Option Addr) (c a n : Nat) (w : World) (hb1 : nd a ≤ 100000) (hn : n < 65536) (hr : Reads w w.heap.size 1 A (nd a) (vals (fd (nd a) a))) :
    Calls Tryz.prog 108 #[.slice A (nd a) c, .int .u32 n] w (GivesD w (a * n)) := by
  obtain ⟨i0, hi0, hz0, hz1, hz2⟩ := info_parts info16
  have hR := Lib.hid hr
  have hla := Lib.hid (lt_nd a)
  clear hr
  go_enter Tryz.func108, Tryz.ntmps108
  go_wp2
  go_loopw [5, 6, 7] (fun o cy i wr => ∃ k : Nat, k ≤ nd a ∧ Own w.heap.size wr o k (a * n) ∧ cy = .int .u32 (cyT a n k : Nat) ∧ i = .int .i64 k ∧ Below w.heap.size w wr) (fun _ _ i _ => nd a - (intOf i).toNat)
  case atStart => exact ⟨0, Nat.zero_le _, World.ownsRow_nil _ _ _ _, by rw [cyT_zero]; rfl, rfl, Below.refl _ _⟩
  case round =>
    obtain ⟨k, hk, hown, rfl, rfl, hbel⟩ := hrel
    have hcy := cyT_lt a n k hn
    have hown' : wr.ownsRow w.heap.size 102 1 _ k (vals (fd k (a * n))) := hown
    by_cases h1 : k < nd a
    · have HS := Lib.hid (cyT_step a n k)
      obtain ⟨ad, rfl, ha, hcell⟩ := DS.at_ hR.out h1
      rw [← hbel.cell (by rw [block_of_add]; exact ha)] at hcell
      have hx := dg_lt a k
      generalize dg a k = x at *
      generalize cyT a n k = cy at *
      have hxn : (x : Int) * (n : Int) ≤ 4294836225 := by
        have : x * n ≤ 65535 * 65535 := Nat.mul_le_mul (by omega) (by omega)
        have h2 : ((x * n : Nat) : Int) ≤ 4294836225 := by omega
        rwa [Int.natCast_mul] at h2
      have hxn0 : 0 ≤ (x : Int) * (n : Int) := Int.mul_nonneg (by omega) (by omega)
      have HP := Lib.hid (Int.natCast_mul x n)
      have hsz := hbel.size
      clear hown
      go_wp2_with (at_builtin; refine wpList_append_own _ rfl _ _ 68 rfl w.heap.size 102 i0 (.int .u16 0) 1 2 und16 hi0 hz0 hz1 hz2 rfl (by decide) _ _ _ rfl (hown'.alloc _) ⟨wr.heap.size, 0, none⟩ 1 1 [_] rfl rfl (one_cell wr _ _) (one_one _) (by unfold maxLen; omega) (by omega) (by simp; omega) ?_)
      intro v' w1 hown1 hgrow _
      have hown2 := Own.more hown1 (by have := HS.out; have := HP.out; first | (rw [IntKind.wrap_u16]; omega) | omega)
      have bel2 := (hbel.alloc hsz _).grown hgrow (by simp; omega) (fun j hj => (hown'.lt j hj).1)
      clear hown1 hgrow hown' hbel
      go_wp2
      go_roundw
      case rel => exact ⟨k + 1, by omega, hown2, by have := HS.out; have := HP.out; go_num, by go_num, bel2⟩
      case measure => simp [intOf]; omega
    · have e : k = nd a := by omega
      have hct := cyT_top (a := a) (n := n) (i := k) (by rw [e]; exact hla.out) hn
      have HS := Lib.hid hct
      have HB := Lib.hid hbel
      have hsz := hbel.size
      clear hct hown e
      generalize cyT a n k = cy at *
      go_wp2_with (first
        | (at_builtin; refine wpList_append_own _ rfl _ _ 68 rfl w.heap.size 102 i0 (.int .u16 0) 1 2 und16 hi0 hz0 hz1 hz2 rfl (by decide) _ _ _ rfl (hown'.alloc _) ⟨wr.heap.size, 0, none⟩ 1 1 [_] rfl rfl (one_cell wr _ _) (one_one _) (by unfold maxLen; omega) (by omega) (by simp; omega) ?_)
        | fail)
      intro v' w1 hown1 hgrow _
      have hown2 := Own.more hown1 (by have := HS.out; first | (rw [IntKind.wrap_u16]; omega) | omega)
      have bel2 := Lib.hid ((hbel.alloc hsz _).grown hgrow (by simp; omega) (fun j hj => (hown'.lt j hj).1))
      have hT := Lib.hid (trim_D v' (k + 1) (a * n) w1 (hown2.DS HS.out.2))
      have hF := Lib.hid (Own.fr hown2)
      clear hown1 hgrow hown' hbel hown2
      go_wp2_with (go_at_call 102; refine hT.out.mono ?_; rintro e w' ⟨⟨v', rfl, hv', ho'⟩, rfl⟩; have HV := Lib.hid hv'; have HO := Lib.hid ho'; clear hv' ho')
      go_ret
      exact ⟨_, rfl, HV.out, Fr.of hF.out HO.out, bel2.out⟩

theorem times_D (va : Value) (a n : Nat) (w : World) (hb1 : nd a ≤ 100000) (hn : n < 65536) (ha : D w va a) :
    Calls Tryz.prog 108 #[va, .int .u32 n] w (GivesD w (a * n)) := by
  obtain ⟨A, c, rfl, _, _, _, hr⟩ := ha
  exact times_any' A c a n w hb1 hn hr
end Go.Proofs.YtceoapkkmgllaaaGreatDoor
