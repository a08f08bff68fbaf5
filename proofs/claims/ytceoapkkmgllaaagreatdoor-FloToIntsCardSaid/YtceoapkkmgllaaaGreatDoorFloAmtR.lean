/- The reference's whole. -/
import Derived.Test.YtceoapkkmgllaaaGreatDoorFloAmtL
import Derived.Test.YtceoapkkmgllaaaGreatDoorFloRTo
namespace FloM
theorem wN_lt {M : Nat} {P : Int} (h : wBig M P = false) : wN M P < 2 ^ 64 := by
  have h1 : (bl M : Int) + P ≤ 63 := by unfold wBig at h; simpa using h
  have h2 := lt_bl M
  unfold wN
  split
  · next h3 =>
    calc M * 2 ^ P.toNat < 2 ^ bl M * 2 ^ P.toNat := (Nat.mul_lt_mul_right (Nat.two_pow_pos _)).2 h2
      _ = 2 ^ (bl M + P.toNat) := (Nat.pow_add _ _ _).symm
      _ ≤ 2 ^ 64 := Nat.pow_le_pow_right (by decide) (by omega)
  · next h3 =>
    have h4 : M < 2 ^ (-P).toNat * 2 ^ 64 := by
      rw [← Nat.pow_add]
      exact Nat.lt_of_lt_of_le h2 (Nat.pow_le_pow_right (by decide) (by omega))
    exact Nat.div_lt_of_lt_mul h4
end FloM
namespace Go.Proofs.YtceoapkkmgllaaaGreatDoor
open Go.RowKit FloM

def Ret3 (w : World) (n : Nat) (h : Int) (b : Bool) (e : Ending) (w' : World) : Prop := e = .returned (.tuple #[.int .u64 (n : Int), .int .i64 h, .bool b]) ∧ Below w.heap.size w w'

set_option maxRecDepth 100000 in
set_option maxHeartbeats 2000000 in
theorem whole_big (s : Bool) (va : Value) (M : Nat) (P : Int) (w : World) (hM : nd M ≤ 4) (hP1 : -1074 ≤ P) (hP2 : P ≤ 1000) (hbig : 63 < (bl M : Int) + P) (ha : D w va M) :
    Calls Tryz.prog 78 #[.agg #[.bool s, va, .int .i64 P]] w (Ret3 w 0 0 false) := by
  have HA := Lib.hid ha
  obtain ⟨A, c, rfl⟩ := ha.shape
  have hbl : bl M ≤ 64 := (bl_le M 64).2 (by have := lt_nd M; rw [pow_two] at this; exact Nat.lt_of_lt_of_le this (Nat.pow_le_pow_right (by decide) (by omega)))
  have hw : IntKind.i64.wrap ((bl M : Int) + P) = (bl M : Int) + P := IntWalk.i64_in _ (by omega)
  have d1 : decide (63 < (bl M : Int) + P) = true := decide_eq_true hbig
  clear ha
  go_enter Tryz.func78, Tryz.ntmps78
  go_wp2_with fail
  obtain ⟨c0, c1, c2⟩ := box_cells (Blk.new w 72 #[.bool s, .slice A (nd M) c, .int .i64 P])
  have hW : Below w.heap.size w (w.alloc (.cells #[.bool s, .slice A (nd M) c, .int .i64 P] 72)) := (Below.refl _ _).alloc (Nat.le_refl _) _
  generalize w.alloc (.cells #[.bool s, .slice A (nd M) c, .int .i64 P] 72) = W at *
  have HW := Lib.hid hW
  have HAW := Lib.hid (show D W.drew _ M from HA.out.below hW.drew)
  clear hW
  go_region_held3 (fun w' => w'.cell? ⟨w.heap.size, 1, none⟩ = some (.slice A (nd M) c) ∧ w'.cell? ⟨w.heap.size, 2, none⟩ = some (.int .i64 P)) (first | go_keep | exact ⟨c1, c2⟩)
    (first
      | (go_at_call 103; refine (lenB_D _ M _ (by omega) HAW.out).mono ?_; rintro e w3 ⟨rfl, rfl⟩))
  go_wp2_with fail
  go_ret3
  exact ⟨rfl, HW.out.drew⟩

set_option maxRecDepth 100000 in
set_option maxHeartbeats 2000000 in
theorem whole_int (s : Bool) (va : Value) (M : Nat) (P : Int) (w : World) (hM : nd M ≤ 4) (hP1 : 0 ≤ P) (hP2 : P ≤ 1000) (hbig : wBig M P = false) (ha : D w va M) :
    Calls Tryz.prog 78 #[.agg #[.bool s, va, .int .i64 P]] w (Ret3 w (wN M P) (-1) true) := by
  have HA := Lib.hid ha
  obtain ⟨A, c, rfl⟩ := ha.shape
  have hbl : bl M ≤ 64 := (bl_le M 64).2 (by have := lt_nd M; rw [pow_two] at this; exact Nat.lt_of_lt_of_le this (Nat.pow_le_pow_right (by decide) (by omega)))
  have hw : IntKind.i64.wrap ((bl M : Int) + P) = (bl M : Int) + P := IntWalk.i64_in _ (by omega)
  have d1 : decide (63 < (bl M : Int) + P) = false := by unfold wBig at hbig; exact hbig
  have HLT := Lib.hid (wN_lt hbig)
  clear ha hbig
  obtain ⟨k, hk⟩ : ∃ k : Nat, (k : Int) = P := ⟨P.toNat, by omega⟩
  have HN := Lib.hid (show wN M P = M * 2 ^ k by unfold wN; rw [if_pos hP1, ← hk, Int.toNat_natCast])
  have HK := Lib.hid hk
  have hk4 : k ≤ 1000 := by omega
  clear hk
  generalize wN M P = n at *
  go_enter Tryz.func78, Tryz.ntmps78
  go_wp2_with fail
  have b1 := Blk.new w 72 #[.bool s, .slice A (nd M) c, .int .i64 P]
  have hW : Below w.heap.size w (w.alloc (.cells #[.bool s, .slice A (nd M) c, .int .i64 P] 72)) := (Below.refl _ _).alloc (Nat.le_refl _) _
  generalize w.alloc (.cells #[.bool s, .slice A (nd M) c, .int .i64 P] 72) = W at *
  obtain ⟨c0, c1, c2⟩ := box_cells b1
  have BX := Lib.hid b1
  have HW := Lib.hid hW
  have HAW := Lib.hid (show D W.drew _ M from HA.out.below hW.drew)
  have lW := b1.lt
  have hsW := hW.size
  clear hW b1
  go_region_held3 (fun w' => w'.cell? ⟨w.heap.size, 1, none⟩ = some (.slice A (nd M) c) ∧ w'.cell? ⟨w.heap.size, 2, none⟩ = some (.int .i64 P)) (first | go_keep | exact ⟨c1, c2⟩)
    (first
      | (go_at_call 103; refine (lenB_D _ M _ (by omega) HAW.out).mono ?_; rintro e w3 ⟨rfl, rfl⟩))
  clear d1 hw
  go_wp2_with fail
  refine (shl_D _ M k _ _ (by omega) (by omega) HK.out.symm HAW.out).mono ?_
  rintro e w4 ⟨v4, rfl, hv4, _, hbel4⟩
  rw [← HN.out] at hv4
  have HV4 := Lib.hid hv4
  have HB4 := Lib.hid hbel4
  clear hv4 hbel4
  go_wp2_with fail
  refine (value_D v4 n _ HLT.out HV4.out).mono ?_
  rintro e w' ⟨rfl, rfl⟩
  go_wp2_with fail
  go_ret3
  exact ⟨rfl, HW.out.drew.trans (HB4.out.mono hsW)⟩

set_option maxRecDepth 100000 in
set_option maxHeartbeats 2000000 in
theorem whole_frac (s : Bool) (va : Value) (M : Nat) (P : Int) (w : World) (hM : nd M ≤ 4) (hP1 : -1074 ≤ P) (hP2 : P < 0) (hbig : wBig M P = false) (ha : D w va M) :
    Calls Tryz.prog 78 #[.agg #[.bool s, va, .int .i64 P]] w (Ret3 w (wN M P) (wH M P) true) := by
  have HA := Lib.hid ha
  obtain ⟨A, c, rfl⟩ := ha.shape
  have hbl : bl M ≤ 64 := (bl_le M 64).2 (by have := lt_nd M; rw [pow_two] at this; exact Nat.lt_of_lt_of_le this (Nat.pow_le_pow_right (by decide) (by omega)))
  have hw : IntKind.i64.wrap ((bl M : Int) + P) = (bl M : Int) + P := IntWalk.i64_in _ (by omega)
  have d1 : decide (63 < (bl M : Int) + P) = false := by unfold wBig at hbig; exact hbig
  have HLT := Lib.hid (wN_lt hbig)
  clear ha hbig
  obtain ⟨k, hk⟩ : ∃ k : Nat, (k : Int) = -P := ⟨(-P).toNat, by omega⟩
  have hU := Nat.two_pow_pos k
  have HN := Lib.hid (show wN M P = M / 2 ^ k by unfold wN; rw [if_neg (by omega), ← hk, Int.toNat_natCast])
  have HH := Lib.hid (show wH M P = if M % 2 ^ k = 0 then -1 else cmpN (2 * (M % 2 ^ k)) (2 ^ k) + 1 by
    have hng : ¬ 0 ≤ P := by omega
    unfold wH wR
    simp only [hng, if_false]
    rw [← hk, Int.toNat_natCast])
  have HK := Lib.hid hk
  have hk4 : k ≤ 1074 := by omega
  have hUn : nd (2 ^ k) ≤ 100 := by
    have h1 := nd_shl 1 k
    rw [Nat.one_mul] at h1
    have h2 : nd 1 = 1 := by decide
    omega
  have S1 := Lib.hid (fun va w (h : D w va 1) => shl_D va 1 k (-P) w (by decide) (by omega) HK.out.symm h)
  have hrm : nd (M % 2 ^ k) ≤ nd M := nd_mono (Nat.mod_le _ _)
  have hdm := Lib.hid (fun va vb w (hb2 : nd (2 ^ k) ≤ 80000) (ha : D w va M) (hb : D w vb (2 ^ k)) => div_D va vb M (2 ^ k) w (by omega) hb2 hU ha hb)
  rw [Nat.one_mul] at S1
  clear hk
  generalize wN M P = n at *
  generalize wH M P = h at *
  rw [← HN.out] at hdm
  generalize M % 2 ^ k = r at *
  generalize 2 ^ k = U at *
  go_enter Tryz.func78, Tryz.ntmps78
  go_wp2_with fail
  have b1 := Blk.new w 72 #[.bool s, .slice A (nd M) c, .int .i64 P]
  have hW : Below w.heap.size w (w.alloc (.cells #[.bool s, .slice A (nd M) c, .int .i64 P] 72)) := (Below.refl _ _).alloc (Nat.le_refl _) _
  generalize w.alloc (.cells #[.bool s, .slice A (nd M) c, .int .i64 P] 72) = W at *
  obtain ⟨c0, c1, c2⟩ := box_cells b1
  have BX := Lib.hid b1
  have HW := Lib.hid hW
  have HAW := Lib.hid (show D W.drew _ M from HA.out.below hW.drew)
  have lW := b1.lt
  have hsW := hW.size
  clear hW b1
  go_region_held3 (fun w' => w'.cell? ⟨w.heap.size, 1, none⟩ = some (.slice A (nd M) c) ∧ w'.cell? ⟨w.heap.size, 2, none⟩ = some (.int .i64 P)) (first | go_keep | exact ⟨c1, c2⟩)
    (first
      | (go_at_call 103; refine (lenB_D _ M _ (by omega) HAW.out).mono ?_; rintro e w3 ⟨rfl, rfl⟩))
  clear d1 hw
  go_wp2_with fail
  refine (S1.out _ _ (one_D W.drew)).mono ?_
  rintro e w4 ⟨v4, rfl, hv4, _, hbel4⟩
  have h4 : Below W.drew.heap.size W.drew w4 := ((Below.refl _ _).alloc (Nat.le_refl _) _).trans (hbel4.mono (by simp))
  have HV4 := Lib.hid hv4
  have HB4 := Lib.hid h4
  have HA4 := Lib.hid (HAW.out.below h4)
  have BX4 := Lib.hid (BX.out.drew.below h4 lW)
  clear c0 c1 c2
  obtain ⟨c0, c1, c2⟩ := box_cells BX4.out
  clear hv4 hbel4 h4
  go_wp2_with fail
  refine (hdm.out _ v4 _ (by omega) HA4.out HV4.out).mono ?_
  rintro e w5 ⟨v5, u5, rfl, hv5, hu5, _, _, hbel5⟩
  obtain ⟨A5, k5, rfl⟩ := hu5.shape
  have HV5 := Lib.hid hv5
  have HU5 := Lib.hid hu5
  have HV45 := Lib.hid (HV4.out.below hbel5)
  have HB5 := Lib.hid (HB4.out.trans (hbel5.mono HB4.out.size))
  clear hv5 hu5 hbel5
  by_cases hr0 : r = 0
  · have HHE := Lib.hid (show h = -1 by rw [HH.out, if_pos hr0])
    have e0 : nd r = 0 := by rw [hr0, nd_zero]
    have hl0 : ((nd r : Int) == 0) = true := by rw [e0]; rfl
    clear e0
    go_wp2_with fail
    refine (value_D v5 n _ HLT.out HV5.out).mono ?_
    rintro e w' ⟨rfl, rfl⟩
    go_wp2_with fail
    go_ret3
    exact ⟨by rw [HHE.out]; rfl, HW.out.drew.trans (HB5.out.mono hsW)⟩
  · have HHE := Lib.hid (show h = cmpN (2 * r) U + 1 by rw [HH.out, if_neg hr0])
    have hl0 : ((nd r : Int) == 0) = false := by have := nd_pos hr0; rw [beq_eq_false_iff_ne]; omega
    have hc1 : -1 ≤ cmpN (2 * r) U := by unfold cmpN; (repeat' split) <;> omega
    have hc2 : cmpN (2 * r) U ≤ 1 := by unfold cmpN; (repeat' split) <;> omega
    have hw : IntKind.i64.wrap (cmpN (2 * r) U + 1) = cmpN (2 * r) U + 1 := IntWalk.i64_in _ (by omega)
    have h2r := nd_shl r 1
    rw [show r * 2 ^ 1 = 2 * r by omega] at h2r
    go_wp2_with fail
    refine (value_D v5 n _ HLT.out HV5.out).mono ?_
    rintro e w' ⟨rfl, rfl⟩
    go_wp2_with fail
    refine (shl_D _ r 1 _ _ (by omega) (by omega) rfl HU5.out).mono ?_
    rintro e w6 ⟨v6, rfl, hv6, _, hbel6⟩
    rw [show r * 2 ^ 1 = 2 * r by omega] at hv6
    have HV6 := Lib.hid hv6
    have HV46 := Lib.hid (HV45.out.below hbel6)
    have HB6 := Lib.hid (HB5.out.trans (hbel6.mono HB5.out.size))
    clear hv6 hbel6
    go_wp2_with fail
    refine (cmp_D v6 v4 (2 * r) U _ (by omega) HV6.out HV46.out).mono ?_
    rintro e w7 ⟨rfl, n7, rfl⟩
    generalize cmpN (2 * r) U = cc at *
    go_wp2_with fail
    go_ret3
    exact ⟨by rw [HHE.out]; rfl, below_drewN (HW.out.drew.trans (HB6.out.mono hsW)) n7⟩
end Go.Proofs.YtceoapkkmgllaaaGreatDoor
