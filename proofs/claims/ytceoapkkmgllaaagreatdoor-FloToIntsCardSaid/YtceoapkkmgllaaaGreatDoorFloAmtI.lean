/- The reference's Nearest. -/
import Derived.Test.YtceoapkkmgllaaaGreatDoorFloAmtH
import Derived.Deep.RegionHeld3
namespace Go.Proofs.YtceoapkkmgllaaaGreatDoor
open Go.RowKit FloM

def RetU (w : World) (r : Nat) (e : Ending) (w' : World) : Prop := e = .returned (.int .u64 (r : Int)) ∧ Below w.heap.size w w'

theorem box_cells {w : World} {g : Nat} {t : TypeId} {x y z : Value} (h : Blk w g t #[x, y, z]) : w.cell? ⟨g, 0, none⟩ = some x ∧ w.cell? ⟨g, 1, none⟩ = some y ∧ w.cell? ⟨g, 2, none⟩ = some z := ⟨h.cell 0, h.cell 1, h.cell 2⟩

set_option maxRecDepth 100000 in
set_option maxHeartbeats 1000000 in
theorem near_zero (b s : Bool) (va : Value) (P : Int) (w : World) (ha : D w va 0) :
    Calls Tryz.prog 66 #[.agg #[.bool b, va, .int .i64 P], .bool s] w (RetU w (wd b 0)) := by
  obtain ⟨A, c, rfl, _⟩ := ha
  rw [nd_zero]
  have C := Lib.hid (fun w => sgn_int b 0 0 w (by decide) rfl)
  go_enter Tryz.func66, Tryz.ntmps66
  go_wp2_with (go_at_call 69; ((with_reducible refine (C.out _).mono ?_); rintro e w' ⟨rfl, rfl⟩))
  go_ret
  exact ⟨rfl, (Below.refl _ _).alloc (Nat.le_refl _) _⟩

set_option maxRecDepth 100000 in
set_option maxHeartbeats 1000000 in
theorem near_pos (b s : Bool) (va : Value) (M : Nat) (P : Int) (w : World) (hM0 : M ≠ 0) (hM : nd M ≤ 20000) (hP1 : -100000 ≤ P) (hP2 : P ≤ 100000) (ha : D w va M) :
    Calls Tryz.prog 66 #[.agg #[.bool b, va, .int .i64 P], .bool s] w (RetU w (wd b (packR (nearK (4 * M + s.toNat) (P - 2)) (nearQ (4 * M + s.toNat) (P - 2))))) := by
  have HA := Lib.hid ha
  obtain ⟨A, c, rfl, _⟩ := ha
  have hl0 : ((nd M : Int) == 0) = false := by have := nd_pos hM0; rw [beq_eq_false_iff_ne]; omega
  generalize hnd : nd M = nm at *
  have HND := Lib.hid hnd
  clear hnd
  obtain ⟨m, hm⟩ : ∃ m, m = 4 * M + s.toNat := ⟨_, rfl⟩
  rw [← hm]
  have HM := Lib.hid hm
  have hm0 : m ≠ 0 := by omega
  have hmb : nd m ≤ 20010 := by
    have h1 : m ≤ M * 2 ^ 3 := by have : s.toNat ≤ 1 := by cases s <;> decide
                                  omega
    have h2 := nd_mono h1
    have h3 := nd_shl M 3
    rw [HND.out] at h3
    omega
  clear hm
  cases s
  case' false =>
    go_enter Tryz.func66, Tryz.ntmps66
    go_wp2_with fail
    refine (shl_D _ M 2 _ _ (by have := HND.out; omega) (by omega) rfl (HA.out.below ((Below.refl _ _).alloc (Nat.le_refl _) _))).mono ?_
    rintro e w5 ⟨v5, rfl, hv5, _, hbel5⟩
    have hbox := (Blk.new w _ #[.bool b, .slice A nm c, .int .i64 P]).below hbel5 (by simp)
    obtain ⟨c0, c1, c2⟩ := box_cells hbox
    have em : M * 2 ^ 2 = m := by have := HM.out; simp at this; omega
    rw [em] at hv5
    have HV5 := Lib.hid hv5
    have HB5 := Lib.hid (((Below.refl w.heap.size w).alloc (Nat.le_refl _) _).trans (hbel5.mono (by simp)))
    have HBOX5 := Lib.hid hbox
    clear hv5 hbel5 hbox em HM
    go_wp2_with fail
  case' true =>
    go_enter Tryz.func66, Tryz.ntmps66
    go_wp2_with fail
    refine (shl_D _ M 2 _ _ (by have := HND.out; omega) (by omega) rfl (HA.out.below ((Below.refl _ _).alloc (Nat.le_refl _) _))).mono ?_
    rintro e w2 ⟨v2, rfl, hv2, _, hbel2⟩
    have hbox2 := (Blk.new w _ #[.bool b, .slice A nm c, .int .i64 P]).below hbel2 (by simp)
    obtain ⟨c0, c1, c2⟩ := box_cells hbox2
    have HV2 := Lib.hid hv2
    have HB2 := Lib.hid (((Below.refl w.heap.size w).alloc (Nat.le_refl _) _).trans (hbel2.mono (by simp)))
    have HBOX2 := Lib.hid hbox2
    have hsh := nd_shl M 2
    rw [HND.out] at hsh
    have HSH := Lib.hid hsh
    have hs2 := hbel2.size
    clear hv2 hbel2 hbox2 hsh
    go_wp2_with fail
    refine (add_D _ _ (M * 2 ^ 2) 1 _ (by have := HSH.out; omega) (by decide) (HV2.out.below ((Below.refl _ _).alloc (Nat.le_refl _) _)) (one_D w2)).mono ?_
    rintro e w5 ⟨v5, rfl, hv5, _, hbel5⟩
    clear c0 c1 c2
    have hlt : w.heap.size < (w2.alloc (.cells #[.int .u16 1] 102)).heap.size := by have := HBOX2.out.lt; simp; omega
    have hbox := (HBOX2.out.alloc (.cells #[.int .u16 1] 102)).below hbel5 hlt
    obtain ⟨c0, c1, c2⟩ := box_cells hbox
    have em : M * 2 ^ 2 + 1 = m := by have := HM.out; simp at this; omega
    rw [em] at hv5
    have HV5 := Lib.hid hv5
    have HB5 := Lib.hid ((HB2.out.alloc (by have := HBOX2.out.lt; omega) (.cells #[.int .u16 1] 102)).trans (hbel5.mono (by omega)))
    have HBOX5 := Lib.hid hbox
    clear hv5 hbel5 hbox em HM hlt
    go_wp2_with fail
  all_goals
    have hq := near_rq m (P - 2) 200000 hm0 (by omega)
    have hbl : bl m ≤ 16 * 20010 := by have := (bl_le m (16 * nd m)).2 (by rw [← pow_two]; exact lt_nd m); omega
    obtain ⟨Q, hQ⟩ : ∃ Q, Q = nearQ m (P - 2) := ⟨_, rfl⟩
    obtain ⟨K, hK⟩ : ∃ K, K = nearK m (P - 2) := ⟨_, rfl⟩
    have hmx : (if (bl m : Int) + (P - 2) - 53 < -1074 then -1074 else (bl m : Int) + (P - 2) - 53) = Q := by
      rw [hQ]; unfold nearQ; split <;> omega
    have HQK := Lib.hid (show packR (nearK m (P - 2)) (nearQ m (P - 2)) = packR K Q by rw [hQ, hK])
    rw [← hQ, ← hK] at hq
    have hQ1 : -1074 ≤ Q := by rw [hQ]; unfold nearQ; omega
    have hQ2 : Q ≤ 500000 := by rw [hQ]; unfold nearQ; omega
    have hQ3 : Q - (P - 2) ≤ 400000 := by rw [hQ]; unfold nearQ; omega
    have hK2 := hq.2.1
    unfold nearK at hK
    rw [← hQ] at hK
    have HK := Lib.hid hK
    clear hq hQ hK
    refine (lenB_D v5 m _ (by omega) HV5.out).mono ?_
    rintro e w' ⟨rfl, rfl⟩
    by_cases hle : Q ≤ P - 2
    · have hK3 : K = m * 2 ^ (P - 2 - Q).toNat := by rw [HK.out, if_pos hle]
      obtain ⟨n, hn⟩ : ∃ n : Nat, (n : Int) = P - 2 - Q := ⟨(P - 2 - Q).toNat, by omega⟩
      rw [← hn, Int.toNat_natCast] at hK3
      have hn4 : n ≤ 400000 := by omega
      have hw : IntKind.i64.wrap (P - 2 - Q) = (n : Int) := by rw [← hn]; exact IntWalk.i64_in _ (by omega)
      have HK3 := Lib.hid hK3
      have hg := HBOX5.out.lt
      have hs5 : w.heap.size ≤ w5.heap.size := HB5.out.size
      clear hK3 hn HK
      go_wp2_with fail
      clear hbl hmx
      go_region_held3 (fun w' => w'.cell? ⟨w.heap.size, 0, none⟩ = some (.bool b)) (first | go_keep | assumption)
        (first
          | (go_at_call 72; refine (shl_D v5 m n _ _ (by omega) hn4 rfl (by exact HV5.out)).mono ?_; rintro e w6 ⟨v6, rfl, hv6, _, hbel6⟩; have HV6 := Lib.hid hv6; have c6 : w6.cell? ⟨w.heap.size, 0, none⟩ = some (.bool b) := (hbel6.cell (p := ⟨w.heap.size, 0, none⟩) (by exact hg)).trans (by exact c0); have HB6 := Lib.hid hbel6; clear hv6 hbel6)
          | (go_at_call 101; refine (value_D v6 (m * 2 ^ n) _ (by rw [← HK3.out]; omega) (by exact HV6.out)).mono ?_; rintro e w' ⟨rfl, rfl⟩)
          | (go_at_call 104; refine (pack_any b K _ Q _ hK2 (by rw [HK3.out, Int.natCast_mul, Int.natCast_pow]; rfl) hQ1 (by omega)).mono ?_; rintro e w' ⟨rfl, rfl⟩))
      go_wp2_with fail
      go_ret
      exact ⟨by rw [HQK.out]; rfl, HB5.out.drew.trans (HB6.out.mono hs5)⟩
    · have hK3 : K = rhe m (2 ^ (Q - (P - 2)).toNat) := by rw [HK.out, if_neg hle]
      obtain ⟨n, hn⟩ : ∃ n : Nat, (n : Int) = Q - (P - 2) := ⟨(Q - (P - 2)).toNat, by omega⟩
      rw [← hn, Int.toNat_natCast] at hK3
      have hn4 : n ≤ 400000 := by omega
      have HK3 := Lib.hid hK3
      have HN := Lib.hid hn
      have hg := HBOX5.out.lt
      have hs5 : w.heap.size ≤ w5.heap.size := HB5.out.size
      clear hK3 hn HK
      go_wp2_with fail
      clear hbl hmx
      refine (shl_D _ 1 n _ _ (by decide) hn4 HN.out.symm (one_D w5)).mono ?_
      rintro e w6 ⟨v6, rfl, hv6, _, hbel6⟩
      rw [Nat.one_mul] at hv6
      have hb6 : Below w.heap.size w w6 := (HB5.out.alloc hs5 _).trans (hbel6.mono (by simp; omega))
      have h56 : Below w5.heap.size w5 w6 := ((Below.refl _ _).alloc (Nat.le_refl _) _).trans (hbel6.mono (by simp))
      have HV6 := Lib.hid hv6
      have HB6 := Lib.hid hb6
      have HV56 := Lib.hid (HV5.out.below h56)
      have HBOX6 := Lib.hid (HBOX5.out.below h56 hg)
      have hU := Nat.two_pow_pos n
      have hUn : nd (2 ^ n) ≤ 50000 := by have := nd_shl 1 n; rw [Nat.one_mul] at this; have : nd 1 = 1 := by decide
                                          omega
      clear hv6 hbel6 hb6 h56 c0 c1 c2
      obtain ⟨k, hk⟩ : ∃ k, k = m / 2 ^ n := ⟨_, rfl⟩
      obtain ⟨r, hr⟩ : ∃ r, r = m % 2 ^ n := ⟨_, rfl⟩
      have hKr : K = k + (if 2 ^ n < 2 * r ∨ (2 * r = 2 ^ n ∧ k % 2 = 1) then 1 else 0) := by rw [HK3.out, hk, hr]; rfl
      have hrm : nd r ≤ nd m := nd_mono (by rw [hr]; exact Nat.mod_le _ _)
      have hk64 : k ≤ 9007199254740992 := by rw [hKr] at hK2; split at hK2 <;> omega
      have HKR := Lib.hid hKr
      have HKK := Lib.hid hk
      have HRR := Lib.hid hr
      clear hKr hk hr HK3
      generalize 2 ^ n = U at *
      go_wp2_with fail
      refine (div_D v5 v6 m U _ (by omega) (by omega) hU HV56.out HV6.out).mono ?_
      rintro e w7 ⟨v7, u7, rfl, hv7, hu7, _, _, hbel7⟩
      rw [← HKK.out] at hv7
      rw [← HRR.out] at hu7
      have hs6 := HB6.out.size
      have HV7 := Lib.hid hv7
      have HU7 := Lib.hid hu7
      have HB7 := Lib.hid (HB6.out.trans (hbel7.mono hs6))
      have HV67 := Lib.hid (HV6.out.below hbel7)
      have HBOX7 := Lib.hid (HBOX6.out.below hbel7 HBOX6.out.lt)
      clear hv7 hu7 hbel7
      go_wp2_with fail
      refine (value_D v7 k _ (by omega) HV7.out).mono ?_
      rintro e w' ⟨rfl, rfl⟩
      go_wp2_with fail
      refine (shl_D u7 r 1 _ _ (by omega) (by omega) rfl HU7.out).mono ?_
      rintro e w8 ⟨v8, rfl, hv8, _, hbel8⟩
      rw [show r * 2 ^ 1 = 2 * r by omega] at hv8
      have hs7 := HB7.out.size
      have HV8 := Lib.hid hv8
      have HB8 := Lib.hid (HB7.out.trans (hbel8.mono hs7))
      have HV68 := Lib.hid (HV67.out.below hbel8)
      have hbox := HBOX7.out.below hbel8 HBOX7.out.lt
      have h2r : nd (2 * r) ≤ 50000 := by have := nd_shl r 1; rw [show r * 2 ^ 1 = 2 * r by omega] at this; omega
      obtain ⟨c0, c1, c2⟩ := box_cells hbox
      clear hv8 hbel8 hbox
      go_wp2_with fail
      refine (cmp_D v8 v6 (2 * r) U _ (by omega) HV8.out HV68.out).mono ?_
      rintro e w9 ⟨rfl, n9, rfl⟩
      rcases Nat.lt_trichotomy U (2 * r) with h | h | h
      · rw [cmpN_gt h]
        have hKe : K = k + 1 := by rw [HKR.out, if_pos (.inl h)]
        have HKE := Lib.hid hKe
        clear hKe h
        go_wp2_with fail
        refine (pack_any b K _ Q _ hK2 (by rw [HKE.out]; go_num) hQ1 (by omega)).mono ?_
        rintro e w' ⟨rfl, rfl⟩
        go_wp2_with fail
        go_ret
        exact ⟨by rw [HQK.out]; rfl, below_drewN HB8.out _⟩
      · rw [cmpN_eq h.symm]
        by_cases ho : k % 2 = 1
        · have hKe : K = k + 1 := by rw [HKR.out, if_pos (.inr ⟨h.symm, ho⟩)]
          have HKE := Lib.hid hKe
          have d1 : (((k : Int) % 2) == 1) = true := by rw [beq_iff_eq]; omega
          clear hKe h ho
          go_wp2_with fail
          refine (pack_any b K _ Q _ hK2 (by rw [HKE.out]; go_num) hQ1 (by omega)).mono ?_
          rintro e w' ⟨rfl, rfl⟩
          go_wp2_with fail
          go_ret
          exact ⟨by rw [HQK.out]; rfl, below_drewN HB8.out _⟩
        · have hKe : K = k := by rw [HKR.out, if_neg (by omega)]; omega
          have HKE := Lib.hid hKe
          have d1 : (((k : Int) % 2) == 1) = false := by rw [beq_eq_false_iff_ne]; omega
          clear hKe h ho
          go_wp2_with fail
          refine (pack_any b K _ Q _ hK2 (by rw [HKE.out]) hQ1 (by omega)).mono ?_
          rintro e w' ⟨rfl, rfl⟩
          go_wp2_with fail
          go_ret
          exact ⟨by rw [HQK.out]; rfl, below_drewN HB8.out _⟩
      · rw [cmpN_lt h]
        have hKe : K = k := by rw [HKR.out, if_neg (by omega)]; omega
        have HKE := Lib.hid hKe
        clear hKe h
        go_wp2_with fail
        refine (pack_any b K _ Q _ hK2 (by rw [HKE.out]) hQ1 (by omega)).mono ?_
        rintro e w' ⟨rfl, rfl⟩
        go_wp2_with fail
        go_ret
        exact ⟨by rw [HQK.out]; rfl, below_drewN HB8.out _⟩

theorem near_any (b s : Bool) (va : Value) (M : Nat) (P : Int) (w : World) (hM : nd M ≤ 20000) (hP1 : -100000 ≤ P) (hP2 : P ≤ 100000) (ha : D w va M) :
    Calls Tryz.prog 66 #[.agg #[.bool b, va, .int .i64 P], .bool s] w (RetU w (wd b (rNear M P s.toNat))) := by
  by_cases h : M = 0
  · have e : rNear M P s.toNat = 0 := if_pos h
    rw [e]
    subst h
    exact near_zero b s va P w ha
  · have e : rNear M P s.toNat = packR (nearK (4 * M + s.toNat) (P - 2)) (nearQ (4 * M + s.toNat) (P - 2)) := if_neg h
    rw [e]
    exact near_pos b s va M P w h hM hP1 hP2 ha
end Go.Proofs.YtceoapkkmgllaaaGreatDoor
