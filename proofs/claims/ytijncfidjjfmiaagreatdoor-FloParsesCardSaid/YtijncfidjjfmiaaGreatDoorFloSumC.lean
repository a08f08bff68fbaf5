/- The reference's signed, pack. The reference's Nearest. Rows that are amounts. The reference's Of: a real's parts. Of a real's parts; two new blocks. -/
import Derived.Test.YtijncfidjjfmiaaGreatDoorFloSumB
import Derived.Test.YtijncfidjjfmiaaGreatDoorFloBase
import Derived.Deep.DeepCutAuto
import Derived.Deep.RegionHeld3
namespace Go.Proofs.YtijncfidjjfmiaaGreatDoor
open Go.RowKit FloM

theorem or_sign (u : Nat) (h : u < 2 ^ 63) : u ||| 2 ^ 63 = 2 ^ 63 + u := by
  have := Nat.shiftLeft_add_eq_or_of_lt (i := 63) (b := u) h 1
  rw [Nat.shiftLeft_eq, Nat.one_mul] at this
  rw [Nat.or_comm, ← this]
theorem bits_or_sign (u : Nat) (h : u < 2 ^ 63) : bits .or .u64 (u : Int) 9223372036854775808 = ((2 ^ 63 + u : Nat) : Int) := by
  have := u64_or_nat u (2 ^ 63) (by omega) (by decide)
  rw [or_sign u h] at this
  exact this

set_option maxRecDepth 100000 in
theorem sgn_any (b : Bool) (u : Nat) (w : World) (hu : u < 2 ^ 63) : Calls Tryz.prog 34 #[.bool b, .int .u64 u] w fun e w' => e = .returned (.int .u64 (wd b u : Nat)) ∧ w = w' := by
  cases b
  · have hw : wd false u = u := rfl
    rw [hw]
    clear hw hu
    go_enter Tryz.func34, Tryz.ntmps34
    go_wp2
    go_ret
    exact ⟨rfl, rfl⟩
  · have hw : wd true u = 2 ^ 63 + u := rfl
    rw [hw]
    have hb := bits_or_sign u hu
    clear hw hu
    generalize 2 ^ 63 + u = r at *
    go_enter Tryz.func34, Tryz.ntmps34
    go_wp2
    go_ret
    exact ⟨rfl, rfl⟩

theorem sgn_int (b : Bool) (u : Nat) (x : Int) (w : World) (hu : u < 2 ^ 63) (hx : x = (u : Int)) : Calls Tryz.prog 34 #[.bool b, .int .u64 x] w fun e w' => e = .returned (.int .u64 (wd b u : Nat)) ∧ w = w' := by
  subst hx; exact sgn_any b u w hu

/-- The fraction's digits. -/
theorem and_frac (m : Nat) : m &&& 4503599627370495 = m % 2 ^ 52 := by
  have := Nat.and_two_pow_sub_one_eq_mod m 52
  rwa [show (2:Nat) ^ 52 - 1 = 4503599627370495 by decide] at this
theorem bits_frac (m : Nat) (h : m < 2 ^ 64) : bits .and .u64 (m : Int) 4503599627370495 = ((m % 2 ^ 52 : Nat) : Int) := by
  have := u64_and_nat m 4503599627370495 (by omega) (by decide)
  rw [and_frac] at this
  exact this
theorem or52 (e f : Nat) (hf : f < 2 ^ 52) : e * 2 ^ 52 ||| f = e * 2 ^ 52 + f := by
  have := Nat.shiftLeft_add_eq_or_of_lt (i := 52) (b := f) hf e
  rw [Nat.shiftLeft_eq] at this
  exact this.symm

theorem or52_int (x : Int) (e f : Nat) (hx : x = (e : Int)) (he : e < 2048) (hf : f < 2 ^ 52) : bits .or .u64 (x * 4503599627370496) (f : Int) = ((e * 2 ^ 52 + f : Nat) : Int) := by
  subst hx
  have := u64_or_nat (e * 2 ^ 52) f (by omega) (by omega)
  rw [or52 e f hf, Int.natCast_mul] at this
  exact this
theorem rung_mid {m e : Nat} {p : Int} (h : ¬ m < 2 ^ 52) (he : (e : Int) = p + 1075) (he2 : e < 2047) : rung m p = e * 2 ^ 52 + (m - 2 ^ 52) := by
  unfold rung; rw [if_neg h, if_neg (by omega), ← he, Int.toNat_natCast]
theorem packR_top {m : Nat} {p : Int} (h : m = 2 ^ 53) : packR m p = rung (2 ^ 52) (p + 1) := by unfold packR; rw [if_pos h]
theorem packR_not {m : Nat} {p : Int} (h : ¬ m = 2 ^ 53) : packR m p = rung m p := by unfold packR; rw [if_neg h]
theorem rung_lo {m : Nat} {p : Int} (h : m < 2 ^ 52) : rung m p = m := if_pos h
theorem rung_inf {m : Nat} {p : Int} (h : ¬ m < 2 ^ 52) (h2 : 2047 ≤ p + 1075) : rung m p = cap := by unfold rung; rw [if_neg h, if_pos h2]

set_option maxRecDepth 100000 in
set_option maxHeartbeats 1000000 in
/-- pack at an amount that is not 2^53. -/
theorem pack_lo (b : Bool) (m : Nat) (p : Int) (w : World) (h : m < 2 ^ 52) : Calls Tryz.prog 102 #[.bool b, .int .u64 m, .int .i64 p] w fun e w' => e = .returned (.int .u64 (wd b m : Nat)) ∧ w = w' := by
  have d1 : ((m : Int) == 9007199254740992) = false := by rw [beq_eq_false_iff_ne]; omega
  have d2 : decide ((m : Int) < 4503599627370496) = true := decide_eq_true (by omega)
  have C := Lib.hid (fun w => sgn_any b m w (by omega))
  clear h
  go_enter Tryz.func102, Tryz.ntmps102
  go_wp2_with (go_at_call 34; ((with_reducible refine (C.out _).mono ?_); rintro e w' ⟨rfl, rfl⟩))
  go_ret
  exact ⟨rfl, rfl⟩

set_option maxRecDepth 100000 in
set_option maxHeartbeats 1000000 in
theorem pack_inf (b : Bool) (m : Nat) (p : Int) (w : World) (h : 2 ^ 52 ≤ m) (hm : m < 2 ^ 53) (hp1 : 972 ≤ p) (hp2 : p ≤ 1000000) : Calls Tryz.prog 102 #[.bool b, .int .u64 m, .int .i64 p] w fun e w' => e = .returned (.int .u64 (wd b cap : Nat)) ∧ w = w' := by
  have d1 : ((m : Int) == 9007199254740992) = false := by rw [beq_eq_false_iff_ne]; omega
  have d2 : decide ((m : Int) < 4503599627370496) = false := decide_eq_false (by omega)
  have C := Lib.hid (fun w => sgn_int b cap 9218868437227405312 w cap_lt (by decide))
  clear h hm
  generalize wd b cap = r at *
  go_enter Tryz.func102, Tryz.ntmps102
  go_upto_region 6 with (fail)
  clear d1 d2
  go_wp2_with (go_at_call 34; ((with_reducible refine (C.out _).mono ?_); rintro e w' ⟨rfl, rfl⟩))
  go_ret
  exact ⟨rfl, rfl⟩

set_option maxRecDepth 100000 in
set_option maxHeartbeats 1000000 in
theorem pack_mid (b : Bool) (m e : Nat) (p : Int) (w : World) (h : 2 ^ 52 ≤ m) (hm : m < 2 ^ 53) (he : (e : Int) = p + 1075) (he2 : e < 2047) : Calls Tryz.prog 102 #[.bool b, .int .u64 m, .int .i64 p] w fun e' w' => e' = .returned (.int .u64 (wd b (e * 2 ^ 52 + (m - 2 ^ 52)) : Nat)) ∧ w = w' := by
  have d1 : ((m : Int) == 9007199254740992) = false := by rw [beq_eq_false_iff_ne]; omega
  have d2 : decide ((m : Int) < 4503599627370496) = false := decide_eq_false (by omega)
  have hf := bits_frac m (by omega)
  have hp : p + 1075 ≤ 2046 := by omega
  have hp0 : 0 ≤ p + 1075 := by omega
  have hlt : e * 2 ^ 52 + (m - 2 ^ 52) < 2 ^ 63 := by omega
  have HLT := Lib.hid hlt
  have HE := Lib.hid he
  have hmm : m % 2 ^ 52 = m - 2 ^ 52 := by omega
  have hml : m - 2 ^ 52 < 2 ^ 52 := by omega
  rw [hmm] at hf
  have HOR := Lib.hid (or52 e (m - 2 ^ 52) hml)
  clear h hm hlt he hmm
  generalize m - 2 ^ 52 = f at *
  go_enter Tryz.func102, Tryz.ntmps102
  go_upto_region 6 with (fail)
  clear d1 d2
  go_wp2_with fail
  refine (sgn_int b _ _ _ HLT.out (or52_int _ e f HE.out.symm (by omega) hml)).mono ?_
  rintro e' w' ⟨rfl, rfl⟩
  go_wp2_with fail
  go_ret
  exact ⟨rfl, rfl⟩

theorem frac52 : bits .and .u64 (4503599627370496 : Int) 4503599627370495 = ((0 : Nat) : Int) := by
  have h := bits_frac 4503599627370496 (by decide)
  rw [show 4503599627370496 % 2 ^ 52 = 0 by decide] at h
  exact h

set_option maxRecDepth 100000 in
set_option maxHeartbeats 1000000 in
theorem pack_top_inf (b : Bool) (p : Int) (w : World) (x : Int) (hx : x = 9007199254740992) (hp1 : 971 ≤ p) (hp2 : p ≤ 1000000) : Calls Tryz.prog 102 #[.bool b, .int .u64 x, .int .i64 p] w fun e w' => e = .returned (.int .u64 (wd b cap : Nat)) ∧ w = w' := by
  subst hx
  have C := Lib.hid (fun w => sgn_int b cap 9218868437227405312 w cap_lt (by decide))
  generalize wd b cap = r at *
  go_enter Tryz.func102, Tryz.ntmps102
  go_wp2_with (go_at_call 34; ((with_reducible refine (C.out _).mono ?_); rintro e w' ⟨rfl, rfl⟩))
  go_ret
  exact ⟨rfl, rfl⟩

set_option maxRecDepth 100000 in
set_option maxHeartbeats 1000000 in
theorem pack_top_mid (b : Bool) (e : Nat) (p : Int) (w : World) (x : Int) (hx : x = 9007199254740992) (he : (e : Int) = p + 1 + 1075) (he2 : e < 2047) (r : Nat) (hr : r = e * 2 ^ 52) : Calls Tryz.prog 102 #[.bool b, .int .u64 x, .int .i64 p] w fun e' w' => e' = .returned (.int .u64 (wd b r : Nat)) ∧ w = w' := by
  subst hx
  have hf := frac52
  have hp : p + 1 + 1075 ≤ 2046 := by omega
  have hp0 : 0 ≤ p + 1 + 1075 := by omega
  have HLT := Lib.hid (show r < 2 ^ 63 by omega)
  have HR := Lib.hid (show ((e * 2 ^ 52 + 0 : Nat) : Int) = (r : Int) by omega)
  have HE := Lib.hid he
  clear he hr
  go_enter Tryz.func102, Tryz.ntmps102
  go_wp2_with fail
  refine (sgn_int b _ _ _ HLT.out ((or52_int _ e 0 HE.out.symm (by omega) (by decide)).trans HR.out)).mono ?_
  rintro e' w' ⟨rfl, rfl⟩
  go_wp2_with fail
  go_ret
  exact ⟨rfl, rfl⟩

theorem pack_any (b : Bool) (m : Nat) (x p : Int) (w : World) (hm : m ≤ 2 ^ 53) (hx : x = (m : Int)) (hp1 : -1074 ≤ p) (hp2 : p ≤ 900000) : Calls Tryz.prog 102 #[.bool b, .int .u64 x, .int .i64 p] w fun e w' => e = .returned (.int .u64 (wd b (packR m p) : Nat)) ∧ w = w' := by
  by_cases h : m = 2 ^ 53
  · by_cases h2 : 2047 ≤ p + 1 + 1075
    · have e : packR m p = cap := (packR_top h).trans (rung_inf (by omega) h2)
      rw [e]
      exact pack_top_inf b p w x (by omega) (by omega) (by omega)
    · obtain ⟨e, he⟩ : ∃ e : Nat, (e : Int) = p + 1 + 1075 := ⟨(p + 1 + 1075).toNat, by omega⟩
      have e1 : packR m p = e * 2 ^ 52 := (packR_top h).trans ((rung_mid (by omega) he (by omega)).trans (by omega))
      rw [e1]
      exact pack_top_mid b e p w x (by omega) he (by omega) _ rfl
  · subst hx
    by_cases h1 : m < 2 ^ 52
    · rw [(packR_not h).trans (rung_lo h1)]; exact pack_lo b m p w h1
    · by_cases h2 : 2047 ≤ p + 1075
      · rw [(packR_not h).trans (rung_inf h1 h2)]
        exact pack_inf b m p w (by omega) (by omega) (by omega) (by omega)
      · obtain ⟨e, he⟩ : ∃ e : Nat, (e : Int) = p + 1075 := ⟨(p + 1075).toNat, by omega⟩
        rw [(packR_not h).trans (rung_mid h1 he (by omega))]
        exact pack_mid b m e p w (by omega) (by omega) he (by omega)
end Go.Proofs.YtijncfidjjfmiaaGreatDoor

namespace Go.Proofs.YtijncfidjjfmiaaGreatDoor
open Go.RowKit FloM

def RetU (w : World) (r : Nat) (e : Ending) (w' : World) : Prop := e = .returned (.int .u64 (r : Int)) ∧ Below w.heap.size w w'

theorem box_cells {w : World} {g : Nat} {t : TypeId} {x y z : Value} (h : Blk w g t #[x, y, z]) : w.cell? ⟨g, 0, none⟩ = some x ∧ w.cell? ⟨g, 1, none⟩ = some y ∧ w.cell? ⟨g, 2, none⟩ = some z := ⟨h.cell 0, h.cell 1, h.cell 2⟩

set_option maxRecDepth 100000 in
set_option maxHeartbeats 1000000 in
theorem near_zero (b s : Bool) (va : Value) (P : Int) (w : World) (ha : D w va 0) :
    Calls Tryz.prog 68 #[.agg #[.bool b, va, .int .i64 P], .bool s] w (RetU w (wd b 0)) := by
  obtain ⟨A, c, rfl, _⟩ := ha
  rw [nd_zero]
  have C := Lib.hid (fun w => sgn_int b 0 0 w (by decide) rfl)
  go_enter Tryz.func68, Tryz.ntmps68
  go_wp2_with (go_at_call 34; ((with_reducible refine (C.out _).mono ?_); rintro e w' ⟨rfl, rfl⟩))
  go_ret
  exact ⟨rfl, (Below.refl _ _).alloc (Nat.le_refl _) _⟩

set_option maxRecDepth 100000 in
set_option maxHeartbeats 1000000 in
theorem near_pos (b s : Bool) (va : Value) (M : Nat) (P : Int) (w : World) (hM0 : M ≠ 0) (hM : nd M ≤ 20000) (hP1 : -100000 ≤ P) (hP2 : P ≤ 100000) (ha : D w va M) :
    Calls Tryz.prog 68 #[.agg #[.bool b, va, .int .i64 P], .bool s] w (RetU w (wd b (packR (nearK (4 * M + s.toNat) (P - 2)) (nearQ (4 * M + s.toNat) (P - 2))))) := by
  have HA := Lib.hid ha
  obtain ⟨A, c, rfl, _⟩ := ha
  have hl0 : ((nd M : Int) == 0) = false := by have := nd_pos hM0; rw [beq_eq_false_iff_ne]; omega
  generalize hnd : nd M = nm at *
  have HND := Lib.hid hnd
  clear hnd
  obtain ⟨m, hm⟩ : ∃ m, m = 4 * M + s.toNat := ⟨_, rfl⟩
  rw [← hm]
  have HM := Lib.hid hm
  have hm0 : m ≠ 0 := by omega
  have hmb : nd m ≤ 20010 := by
    have h1 : m ≤ M * 2 ^ 3 := by have : s.toNat ≤ 1 := by cases s <;> decide
                                  omega
    have h2 := nd_mono h1
    have h3 := nd_shl M 3
    rw [HND.out] at h3
    omega
  clear hm
  cases s
  case' false =>
    go_enter Tryz.func68, Tryz.ntmps68
    go_wp2_with fail
    refine (shl_D _ M 2 _ _ (by have := HND.out; omega) (by omega) rfl (HA.out.below ((Below.refl _ _).alloc (Nat.le_refl _) _))).mono ?_
    rintro e w5 ⟨v5, rfl, hv5, _, hbel5⟩
    have hbox := (Blk.new w _ #[.bool b, .slice A nm c, .int .i64 P]).below hbel5 (by simp)
    obtain ⟨c0, c1, c2⟩ := box_cells hbox
    have em : M * 2 ^ 2 = m := by have := HM.out; simp at this; omega
    rw [em] at hv5
    have HV5 := Lib.hid hv5
    have HB5 := Lib.hid (((Below.refl w.heap.size w).alloc (Nat.le_refl _) _).trans (hbel5.mono (by simp)))
    have HBOX5 := Lib.hid hbox
    clear hv5 hbel5 hbox em HM
    go_wp2_with fail
  case' true =>
    go_enter Tryz.func68, Tryz.ntmps68
    go_wp2_with fail
    refine (shl_D _ M 2 _ _ (by have := HND.out; omega) (by omega) rfl (HA.out.below ((Below.refl _ _).alloc (Nat.le_refl _) _))).mono ?_
    rintro e w2 ⟨v2, rfl, hv2, _, hbel2⟩
    have hbox2 := (Blk.new w _ #[.bool b, .slice A nm c, .int .i64 P]).below hbel2 (by simp)
    obtain ⟨c0, c1, c2⟩ := box_cells hbox2
    have HV2 := Lib.hid hv2
    have HB2 := Lib.hid (((Below.refl w.heap.size w).alloc (Nat.le_refl _) _).trans (hbel2.mono (by simp)))
    have HBOX2 := Lib.hid hbox2
    have hsh := nd_shl M 2
    rw [HND.out] at hsh
    have HSH := Lib.hid hsh
    have hs2 := hbel2.size
    clear hv2 hbel2 hbox2 hsh
    go_wp2_with fail
    refine (add_D _ _ (M * 2 ^ 2) 1 _ (by have := HSH.out; omega) (by decide) (HV2.out.below ((Below.refl _ _).alloc (Nat.le_refl _) _)) (one_D w2)).mono ?_
    rintro e w5 ⟨v5, rfl, hv5, _, hbel5⟩
    clear c0 c1 c2
    have hlt : w.heap.size < (w2.alloc (.cells #[.int .u16 1] 81)).heap.size := by have := HBOX2.out.lt; simp; omega
    have hbox := (HBOX2.out.alloc (.cells #[.int .u16 1] 81)).below hbel5 hlt
    obtain ⟨c0, c1, c2⟩ := box_cells hbox
    have em : M * 2 ^ 2 + 1 = m := by have := HM.out; simp at this; omega
    rw [em] at hv5
    have HV5 := Lib.hid hv5
    have HB5 := Lib.hid ((HB2.out.alloc (by have := HBOX2.out.lt; omega) (.cells #[.int .u16 1] 81)).trans (hbel5.mono (by omega)))
    have HBOX5 := Lib.hid hbox
    clear hv5 hbel5 hbox em HM hlt
    go_wp2_with fail
  all_goals
    have hq := near_rq m (P - 2) 200000 hm0 (by omega)
    have hbl : bl m ≤ 16 * 20010 := by have := (bl_le m (16 * nd m)).2 (by rw [← pow_two]; exact lt_nd m); omega
    obtain ⟨Q, hQ⟩ : ∃ Q, Q = nearQ m (P - 2) := ⟨_, rfl⟩
    obtain ⟨K, hK⟩ : ∃ K, K = nearK m (P - 2) := ⟨_, rfl⟩
    have hmx : (if (bl m : Int) + (P - 2) - 53 < -1074 then -1074 else (bl m : Int) + (P - 2) - 53) = Q := by
      rw [hQ]; unfold nearQ; split <;> omega
    have HQK := Lib.hid (show packR (nearK m (P - 2)) (nearQ m (P - 2)) = packR K Q by rw [hQ, hK])
    rw [← hQ, ← hK] at hq
    have hQ1 : -1074 ≤ Q := by rw [hQ]; unfold nearQ; omega
    have hQ2 : Q ≤ 500000 := by rw [hQ]; unfold nearQ; omega
    have hQ3 : Q - (P - 2) ≤ 400000 := by rw [hQ]; unfold nearQ; omega
    have hK2 := hq.2.1
    unfold nearK at hK
    rw [← hQ] at hK
    have HK := Lib.hid hK
    clear hq hQ hK
    refine (lenB_D v5 m _ (by omega) HV5.out).mono ?_
    rintro e w' ⟨rfl, rfl⟩
    by_cases hle : Q ≤ P - 2
    · have hK3 : K = m * 2 ^ (P - 2 - Q).toNat := by rw [HK.out, if_pos hle]
      obtain ⟨n, hn⟩ : ∃ n : Nat, (n : Int) = P - 2 - Q := ⟨(P - 2 - Q).toNat, by omega⟩
      rw [← hn, Int.toNat_natCast] at hK3
      have hn4 : n ≤ 400000 := by omega
      have hw : IntKind.i64.wrap (P - 2 - Q) = (n : Int) := by rw [← hn]; exact IntWalk.i64_in _ (by omega)
      have HK3 := Lib.hid hK3
      have hg := HBOX5.out.lt
      have hs5 : w.heap.size ≤ w5.heap.size := HB5.out.size
      clear hK3 hn HK
      go_wp2_with fail
      clear hbl hmx
      go_region_held3 (fun w' => w'.cell? ⟨w.heap.size, 0, none⟩ = some (.bool b)) (first | go_keep | assumption)
        (first
          | (go_at_call 72; refine (shl_D v5 m n _ _ (by omega) hn4 rfl (by exact HV5.out)).mono ?_; rintro e w6 ⟨v6, rfl, hv6, _, hbel6⟩; have HV6 := Lib.hid hv6; have c6 : w6.cell? ⟨w.heap.size, 0, none⟩ = some (.bool b) := (hbel6.cell (p := ⟨w.heap.size, 0, none⟩) (by exact hg)).trans (by exact c0); have HB6 := Lib.hid hbel6; clear hv6 hbel6)
          | (go_at_call 57; refine (value_D v6 (m * 2 ^ n) _ (by rw [← HK3.out]; omega) (by exact HV6.out)).mono ?_; rintro e w' ⟨rfl, rfl⟩)
          | (go_at_call 102; refine (pack_any b K _ Q _ hK2 (by rw [HK3.out, Int.natCast_mul, Int.natCast_pow]; rfl) hQ1 (by omega)).mono ?_; rintro e w' ⟨rfl, rfl⟩))
      go_wp2_with fail
      go_ret
      exact ⟨by rw [HQK.out]; rfl, HB5.out.drew.trans (HB6.out.mono hs5)⟩
    · have hK3 : K = rhe m (2 ^ (Q - (P - 2)).toNat) := by rw [HK.out, if_neg hle]
      obtain ⟨n, hn⟩ : ∃ n : Nat, (n : Int) = Q - (P - 2) := ⟨(Q - (P - 2)).toNat, by omega⟩
      rw [← hn, Int.toNat_natCast] at hK3
      have hn4 : n ≤ 400000 := by omega
      have HK3 := Lib.hid hK3
      have HN := Lib.hid hn
      have hg := HBOX5.out.lt
      have hs5 : w.heap.size ≤ w5.heap.size := HB5.out.size
      clear hK3 hn HK
      go_wp2_with fail
      clear hbl hmx
      refine (shl_D _ 1 n _ _ (by decide) hn4 HN.out.symm (one_D w5)).mono ?_
      rintro e w6 ⟨v6, rfl, hv6, _, hbel6⟩
      rw [Nat.one_mul] at hv6
      have hb6 : Below w.heap.size w w6 := (HB5.out.alloc hs5 _).trans (hbel6.mono (by simp; omega))
      have h56 : Below w5.heap.size w5 w6 := ((Below.refl _ _).alloc (Nat.le_refl _) _).trans (hbel6.mono (by simp))
      have HV6 := Lib.hid hv6
      have HB6 := Lib.hid hb6
      have HV56 := Lib.hid (HV5.out.below h56)
      have HBOX6 := Lib.hid (HBOX5.out.below h56 hg)
      have hU := Nat.two_pow_pos n
      have hUn : nd (2 ^ n) ≤ 50000 := by have := nd_shl 1 n; rw [Nat.one_mul] at this; have : nd 1 = 1 := by decide
                                          omega
      clear hv6 hbel6 hb6 h56 c0 c1 c2
      obtain ⟨k, hk⟩ : ∃ k, k = m / 2 ^ n := ⟨_, rfl⟩
      obtain ⟨r, hr⟩ : ∃ r, r = m % 2 ^ n := ⟨_, rfl⟩
      have hKr : K = k + (if 2 ^ n < 2 * r ∨ (2 * r = 2 ^ n ∧ k % 2 = 1) then 1 else 0) := by rw [HK3.out, hk, hr]; rfl
      have hrm : nd r ≤ nd m := nd_mono (by rw [hr]; exact Nat.mod_le _ _)
      have hk64 : k ≤ 9007199254740992 := by rw [hKr] at hK2; split at hK2 <;> omega
      have HKR := Lib.hid hKr
      have HKK := Lib.hid hk
      have HRR := Lib.hid hr
      clear hKr hk hr HK3
      generalize 2 ^ n = U at *
      go_wp2_with fail
      refine (div_D v5 v6 m U _ (by omega) (by omega) hU HV56.out HV6.out).mono ?_
      rintro e w7 ⟨v7, u7, rfl, hv7, hu7, _, _, hbel7⟩
      rw [← HKK.out] at hv7
      rw [← HRR.out] at hu7
      have hs6 := HB6.out.size
      have HV7 := Lib.hid hv7
      have HU7 := Lib.hid hu7
      have HB7 := Lib.hid (HB6.out.trans (hbel7.mono hs6))
      have HV67 := Lib.hid (HV6.out.below hbel7)
      have HBOX7 := Lib.hid (HBOX6.out.below hbel7 HBOX6.out.lt)
      clear hv7 hu7 hbel7
      go_wp2_with fail
      refine (value_D v7 k _ (by omega) HV7.out).mono ?_
      rintro e w' ⟨rfl, rfl⟩
      go_wp2_with fail
      refine (shl_D u7 r 1 _ _ (by omega) (by omega) rfl HU7.out).mono ?_
      rintro e w8 ⟨v8, rfl, hv8, _, hbel8⟩
      rw [show r * 2 ^ 1 = 2 * r by omega] at hv8
      have hs7 := HB7.out.size
      have HV8 := Lib.hid hv8
      have HB8 := Lib.hid (HB7.out.trans (hbel8.mono hs7))
      have HV68 := Lib.hid (HV67.out.below hbel8)
      have hbox := HBOX7.out.below hbel8 HBOX7.out.lt
      have h2r : nd (2 * r) ≤ 50000 := by have := nd_shl r 1; rw [show r * 2 ^ 1 = 2 * r by omega] at this; omega
      obtain ⟨c0, c1, c2⟩ := box_cells hbox
      clear hv8 hbel8 hbox
      go_wp2_with fail
      refine (cmp_D v8 v6 (2 * r) U _ (by omega) HV8.out HV68.out).mono ?_
      rintro e w9 ⟨rfl, n9, rfl⟩
      rcases Nat.lt_trichotomy U (2 * r) with h | h | h
      · rw [cmpN_gt h]
        have hKe : K = k + 1 := by rw [HKR.out, if_pos (.inl h)]
        have HKE := Lib.hid hKe
        clear hKe h
        go_wp2_with fail
        refine (pack_any b K _ Q _ hK2 (by rw [HKE.out]; go_num) hQ1 (by omega)).mono ?_
        rintro e w' ⟨rfl, rfl⟩
        go_wp2_with fail
        go_ret
        exact ⟨by rw [HQK.out]; rfl, below_drewN HB8.out _⟩
      · rw [cmpN_eq h.symm]
        by_cases ho : k % 2 = 1
        · have hKe : K = k + 1 := by rw [HKR.out, if_pos (.inr ⟨h.symm, ho⟩)]
          have HKE := Lib.hid hKe
          have d1 : (((k : Int) % 2) == 1) = true := by rw [beq_iff_eq]; omega
          clear hKe h ho
          go_wp2_with fail
          refine (pack_any b K _ Q _ hK2 (by rw [HKE.out]; go_num) hQ1 (by omega)).mono ?_
          rintro e w' ⟨rfl, rfl⟩
          go_wp2_with fail
          go_ret
          exact ⟨by rw [HQK.out]; rfl, below_drewN HB8.out _⟩
        · have hKe : K = k := by rw [HKR.out, if_neg (by omega)]; omega
          have HKE := Lib.hid hKe
          have d1 : (((k : Int) % 2) == 1) = false := by rw [beq_eq_false_iff_ne]; omega
          clear hKe h ho
          go_wp2_with fail
          refine (pack_any b K _ Q _ hK2 (by rw [HKE.out]) hQ1 (by omega)).mono ?_
          rintro e w' ⟨rfl, rfl⟩
          go_wp2_with fail
          go_ret
          exact ⟨by rw [HQK.out]; rfl, below_drewN HB8.out _⟩
      · rw [cmpN_lt h]
        have hKe : K = k := by rw [HKR.out, if_neg (by omega)]; omega
        have HKE := Lib.hid hKe
        clear hKe h
        go_wp2_with fail
        refine (pack_any b K _ Q _ hK2 (by rw [HKE.out]) hQ1 (by omega)).mono ?_
        rintro e w' ⟨rfl, rfl⟩
        go_wp2_with fail
        go_ret
        exact ⟨by rw [HQK.out]; rfl, below_drewN HB8.out _⟩

theorem near_any (b s : Bool) (va : Value) (M : Nat) (P : Int) (w : World) (hM : nd M ≤ 20000) (hP1 : -100000 ≤ P) (hP2 : P ≤ 100000) (ha : D w va M) :
    Calls Tryz.prog 68 #[.agg #[.bool b, va, .int .i64 P], .bool s] w (RetU w (wd b (rNear M P s.toNat))) := by
  by_cases h : M = 0
  · have e : rNear M P s.toNat = 0 := if_pos h
    rw [e]
    subst h
    exact near_zero b s va P w ha
  · have e : rNear M P s.toNat = packR (nearK (4 * M + s.toNat) (P - 2)) (nearQ (4 * M + s.toNat) (P - 2)) := if_neg h
    rw [e]
    exact near_pos b s va M P w h hM hP1 hP2 ha
end Go.Proofs.YtijncfidjjfmiaaGreatDoor

namespace Go.Proofs.YtijncfidjjfmiaaGreatDoor
open Go.RowKit FloM

theorem D.shape {w : World} {v : Value} {N : Nat} (h : D w v N) : ∃ A c, v = .slice A (nd N) c := by
  obtain ⟨A, c, e, _⟩ := h; exact ⟨A, c, e⟩
theorem nd_64 {x : Nat} (h : x < 2 ^ 64) : nd x ≤ 4 := nd_bound h

end Go.Proofs.YtijncfidjjfmiaaGreatDoor

namespace FloM
theorem of_e (u : Nat) (_h : u < 2 ^ 64) : u / 2 ^ 52 % 2048 = rg u / 2 ^ 52 := by unfold rg; omega
theorem of_m (u : Nat) : u % 2 ^ 52 = rg u % 2 ^ 52 := by unfold rg; omega
theorem of_lo {u : Nat} (h : rg u / 2 ^ 52 = 0) : mg (rg u) = rg u % 2 ^ 52 ∧ pp u = -1074 := by
  have h1 : rg u < 2 ^ 52 := by omega
  unfold mg pp up
  rw [if_pos h1, Nat.mod_eq_of_lt h1, h]
  exact ⟨rfl, by omega⟩
theorem of_hi {u : Nat} (h : rg u / 2 ^ 52 ≠ 0) : mg (rg u) = 2 ^ 52 + rg u % 2 ^ 52 ∧ pp u = ((rg u / 2 ^ 52 : Nat) : Int) - 1075 := by
  have h1 : ¬ rg u < 2 ^ 52 := by omega
  unfold mg pp up
  rw [if_neg h1]
  exact ⟨rfl, by omega⟩
end FloM
namespace Go.Proofs.YtijncfidjjfmiaaGreatDoor
open Go.RowKit FloM

theorem bits_sign (c : Nat) (h : c < 2 ^ 64) : bits .and .u64 (c : Int) 9223372036854775808 = ((sgnN c : Nat) : Int) := by
  have := u64_and_nat c (2 ^ 63) (by omega) (by decide)
  rw [and_sign c h] at this
  exact this
theorem sgn_ne (u : Nat) (h : u < 2 ^ 64) : (((sgnN u : Nat) : Int) != 0) = sgn u := by
  obtain ⟨_, _, h3⟩ := sgnN_of u h
  rw [h3]
  unfold sgnN
  by_cases hu : u < 2 ^ 63
  · rw [if_pos hu, decide_eq_false (by omega)]; rfl
  · rw [if_neg hu, decide_eq_true (by omega)]; rfl
theorem bits_e (u : Nat) (h : u < 2 ^ 64) : bits .and .u64 ((u : Int) / 4503599627370496) 2047 = ((rg u / 2 ^ 52 : Nat) : Int) := by
  have h1 := u64_and_nat (u / 2 ^ 52) 2047 (by omega) (by decide)
  have h2 : u / 2 ^ 52 &&& 2047 = u / 2 ^ 52 % 2048 := by
    have := Nat.and_two_pow_sub_one_eq_mod (u / 2 ^ 52) 11
    rwa [show (2:Nat) ^ 11 - 1 = 2047 by decide, show (2:Nat) ^ 11 = 2048 by decide] at this
  rw [h2, of_e u h] at h1
  rw [← h1]
  rfl
theorem bits_or52 (m : Nat) (h : m < 2 ^ 52) : bits .or .u64 (m : Int) 4503599627370496 = ((2 ^ 52 + m : Nat) : Int) := by
  have h1 := u64_or_nat m (2 ^ 52) (by omega) (by decide)
  have h2 := or52 1 m h
  rw [Nat.one_mul] at h2
  rw [Nat.or_comm, h2] at h1
  exact h1

theorem box_free {w : World} {g : Nat} {t : TypeId} {cs : Array Value} (h : Blk w g t cs) : w.frozen? ⟨g, 0, none⟩ = false ∧ w.frozen? ⟨g, 1, none⟩ = false ∧ w.frozen? ⟨g, 2, none⟩ = false := ⟨h.frozen 0, h.frozen 1, h.frozen 2⟩
/-- Three stores into a box. -/
def set3 (w : World) (g : Nat) (x y z : Value) : World := ((w.setCell ⟨g, 0, none⟩ x).setCell ⟨g, 1, none⟩ y).setCell ⟨g, 2, none⟩ z
theorem box_set3 {w : World} {g : Nat} {t : TypeId} {a b c x y z : Value} (h : Blk w g t #[a, b, c]) : Blk (set3 w g x y z) g t #[x, y, z] := ((h.set_ 0 x).set_ 1 y).set_ 2 z
theorem D.set3 {w : World} {v : Value} {N g : Nat} {x y z : Value} (h : D w v N) (hg : v.ownBlock ≠ some g) : D (set3 w g x y z) v N := ((h.set_ hg x).set_ hg y).set_ hg z
theorem below_set3 {w0 w : World} {g : Nat} {x y z : Value} (h : Below w0.heap.size w0 w) (hg : w0.heap.size ≤ g) : Below w0.heap.size w0 (set3 w g x y z) := ((h.setCell (p := ⟨g, 0, none⟩) hg x).setCell (p := ⟨g, 1, none⟩) hg y).setCell (p := ⟨g, 2, none⟩) hg z
/-- What Of gives. -/
def GivesX (w : World) (b : Bool) (M : Nat) (P : Int) (e : Ending) (w' : World) : Prop := ∃ v, e = .returned (.agg #[.bool b, v, .int .i64 P]) ∧ D w' v M ∧ Below w.heap.size w w'

set_option maxRecDepth 100000 in
set_option maxHeartbeats 400000 in
theorem rof_any (u : Nat) (hu : u < 2 ^ 64) (w : World) : Calls Tryz.prog 51 #[.int .u64 u] w (GivesX w (sgn u) (mg (rg u)) (pp u)) := by
  have f1 := bits_e u hu
  have f2 := bits_frac u hu
  have f3 := bits_sign u hu
  have f4 := sgn_ne u hu
  rw [of_m u] at f2
  have hE : rg u / 2 ^ 52 < 2048 := by unfold rg; omega
  have hm : rg u % 2 ^ 52 < 2 ^ 52 := Nat.mod_lt _ (by decide)
  by_cases h0 : rg u / 2 ^ 52 = 0
  · obtain ⟨e1, e2⟩ := of_lo h0
    rw [h0] at f1
    have E1 := Lib.hid e1
    have E2 := Lib.hid e2
    have HM := Lib.hid hm
    clear e1 e2 h0 hE hm hu
    generalize rg u % 2 ^ 52 = m at *
    generalize sgnN u = s at *
    generalize sgn u = b at *
    go_enter Tryz.func51, Tryz.ntmps51
    go_wp2_with fail
    refine (small_D m _ (by have := HM.out; omega)).mono ?_
    rintro e w2 ⟨v2, rfl, hv2, hf2, hbel2⟩
    obtain ⟨A2, k2, rfl⟩ := hv2.shape
    have hbox := (Blk.new w 76 #[.bool false, .slice none 0 0, .int .i64 0]).below hbel2 (by simp)
    obtain ⟨c0, c1, c2⟩ := box_cells hbox
    obtain ⟨f0, f1', f2'⟩ := box_free hbox
    have HV2 := Lib.hid hv2
    have HB2 := Lib.hid hbel2
    have hs2 := hbel2.size
    have HBOX := Lib.hid hbox
    have hne : (Value.slice A2 (nd m) k2).ownBlock ≠ some w.heap.size := fun h => by have := hf2 _ h; simp at this; omega
    have HNE := Lib.hid hne
    clear hv2 hbel2 hbox hf2 hne
    go_wp2_with fail
    obtain ⟨r0, r1, r2⟩ := box_cells (box_set3 (x := .bool b) (y := .slice A2 (nd m) k2) (z := .int .i64 (-1074)) HBOX.out)
    unfold set3 at r0 r1 r2
    refine bodyPost_ret (v := .agg #[.bool b, .slice A2 (nd m) k2, .int .i64 (-1074)]) (by simp [results, Tryz.results51, go_sem, r0, r1, r2]) rfl ⟨_, by rw [E2.out], ?_, ?_⟩
    · rw [E1.out]; exact HV2.out.set3 HNE.out
    · exact below_set3 (((Below.refl _ _).alloc (Nat.le_refl _) _).trans (HB2.out.mono (by simp))) (Nat.le_refl _)
  · obtain ⟨e1, e2⟩ := of_hi h0
    have f5 := bits_or52 _ hm
    have E1 := Lib.hid e1
    have HM := Lib.hid (show 2 ^ 52 + rg u % 2 ^ 52 < 2 ^ 53 by omega)
    clear e1 hm hu
    generalize 2 ^ 52 + rg u % 2 ^ 52 = m2 at *
    generalize rg u % 2 ^ 52 = m at *
    generalize rg u / 2 ^ 52 = E at *
    have hE0 : ((E : Int) == 0) = false := by rw [beq_eq_false_iff_ne]; omega
    have E2 := Lib.hid e2
    clear e2 h0
    generalize sgnN u = s at *
    generalize sgn u = b at *
    go_enter Tryz.func51, Tryz.ntmps51
    go_wp2_with fail
    refine (small_D m2 _ (by have := HM.out; omega)).mono ?_
    rintro e w2 ⟨v2, rfl, hv2, hf2, hbel2⟩
    obtain ⟨A2, k2, rfl⟩ := hv2.shape
    have hbox := (Blk.new w 76 #[.bool false, .slice none 0 0, .int .i64 0]).below hbel2 (by simp)
    obtain ⟨c0, c1, c2⟩ := box_cells hbox
    obtain ⟨f0, f1', f2'⟩ := box_free hbox
    have HV2 := Lib.hid hv2
    have HB2 := Lib.hid hbel2
    have hs2 := hbel2.size
    have HBOX := Lib.hid hbox
    have hne : (Value.slice A2 (nd m2) k2).ownBlock ≠ some w.heap.size := fun h => by have := hf2 _ h; simp at this; omega
    have HNE := Lib.hid hne
    clear hv2 hbel2 hbox hf2 hne
    go_wp2_with fail
    obtain ⟨r0, r1, r2⟩ := box_cells (box_set3 (x := .bool b) (y := .slice A2 (nd m2) k2) (z := .int .i64 ((E : Int) - 1075)) HBOX.out)
    unfold set3 at r0 r1 r2
    refine bodyPost_ret (v := .agg #[.bool b, .slice A2 (nd m2) k2, .int .i64 ((E : Int) - 1075)]) (by simp [results, Tryz.results51, go_sem, r0, r1, r2]) rfl ⟨_, by rw [E2.out], ?_, ?_⟩
    · rw [E1.out]; exact HV2.out.set3 HNE.out
    · exact below_set3 (((Below.refl _ _).alloc (Nat.le_refl _) _).trans (HB2.out.mono (by simp))) (Nat.le_refl _)
end Go.Proofs.YtijncfidjjfmiaaGreatDoor

namespace FloM
theorem mg_nd (u : Nat) : nd (mg (rg u)) ≤ 4 := nd_bound (Nat.lt_of_lt_of_le (mg_lt (rg u)) (by decide))
theorem pp_bd (u : Nat) : -1074 ≤ pp u ∧ (u < 2 ^ 64 → pp u ≤ 972) := by
  unfold pp up
  refine ⟨by omega, fun _ => ?_⟩
  have : rg u / 2 ^ 52 < 2048 := by unfold rg; omega
  omega
end FloM
namespace Go.Proofs.YtijncfidjjfmiaaGreatDoor
open Go.RowKit FloM

theorem two_alloc (w : World) (o o' : Obj) : Below w.heap.size w ((w.alloc o).alloc o') := ((Below.refl _ _).alloc (Nat.le_refl _) o).alloc (by simp) o'
theorem four_cells {w : World} {g g' : Nat} {t t' : TypeId} {a b c a' b' c' : Value} (h : Blk w g t #[a, b, c]) (h' : Blk w g' t' #[a', b', c']) :
    w.cell? ⟨g, 1, none⟩ = some b ∧ w.cell? ⟨g, 2, none⟩ = some c ∧ w.cell? ⟨g', 1, none⟩ = some b' ∧ w.cell? ⟨g', 2, none⟩ = some c' := ⟨h.cell 1, h.cell 2, h'.cell 1, h'.cell 2⟩

end Go.Proofs.YtijncfidjjfmiaaGreatDoor
