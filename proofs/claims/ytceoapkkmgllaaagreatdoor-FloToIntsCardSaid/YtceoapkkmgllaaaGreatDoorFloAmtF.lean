/- Amounts: small, shl, lenB, value, ten. -/
import Derived.Test.YtceoapkkmgllaaaGreatDoorFloAmtE
namespace Go.Proofs.YtceoapkkmgllaaaGreatDoor
open Go.RowKit FloM

theorem small_own (w : World) (x : Nat) (A B C E : Int) (hA : A = (dg x 0 : Nat)) (hB : B = (dg x 1 : Nat)) (hC : C = (dg x 2 : Nat)) (hE : E = (dg x 3 : Nat)) :
    Own w.heap.size (w.alloc (.cells #[.int .u16 A, .int .u16 B, .int .u16 C, .int .u16 E] 102)) (.slice (some ⟨w.heap.size, 0, none⟩) 4 4) 4 x := by
  subst hA hB hC hE
  exact World.ownsRow_lit w #[.int .u16 (dg x 0 : Nat), .int .u16 (dg x 1 : Nat), .int .u16 (dg x 2 : Nat), .int .u16 (dg x 3 : Nat)] 4 (Nat.le_refl _) (by unfold maxLen; omega) rfl
theorem p64 : (65536 : Nat) ^ 4 = 2 ^ 64 := by decide
theorem small_dgs (x : Nat) (hx : x ≤ 18446744073709551615) : IntKind.u16.wrap (x : Int) = (dg x 0 : Nat) ∧ IntKind.u16.wrap ((x : Int) / 65536) = (dg x 1 : Nat) ∧ IntKind.u16.wrap ((x : Int) / 4294967296) = (dg x 2 : Nat) ∧ (x : Int) / 281474976710656 = (dg x 3 : Nat) := by
  have e2 : (65536 : Nat) ^ 2 = 4294967296 := by decide
  have e3 : (65536 : Nat) ^ 3 = 281474976710656 := by decide
  unfold dg
  rw [IntKind.wrap_u16, IntKind.wrap_u16, IntKind.wrap_u16, e2, e3, Nat.pow_zero, Nat.pow_one]
  omega

set_option maxRecDepth 100000 in
set_option maxHeartbeats 400000 in
theorem small_D (x : Nat) (w : World) (hx : x < 2 ^ 64) : Calls Tryz.prog 65 #[.int .u64 x] w (GivesD w x) := by
  have hx0 : x ≤ 18446744073709551615 := by omega
  have HX := Lib.hid hx
  have HS := Lib.hid (small_dgs x hx0)
  clear hx
  go_enter Tryz.func65, Tryz.ntmps65
  go_wp2_with fail
  refine (trim_D _ 4 x _ (Own.DS (small_own w x _ _ _ _ HS.out.1 HS.out.2.1 HS.out.2.2.1 HS.out.2.2.2) (by rw [p64]; exact HX.out))).mono ?_
  rintro e w' ⟨⟨v', rfl, hv', ho'⟩, rfl⟩
  have HV := Lib.hid hv'
  have HO := Lib.hid ho'
  clear hv' ho'
  go_wp2_with fail
  go_ret
  exact ⟨_, rfl, HV.out, Fr.of (v := .slice (some ⟨w.heap.size, 0, none⟩) 4 4) own_ge HO.out, (Below.refl _ _).alloc (Nat.le_refl _) _⟩

/-! shl. -/
theorem nd_pos {a : Nat} (h : a ≠ 0) : 0 < nd a := by have := @nd_eq_zero a; omega
theorem shl_eq (a n : Nat) : a * 2 ^ n = a * 2 ^ (n % 16) * 65536 ^ (n / 16) := by
  rw [pow_two, Nat.mul_assoc, ← Nat.pow_add]; congr 2; omega
theorem nd_shl (a n : Nat) : nd (a * 2 ^ n) ≤ nd a + n / 16 + 1 := by
  rw [nd_le]
  have h := lt_nd a
  calc a * 2 ^ n < 65536 ^ nd a * 2 ^ n := (Nat.mul_lt_mul_right (Nat.two_pow_pos _)).2 h
    _ ≤ 65536 ^ nd a * 2 ^ (16 * (n / 16 + 1)) := Nat.mul_le_mul_left _ (Nat.pow_le_pow_right (by decide) (by omega))
    _ = 65536 ^ (nd a + n / 16 + 1) := by rw [← pow_two, ← Nat.pow_add, Nat.add_assoc]
theorem pow_arg (k : Nat) (h : 2 ^ k < 65536) : (2 : Int) ^ k % 4294967296 = ((2 ^ k : Nat) : Int) := by
  have e : ((2 : Int) ^ k) = ((2 ^ k : Nat) : Int) := by rw [Int.natCast_pow]; rfl
  rw [e]
  generalize 2 ^ k = q at *
  omega
theorem pow15 (n : Nat) : 2 ^ (n % 16) < 65536 := by
  have : (2 : Nat) ^ (n % 16) ≤ 2 ^ 15 := Nat.pow_le_pow_right (by decide) (by omega)
  omega

set_option maxRecDepth 100000 in
set_option maxHeartbeats 400000 in
theorem shl_zero (va : Value) (n : Nat) (w : World) (ha : D w va 0) : Calls Tryz.prog 72 #[va, .int .i64 n] w (GivesD w 0) := by
  obtain ⟨A, c, rfl, _⟩ := ha
  rw [nd_zero]
  go_enter Tryz.func72, Tryz.ntmps72
  go_wp2_with fail
  go_ret
  refine ⟨_, rfl, ⟨none, 0, ?_, ?_, ?_, ?_, ?_⟩, ?_, Below.refl _ _⟩
  · rw [nd_zero]; rfl
  · rw [nd_zero]; exact Nat.le_refl _
  · unfold maxLen; omega
  · exact lt_nd 0
  · rw [nd_zero]; exact Reads.none_
  · intro g hg; cases hg

set_option maxRecDepth 100000 in
set_option maxHeartbeats 1000000 in
theorem shl_pos (va : Value) (a n : Nat) (w : World) (h0 : a ≠ 0) (hb1 : nd a ≤ 50000) (hn : n ≤ 400000) (ha : D w va a) : Calls Tryz.prog 72 #[va, .int .i64 n] w (GivesD w (a * 2 ^ n)) := by
  obtain ⟨i0, hi0, hz0, hz1, hz2⟩ := info_parts info16
  have hp := nd_pos h0
  have HA := Lib.hid ha
  obtain ⟨A, c, rfl, _⟩ := ha
  have hm := pow15 n
  have HE := Lib.hid (shl_eq a n)
  have hnt := nd_times a (2 ^ (n % 16)) hm
  have HM := Lib.hid hm
  clear h0 hm
  have hl0 : ((nd a : Int) == 0) = false := by rw [beq_eq_false_iff_ne]; omega
  generalize hnd : nd a = m at *
  have HND := Lib.hid hnd
  clear hnd
  go_enter Tryz.func72, Tryz.ntmps72
  go_wp2_with (refine wpList_make_full _ rfl _ _ _ rfl w.heap.size 102 i0 (.int .u16 0) 1 und16 hi0 hz0 hz1 _ _ _ _ (n / 16) rfl rfl (by go_num) (by go_num) (by rw [hz2]; omega) (by unfold maxLen; omega) (Nat.le_refl _) ?_)
  intro w1 hown1 hgrow1
  rw [vals_made] at hown1
  have hbel1 : Below w.heap.size w w1 := (Below.refl _ _).grown hgrow1 (Nat.le_refl _) (fun k hk => by cases hk)
  have HOW := Lib.hid hown1
  have HB1 := Lib.hid hbel1
  have hs1 := hbel1.size
  have hgl : w.heap.size < w1.heap.size := (World.ownsRow.lt hown1 w.heap.size rfl).2
  clear hown1 hgrow1 hbel1
  go_wp2_with fail
  refine (times_I _ a (2 ^ (n % 16)) _ _ (by have := HND.out; omega) HM.out (HA.out.below HB1.out) (pow_arg _ HM.out)).mono ?_
  rintro e w2 ⟨v2, rfl, hv2, hf2, hbel2⟩
  have HB2 := Lib.hid hbel2
  have hs2 := hbel2.size
  have hown2 := World.ownsRow.kept HOW.out (only_of_below hbel2 none) (.inr (by simp [Value.ownBlock]))
  obtain ⟨A2, c2, rfl, _, _, hl2, hr2⟩ := hv2
  have HR2 := Lib.hid hr2
  have HL2 := Lib.hid hl2
  have HOW2 := Lib.hid hown2
  clear hf2 hbel2 hr2 hl2 hown2
  obtain ⟨M, hM⟩ : ∃ M, M = a * 2 ^ (n % 16) := ⟨_, rfl⟩
  rw [← hM] at HR2 HL2 hnt HE ⊢
  have hMb : nd M ≤ 50001 := by have := HND.out; omega
  clear hM hnt
  go_wp2_with (at_builtin; refine wpList_append_any _ rfl _ _ _ rfl w.heap.size 102 i0 _ 1 2 und16 hi0 hz0 hz1 hz2 rfl (by omega) _ (n / 16) _ rfl HOW2.out w2.heap.size A2 (nd M) c2 (vals (fd (nd M) M)) rfl HR2.out (vals_one _) (by unfold maxLen; omega) (by omega) (by omega) ?_)
  intro v3 w3 hown3 hgrow3 _
  rw [← vals_app, ← fd_shift] at hown3
  have hbel3 : Below w.heap.size w w3 := (HB1.out.trans (HB2.out.mono hs1)).grown hgrow3 (by omega) own_ge
  have HO3 := Lib.hid (show Own w.heap.size w3 v3 (n / 16 + nd M) (M * 65536 ^ (n / 16)) from hown3)
  have HB3 := Lib.hid hbel3
  have HLT := Lib.hid (show M * 65536 ^ (n / 16) < 65536 ^ (n / 16 + nd M) from by
    rw [Nat.pow_add, Nat.mul_comm]; exact (Nat.mul_lt_mul_left (pow_pos _)).2 HL2.out)
  clear hown3 hgrow3 hbel3
  go_wp2_with fail
  refine (trim_D v3 _ _ w3 (HO3.out.DS HLT.out)).mono ?_
  rintro e w' ⟨⟨v', rfl, hv', ho'⟩, rfl⟩
  have HV := Lib.hid hv'
  have HO := Lib.hid ho'
  clear hv' ho'
  go_wp2_with fail
  go_ret
  exact ⟨_, rfl, by rw [HE.out]; exact HV.out, Fr.of (Own.fr HO3.out) HO.out, HB3.out⟩

theorem shl_D (va : Value) (a n : Nat) (x : Int) (w : World) (hb1 : nd a ≤ 50000) (hn : n ≤ 400000) (hx : x = (n : Int)) (ha : D w va a) : Calls Tryz.prog 72 #[va, .int .i64 x] w (GivesD w (a * 2 ^ n)) := by
  subst hx
  by_cases h0 : a = 0
  · subst h0
    rw [Nat.zero_mul]
    exact shl_zero va n w ha
  · exact shl_pos va a n w h0 hb1 hn ha

/-! lenB. -/
set_option maxRecDepth 100000 in
set_option maxHeartbeats 1000000 in
theorem lenB_D (va : Value) (a : Nat) (w : World) (hb1 : nd a ≤ 100000) (ha : D w va a) : Calls Tryz.prog 103 #[va] w fun e w' => e = .returned (.int .i64 (bl a : Nat)) ∧ w = w' := by
  obtain ⟨A, c, rfl, _, _, _, hr⟩ := ha
  by_cases h0 : a = 0
  · subst h0
    rw [nd_zero, bl_zero]
    clear hr hb1
    go_enter Tryz.func103, Tryz.ntmps103
    go_wp2_with fail
    go_ret
    exact ⟨rfl, rfl⟩
  · have hp := nd_pos h0
    obtain ⟨ad, rfl, _, hcell⟩ := DS.at_ hr (show nd a - 1 < nd a by omega)
    have HT := Lib.hid (bl_top h0)
    have hba := Lib.hid (show bl a ≤ 1600000 from Nat.le_trans ((bl_le a (16 * nd a)).2 (by rw [← pow_two]; exact lt_nd a)) (by omega))
    have hx := dg_lt a (nd a - 1)
    have hl0 : ((nd a : Int) == 0) = false := by rw [beq_eq_false_iff_ne]; omega
    generalize dg a (nd a - 1) = x at *
    generalize nd a = m at *
    clear hr h0
    go_enter Tryz.func103, Tryz.ntmps103
    go_wp2
    go_loop [3, 4] (fun n t => ∃ (y k : Nat), y < 65536 ∧ k + bl y = bl a ∧ k ≤ 3000000 ∧ n = .int .i64 k ∧ t = .int .u16 y) (fun _ t => (intOf t).toNat)
    case atStart => exact ⟨x, 16 * (m - 1), hx, HT.out.symm, by omega, by go_num, rfl⟩
    case round =>
      obtain ⟨y, k, hy, hk, hk2, rfl, rfl⟩ := hrel
      have hby : bl y ≤ 16 := (bl_le y 16).2 hy
      have HK := Lib.hid hk
      by_cases hy0 : 0 < y
      · have HH := Lib.hid (bl_half (N := y) (by omega))
        have hkk : k ≤ 2999999 := by have := HH.out; have := hba.out; omega
        clear hk
        go_wp2
        go_round
        case rel => exact ⟨y / 2, k + 1, by omega, by have := HH.out; have := HK.out; omega, by omega, by go_num, by go_num⟩
        case measure => simp [intOf]; omega
      · have e : y = 0 := by omega
        subst e
        rw [bl_zero, Nat.add_zero] at HK
        clear hk hby hy0
        go_wp2
        go_ret
        exact ⟨ret_int (by rw [HK.out]), rfl⟩

/-! value. -/
theorem or16 (x d : Nat) (hd : d < 65536) : x * 65536 ||| d = x * 65536 + d := by
  have := Nat.shiftLeft_add_eq_or_of_lt (i := 16) (b := d) (by simpa using hd) x
  rw [Nat.shiftLeft_eq] at this
  exact this.symm
theorem ofInt_u64 (a : Nat) (ha : a < 18446744073709551616) : (BitVec.ofInt 64 (a : Int)).toNat = a := by
  rw [BitVec.ofInt_natCast, BitVec.toNat_ofNat]; exact Nat.mod_eq_of_lt (by omega)
theorem u64_or_nat (a b : Nat) (ha : a < 18446744073709551616) (hb : b < 18446744073709551616) : bits .or .u64 (a : Int) (b : Int) = ((a ||| b : Nat) : Int) := by
  have hx : a ||| b < 2 ^ 64 := Nat.or_lt_two_pow (by omega) (by omega)
  show IntKind.u64.wrap ((BitVec.ofInt 64 (a : Int) ||| BitVec.ofInt 64 (b : Int)).toNat : Int) = _
  rw [BitVec.toNat_or, ofInt_u64 a ha, ofInt_u64 b hb, IntKind.wrap_u64]
  omega
theorem u64_and_nat (a b : Nat) (ha : a < 18446744073709551616) (hb : b < 18446744073709551616) : bits .and .u64 (a : Int) (b : Int) = ((a &&& b : Nat) : Int) := by
  have hx : a &&& b < 2 ^ 64 := Nat.and_lt_two_pow _ (by omega)
  show IntKind.u64.wrap ((BitVec.ofInt 64 (a : Int) &&& BitVec.ofInt 64 (b : Int)).toNat : Int) = _
  rw [BitVec.toNat_and, ofInt_u64 a ha, ofInt_u64 b hb, IntKind.wrap_u64]
  omega
theorem or16_int (y d z : Nat) (hy : y ≤ 281474976710655) (hd : d < 65536) (hz : z = 65536 * y + d) : bits .or .u64 ((y : Int) * 65536) (d : Int) = (z : Int) := by
  have := u64_or_nat (y * 65536) d (by omega) (by omega)
  rw [or16 y d hd] at this
  rw [Int.natCast_mul] at this
  rw [hz, Nat.mul_comm 65536]
  exact this
set_option maxRecDepth 100000 in
set_option maxHeartbeats 1000000 in
theorem value_D (va : Value) (a : Nat) (w : World) (hb : a < 2 ^ 64) (ha : D w va a) : Calls Tryz.prog 101 #[va] w fun e w' => e = .returned (.int .u64 (a : Nat)) ∧ w = w' := by
  obtain ⟨A, c, rfl, _, _, _, hr⟩ := ha
  have hb1 : nd a ≤ 4 := nd_bound hb
  have HL := Lib.hid (lt_nd a)
  have HR := Lib.hid hr
  have HB := Lib.hid hb
  clear hr hb
  generalize nd a = n at *
  go_enter Tryz.func101, Tryz.ntmps101
  go_wp2
  go_loop [3, 4] (fun x i => ∃ k : Nat, k ≤ n ∧ AtI k i ∧ x = .int .u64 (a / 65536 ^ k : Nat)) (fun _ i => (intOf i + 1).toNat)
  case atStart => exact ⟨n, Nat.le_refl _, AtI.start n, by rw [Nat.div_eq_of_lt HL.out]; rfl⟩
  case round =>
    obtain ⟨k, hk, hi, rfl⟩ := hrel
    rcases hi with ⟨rfl, rfl⟩ | ⟨j, rfl, rfl⟩
    · rw [Nat.pow_zero, Nat.div_one]
      go_wp2
      go_ret
      exact ⟨rfl, rfl⟩
    · obtain ⟨ad, rfl, _, hcell⟩ := DS.at_ HR.out (show j < n by omega)
      have HS := Lib.hid (div_succ a j)
      have hlt : a / 65536 ^ j < 2 ^ 64 := Nat.lt_of_le_of_lt (Nat.div_le_self _ _) HB.out
      have HLT := Lib.hid hlt
      have hx := dg_lt a j
      generalize dg a j = d at *
      have hy : a / 65536 ^ (j + 1) ≤ 281474976710655 := by have := HS.out; omega
      generalize a / 65536 ^ (j + 1) = y at *
      clear hlt
      go_wp2
      go_round
      case rel =>
        refine ⟨j, by omega, AtI.start j, ?_⟩
        rw [or16_int y d _ hy hx HS.out]
      case measure => simp [intOf]

/-! ten. -/
theorem nd_ten (k : Nat) : nd (10 ^ k) ≤ k + 1 := by
  rw [nd_le]
  calc 10 ^ k ≤ 65536 ^ k := Nat.pow_le_pow_left (by decide) k
    _ < 65536 ^ (k + 1) := Nat.pow_lt_pow_right (by decide) (by omega)

theorem one_D (w : World) : D (w.alloc (.cells #[.int .u16 1] 102)) (.slice (some ⟨w.heap.size, 0, none⟩) 1 1) 1 := by
  have h : Own w.heap.size (w.alloc (.cells #[.int .u16 1] 102)) (.slice (some ⟨w.heap.size, 0, none⟩) 1 1) 1 1 :=
    World.ownsRow_lit w #[.int .u16 1] 1 (Nat.le_refl _) (by unfold maxLen; omega) rfl
  have e : nd 1 = 1 := by decide
  unfold D
  rw [e]
  exact Own.DS h (by decide)

set_option maxRecDepth 100000 in
set_option maxHeartbeats 1000000 in
theorem ten_D (n : Nat) (w : World) (hn : n ≤ 50000) : Calls Tryz.prog 123 #[.int .i64 n] w (GivesD w (10 ^ n)) := by
  go_enter Tryz.func123, Tryz.ntmps123
  go_wp2
  go_loopw [3, 4] (fun v i wr => ∃ k : Nat, k ≤ n ∧ i = .int .i64 k ∧ D wr v (10 ^ k) ∧ Fr w.heap.size v ∧ Below w.heap.size w wr) (fun _ i _ => n - (intOf i).toNat)
  case atStart => exact ⟨0, Nat.zero_le _, rfl, one_D w, own_ge, (Below.refl _ _).alloc (Nat.le_refl _) _⟩
  case round =>
    obtain ⟨k, hk, rfl, hv, hf, hbel⟩ := hrel
    have hsz := hbel.size
    have HV := Lib.hid hv
    have HF := Lib.hid hf
    have HB := Lib.hid hbel
    have hnt := nd_ten k
    clear hv hf hbel
    by_cases hlt : k < n
    · go_wp2_with fail
      refine (times_D _ (10 ^ k) 10 _ (by omega) (by decide) HV.out).mono ?_
      rintro e w2 ⟨v2, rfl, hv2, hf2, hbel2⟩
      rw [← Nat.pow_succ] at hv2
      have HV2 := Lib.hid hv2
      have HF2 := Lib.hid hf2
      have HB2 := Lib.hid hbel2
      clear hv2 hf2 hbel2 hnt
      go_wp2_with fail
      go_roundw
      case rel => exact ⟨k + 1, by omega, by go_num, HV2.out, fun g hg => Nat.le_trans hsz (HF2.out g hg), HB.out.trans (HB2.out.mono hsz)⟩
      case measure => simp [intOf]; omega
    · have e : k = n := by omega
      subst e
      go_wp2_with fail
      go_ret
      exact ⟨_, rfl, HV.out, HF.out, HB.out⟩
end Go.Proofs.YtceoapkkmgllaaaGreatDoor
