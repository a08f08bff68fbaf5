/- Walks of the library's shortest decimal: shortFloat, whole. -/
import Derived.Test.YtijncfidjjfmiaaGreatDoorFloLibA
namespace Go.Proofs.YtijncfidjjfmiaaGreatDoor
open Go.RowKit FloM

/-- The table of powers of ten lies in the world. -/
def PowTab (w : World) : Prop := 8 < w.heap.size ∧ ∀ i, i < 696 → w.cell? ⟨8, i * 2, none⟩ = some (.int .u64 ((pw i).1 : Int)) ∧ w.cell? ⟨8, i * 2 + 1, none⟩ = some (.int .u64 ((pw i).2 : Int))
theorem PowTab.below {w w' : World} {B : Nat} (h : PowTab w) (hb : Below B w w') (hB : w.heap.size ≤ B) : PowTab w' := by
  refine ⟨Nat.lt_of_lt_of_le h.1 hb.size, fun i hi => ?_⟩
  have h1 := h.1
  rw [hb.cell (p := ⟨8, i * 2, none⟩) (by show 8 < B; omega), hb.cell (p := ⟨8, i * 2 + 1, none⟩) (by show 8 < B; omega)]
  exact h.2 i hi

theorem pw_all : (Go.Pinned.pow10Rows.all fun x => decide (x.1 < 18446744073709551616) && decide (x.2 < 18446744073709551616)) = true := by decide +kernel
theorem pw_lt (i : Nat) : (pw i).1 < 18446744073709551616 ∧ (pw i).2 < 18446744073709551616 := by
  unfold pw
  rcases h : Go.Pinned.pow10Rows[i]? with _ | x
  · rw [List.getD_eq_getElem?_getD, h]; decide
  · rw [List.getD_eq_getElem?_getD, h]
    have hm := List.mem_of_getElem? h
    have := List.all_eq_true.1 pw_all x hm
    simpa using this

/-- uscale at a number that the caller spells as an int. -/
theorem usc_int (x : Int) (xn hi lo : Nat) (s : Nat) (b : Nat) (w : World) (hb : Blk w b 173 #[.int .u64 (hi : Int), .int .u64 (lo : Int), .int .i64 (s : Int)]) (hs : s < 64) (hx : x = (xn : Int)) (hxn : xn < 18446744073709551616) (hhi : hi < 18446744073709551616) (hlo : lo < 18446744073709551616) :
    Calls Tryz.prog 142 #[.int .u64 x, .pointer (some ⟨b, 0, none⟩)] w fun e w' => e = .returned (.int .u64 (usc xn hi lo s : Nat)) ∧ ∃ n, w' = w.drewN n := by
  subst hx
  exact usc_any xn hi lo s b w (hb.cell 0) (hb.cell 1) (hb.cell 2) hs hxn hhi hlo

theorem usc_lt (x hi lo s : Nat) (hx : x < 18446744073709551616) (hhi : hi < 18446744073709551616) : usc x hi lo s < M64 := by
  have hH : x * hi / M64 < M64 := by
    rw [M64_eq]
    exact mulH_lt x hi hx hhi
  have hd : ∀ a : Nat, a < M64 → a / 2 ^ s < 2 ^ 64 := fun a ha => Nat.lt_of_le_of_lt (Nat.div_le_self _ _) ha
  show usc x hi lo s < 2 ^ 64
  unfold usc
  simp only
  split
  · exact Nat.or_lt_two_pow (hd _ hH) (by decide)
  · apply Nat.or_lt_two_pow
    · apply hd
      split
      · exact Nat.mod_lt _ (by decide)
      · exact hH
    · split <;> decide

theorem nudgeM_lt (u d : Nat) : nudgeM u d < M64 := Nat.mod_lt _ (by decide)

theorem ret_two {a b c d : Int} (h1 : a = c) (h2 : b = d) : Ending.returned (.tuple #[.int .u64 a, .int .i64 b]) = .returned (.tuple #[.int .u64 c, .int .i64 d]) := by rw [h1, h2]

theorem and1_i64 (k : Nat) (hk : k < 9223372036854775808) : bits .and .i64 (k : Int) 1 = ((k % 2 : Nat) : Int) := by
  have h := i64_and_nat k 1 hk (by decide)
  rw [Nat.and_one_is_mod] at h
  exact h

theorem short_frame (w w1 : World) (o : Obj) (hg : (w.alloc o).grownBy w1 (some w.heap.size)) (n : Nat) : Below w.heap.size w (w1.drewN n) :=
  below_drewN (((Below.refl _ w).alloc (Nat.le_refl _) o).grown hg (by simp) (fun k h => by injection h with h; omega)) n

theorem small_eqs (m z : Nat) (e : Int) (hz : 12 ≤ z ∧ z ≤ 63) (hmz : 2 ^ (z - 1) ≤ m ∧ m + 2 ^ (z - 1) < 18446744073709551616) (hm : m ≤ 18446744073709551615) (he : e = -1074 - (z : Int)) :
    IntKind.u64.wrap (↑m - IntKind.u64.wrap (2 ^ ((11 + (-1085 - e)).toNat - 1))) = ((m - 2 ^ (z - 1) : Nat) : Int) ∧
    IntKind.u64.wrap (↑m + IntKind.u64.wrap (2 ^ ((11 + (-1085 - e)).toNat - 1))) = ((m + 2 ^ (z - 1) : Nat) : Int) ∧
    bits BinOp.and IntKind.i64 (wrap64 (↑m / 2 ^ (11 + (-1085 - e)).toNat)) 1 = ((m / 2 ^ z % 2 : Nat) : Int) := by
  have h1 : (11 + (-1085 - e)).toNat = z := by omega
  rw [h1]
  have h2 : ((2 : Int) ^ (z - 1)) = ((2 ^ (z - 1) : Nat) : Int) := by rw [Int.natCast_pow]; rfl
  have h3 : (2 : Nat) ^ z ≥ 2 ^ 12 := Nat.pow_le_pow_right (by omega) hz.1
  have h4 : (m : Int) / 2 ^ z = ((m / 2 ^ z : Nat) : Int) := by rw [Int.natCast_ediv, Int.natCast_pow]; rfl
  have h5 : m / 2 ^ z < 2 ^ 52 := by
    apply Nat.div_lt_of_lt_mul
    calc m < 2 ^ 12 * 2 ^ 52 := by omega
      _ ≤ 2 ^ z * 2 ^ 52 := Nat.mul_le_mul_right _ h3
  refine ⟨?_, ?_, ?_⟩
  · rw [h2, IntKind.wrap_u64, IntKind.wrap_u64]
    generalize 2 ^ (z - 1) = k at *
    omega
  · rw [h2, IntKind.wrap_u64, IntKind.wrap_u64]
    generalize 2 ^ (z - 1) = k at *
    omega
  · rw [h4, ← and1_i64 _ (by omega)]
    generalize m / 2 ^ z = k at *
    rw [show wrap64 (k : Int) = (k : Int) by unfold wrap64; omega]

set_option maxRecDepth 100000 in
set_option maxHeartbeats 1600000 in
theorem short_norm (m : Nat) (e : Int) (w : World) (hm : m ≤ 18446744073709549568) (hm2 : 9223372036854775808 ≤ m) (he : -1085 ≤ e ∧ e ≤ 960) (hsk : ((m : Int) == 9223372036854775808) = false) (ht : PowTab w) :
    Calls Tryz.prog 118 #[.int .u64 m, .int .i64 e] w fun e' w' => ∃ q, q = pick (m - 1024) (m + 1024) m (pw (348 - l10p2 (e + 11)).toNat).1 (pw (348 - l10p2 (e + 11)).toNat).2 (-(e + l2p10 (- l10p2 (e + 11)) + 3)).toNat (m / 2048 % 2) (- l10p2 (e + 11)) ∧ e' = .returned (.tuple #[.int .u64 (q.1 : Nat), .int .i64 q.2]) ∧ Below w.heap.size w w' := by
  have hq : -324 ≤ l10p2 (e + 11) ∧ l10p2 (e + 11) ≤ 293 := by unfold l10p2; omega
  have hs : 0 ≤ -(e + l2p10 (- l10p2 (e + 11)) + 3) ∧ -(e + l2p10 (- l10p2 (e + 11)) + 3) < 64 := by unfold l2p10 l10p2; omega
  have hl : -2000 ≤ l2p10 (- l10p2 (e + 11)) ∧ l2p10 (- l10p2 (e + 11)) ≤ 2000 := by unfold l2p10 l10p2; omega
  have c10 := Lib.hid (fun w => l10_any (e + 11) w (by omega))
  generalize l10p2 (e + 11) = q at *
  have c2 := Lib.hid (fun w => l2_any (-q) w (by omega))
  generalize l2p10 (-q) = lp at *
  obtain ⟨s, hs'⟩ : ∃ s : Nat, (s : Int) = -(e + lp + 3) := ⟨(-(e + lp + 3)).toNat, by omega⟩
  obtain ⟨i, hi⟩ : ∃ i : Nat, (i : Int) = 348 - q := ⟨(348 - q).toNat, by omega⟩
  rw [← hs', ← hi, Int.toNat_natCast, Int.toNat_natCast]
  have hs64 : s < 64 := by omega
  have hi6 : i < 696 := by omega
  obtain ⟨hh1, hh2⟩ := pw_lt i
  have htab : PowTab (w.alloc (.cells #[.int .u64 0, .int .u64 0, .int .i64 0] 173)) := ht.below ((Below.refl _ _).alloc (Nat.le_refl _) _) (Nat.le_refl _)
  have hpre := Lib.hid (fun (w : World) b v0 v1 v2 hb (htab : PowTab w) => pre_any e (-q) lp b w v0 v1 v2 hb i (by omega) hi6 (pw i).1 (pw i).2 s (htab.2 i hi6).1 (htab.2 i hi6).2 (by omega) (by omega) hs')
  generalize (pw i).1 = hi1 at *
  generalize (pw i).2 = lo1 at *
  have hT := Lib.hid htab
  clear ht htab hs' hi hs
  have hodd := and1_i64 (m / 2048) (by omega)
  have hoddle : m / 2048 % 2 ≤ 1 := by omega
  have ho2 : bits BinOp.and IntKind.i64 (↑m / 2048) 1 = ((m / 2048 % 2 : Nat) : Int) := by rw [← hodd]; rfl
  clear hodd
  generalize m / 2048 % 2 = odd at *
  have hmn : m - 1024 < 18446744073709551616 := by omega
  have hmx : m + 1024 < 18446744073709551616 := by omega
  have hm64 : m < 18446744073709551616 := by omega
  go_enter Tryz.func118, Tryz.ntmps118
  go_wp2_with fail
  refine (c10.out _).mono ?_
  rintro e w1 ⟨rfl, rfl⟩
  go_wp2_with fail
  refine (c2.out _).mono ?_
  rintro e w1 ⟨rfl, rfl⟩
  go_wp2_with fail
  refine (hpre.out _ _ _ _ _ (Blk.new _ _ _) hT.out).mono ?_
  rintro e w1 ⟨rfl, hb, hg⟩
  have HB := Lib.hid hb
  have HF := Lib.hid (fun n => short_frame w w1 _ hg n)
  clear hb hg
  -- the least
  go_wp2_with fail
  refine (usc_int _ (m - 1024) hi1 lo1 s _ _ HB.out hs64 (by omega) hmn hh1 hh2).mono ?_
  rintro e w2 ⟨rfl, n2, rfl⟩
  go_wp2_with fail
  refine (nudge_up _ odd _).mono ?_
  rintro e w3 ⟨rfl, rfl⟩
  go_wp2_with fail
  refine (ceil_u _ _).mono ?_
  rintro e w3 ⟨rfl, rfl⟩
  obtain ⟨A, HA⟩ : ∃ A, Hid (A = uceil (nudgeP (usc (m - 1024) hi1 lo1 s) odd)) := ⟨_, rfl⟩
  rw [← HA.out]
  -- the greatest
  go_wp2_with fail
  refine (usc_int _ (m + 1024) hi1 lo1 s _ _ (HB.out.drewN n2) hs64 (by omega) hmx hh1 hh2).mono ?_
  rintro e w3 ⟨rfl, n3, rfl⟩
  go_wp2_with fail
  refine (nudge_dn _ odd hoddle _).mono ?_
  rintro e w3 ⟨rfl, rfl⟩
  go_wp2_with fail
  refine (floor_u _ (nudgeM_lt _ _) _).mono ?_
  rintro e w3 ⟨rfl, rfl⟩
  obtain ⟨Bx, HBx⟩ : ∃ Bx, Hid (Bx = ufloor (nudgeM (usc (m + 1024) hi1 lo1 s) odd)) := ⟨_, rfl⟩
  have hBx : Bx < 4611686018427387904 := by
    rw [HBx.out]; unfold ufloor
    have := nudgeM_lt (usc (m + 1024) hi1 lo1 s) odd
    rw [M64_eq] at this; omega
  rw [← HBx.out]
  have HP : Hid (pick (m - 1024) (m + 1024) m hi1 lo1 s odd (-q) = if A ≤ Bx / 10 * 10 then (Bx / 10, 1 - (-q)) else (if A < Bx then uround (usc m hi1 lo1 s) else A, - (-q))) := by
    rw [HA.out, HBx.out]; rfl
  by_cases hAB : A ≤ Bx / 10 * 10
  · go_wp2_with fail
    refine bodyPost_ret (v := .tuple #[.int .u64 ((Bx / 10 : Nat) : Int), .int .i64 (1 - (-q))]) (by simp [results, Tryz.results118, go_sem] <;> omega) rfl ⟨_, rfl, ?_, HF.out _⟩
    rw [HP.out, if_pos hAB]
  · by_cases hlt : A < Bx
    · go_wp2_with fail
      refine (usc_int _ m hi1 lo1 s _ _ (HB.out.drewN (n2 + n3)) hs64 rfl hm64 hh1 hh2).mono ?_
      rintro e w4 ⟨rfl, n4, rfl⟩
      go_wp2_with fail
      refine (round_u _ (usc_lt _ _ _ _ hm64 hh1) _).mono ?_
      rintro e w5 ⟨rfl, rfl⟩
      obtain ⟨C, HC⟩ : ∃ C, Hid (C = uround (usc m hi1 lo1 s)) := ⟨_, rfl⟩
      rw [← HC.out]
      go_wp2_with fail
      refine bodyPost_ret (v := .tuple #[.int .u64 (C : Int), .int .i64 (- (-q))]) (by simp [results, Tryz.results118, go_sem]) rfl ⟨_, rfl, ?_, HF.out _⟩
      rw [HP.out, if_neg hAB, if_pos hlt, HC.out]
    · go_wp2_with fail
      refine bodyPost_ret (v := .tuple #[.int .u64 (A : Int), .int .i64 (- (-q))]) (by simp [results, Tryz.results118, go_sem]) rfl ⟨_, rfl, ?_, HF.out _⟩
      rw [HP.out, if_neg hAB, if_neg hlt]

set_option maxRecDepth 100000 in
set_option maxHeartbeats 1600000 in
theorem short_min (m : Nat) (e : Int) (w : World) (hm : m ≤ 18446744073709549568) (hm2 : 9223372036854775808 ≤ m) (he : -1085 ≤ e ∧ e ≤ 960) (he2 : decide (-1085 < e) = false) (hsk : ((m : Int) == 9223372036854775808) = true) (ht : PowTab w) :
    Calls Tryz.prog 118 #[.int .u64 m, .int .i64 e] w fun e' w' => ∃ q, q = pick (m - 1024) (m + 1024) m (pw (348 - l10p2 (e + 11)).toNat).1 (pw (348 - l10p2 (e + 11)).toNat).2 (-(e + l2p10 (- l10p2 (e + 11)) + 3)).toNat (m / 2048 % 2) (- l10p2 (e + 11)) ∧ e' = .returned (.tuple #[.int .u64 (q.1 : Nat), .int .i64 q.2]) ∧ Below w.heap.size w w' := by
  have hq : -324 ≤ l10p2 (e + 11) ∧ l10p2 (e + 11) ≤ 293 := by unfold l10p2; omega
  have hs : 0 ≤ -(e + l2p10 (- l10p2 (e + 11)) + 3) ∧ -(e + l2p10 (- l10p2 (e + 11)) + 3) < 64 := by unfold l2p10 l10p2; omega
  have hl : -2000 ≤ l2p10 (- l10p2 (e + 11)) ∧ l2p10 (- l10p2 (e + 11)) ≤ 2000 := by unfold l2p10 l10p2; omega
  have c10 := Lib.hid (fun w => l10_any (e + 11) w (by omega))
  generalize l10p2 (e + 11) = q at *
  have c2 := Lib.hid (fun w => l2_any (-q) w (by omega))
  generalize l2p10 (-q) = lp at *
  obtain ⟨s, hs'⟩ : ∃ s : Nat, (s : Int) = -(e + lp + 3) := ⟨(-(e + lp + 3)).toNat, by omega⟩
  obtain ⟨i, hi⟩ : ∃ i : Nat, (i : Int) = 348 - q := ⟨(348 - q).toNat, by omega⟩
  rw [← hs', ← hi, Int.toNat_natCast, Int.toNat_natCast]
  have hs64 : s < 64 := by omega
  have hi6 : i < 696 := by omega
  obtain ⟨hh1, hh2⟩ := pw_lt i
  have htab : PowTab (w.alloc (.cells #[.int .u64 0, .int .u64 0, .int .i64 0] 173)) := ht.below ((Below.refl _ _).alloc (Nat.le_refl _) _) (Nat.le_refl _)
  have hpre := Lib.hid (fun (w : World) b v0 v1 v2 hb (htab : PowTab w) => pre_any e (-q) lp b w v0 v1 v2 hb i (by omega) hi6 (pw i).1 (pw i).2 s (htab.2 i hi6).1 (htab.2 i hi6).2 (by omega) (by omega) hs')
  generalize (pw i).1 = hi1 at *
  generalize (pw i).2 = lo1 at *
  have hT := Lib.hid htab
  clear ht htab hs' hi hs
  have hodd := and1_i64 (m / 2048) (by omega)
  have hoddle : m / 2048 % 2 ≤ 1 := by omega
  have ho2 : bits BinOp.and IntKind.i64 (↑m / 2048) 1 = ((m / 2048 % 2 : Nat) : Int) := by rw [← hodd]; rfl
  clear hodd
  generalize m / 2048 % 2 = odd at *
  have hmn : m - 1024 < 18446744073709551616 := by omega
  have hmx : m + 1024 < 18446744073709551616 := by omega
  have hm64 : m < 18446744073709551616 := by omega
  go_enter Tryz.func118, Tryz.ntmps118
  go_wp2_with fail
  refine (c10.out _).mono ?_
  rintro e w1 ⟨rfl, rfl⟩
  go_wp2_with fail
  refine (c2.out _).mono ?_
  rintro e w1 ⟨rfl, rfl⟩
  go_wp2_with fail
  refine (hpre.out _ _ _ _ _ (Blk.new _ _ _) hT.out).mono ?_
  rintro e w1 ⟨rfl, hb, hg⟩
  have HB := Lib.hid hb
  have HF := Lib.hid (fun n => short_frame w w1 _ hg n)
  clear hb hg
  -- the least
  go_wp2_with fail
  refine (usc_int _ (m - 1024) hi1 lo1 s _ _ HB.out hs64 (by omega) hmn hh1 hh2).mono ?_
  rintro e w2 ⟨rfl, n2, rfl⟩
  go_wp2_with fail
  refine (nudge_up _ odd _).mono ?_
  rintro e w3 ⟨rfl, rfl⟩
  go_wp2_with fail
  refine (ceil_u _ _).mono ?_
  rintro e w3 ⟨rfl, rfl⟩
  obtain ⟨A, HA⟩ : ∃ A, Hid (A = uceil (nudgeP (usc (m - 1024) hi1 lo1 s) odd)) := ⟨_, rfl⟩
  rw [← HA.out]
  -- the greatest
  go_wp2_with fail
  refine (usc_int _ (m + 1024) hi1 lo1 s _ _ (HB.out.drewN n2) hs64 (by omega) hmx hh1 hh2).mono ?_
  rintro e w3 ⟨rfl, n3, rfl⟩
  go_wp2_with fail
  refine (nudge_dn _ odd hoddle _).mono ?_
  rintro e w3 ⟨rfl, rfl⟩
  go_wp2_with fail
  refine (floor_u _ (nudgeM_lt _ _) _).mono ?_
  rintro e w3 ⟨rfl, rfl⟩
  obtain ⟨Bx, HBx⟩ : ∃ Bx, Hid (Bx = ufloor (nudgeM (usc (m + 1024) hi1 lo1 s) odd)) := ⟨_, rfl⟩
  have hBx : Bx < 4611686018427387904 := by
    rw [HBx.out]; unfold ufloor
    have := nudgeM_lt (usc (m + 1024) hi1 lo1 s) odd
    rw [M64_eq] at this; omega
  rw [← HBx.out]
  have HP : Hid (pick (m - 1024) (m + 1024) m hi1 lo1 s odd (-q) = if A ≤ Bx / 10 * 10 then (Bx / 10, 1 - (-q)) else (if A < Bx then uround (usc m hi1 lo1 s) else A, - (-q))) := by
    rw [HA.out, HBx.out]; rfl
  by_cases hAB : A ≤ Bx / 10 * 10
  · go_wp2_with fail
    refine bodyPost_ret (v := .tuple #[.int .u64 ((Bx / 10 : Nat) : Int), .int .i64 (1 - (-q))]) (by simp [results, Tryz.results118, go_sem] <;> omega) rfl ⟨_, rfl, ?_, HF.out _⟩
    rw [HP.out, if_pos hAB]
  · by_cases hlt : A < Bx
    · go_wp2_with fail
      refine (usc_int _ m hi1 lo1 s _ _ (HB.out.drewN (n2 + n3)) hs64 rfl hm64 hh1 hh2).mono ?_
      rintro e w4 ⟨rfl, n4, rfl⟩
      go_wp2_with fail
      refine (round_u _ (usc_lt _ _ _ _ hm64 hh1) _).mono ?_
      rintro e w5 ⟨rfl, rfl⟩
      obtain ⟨C, HC⟩ : ∃ C, Hid (C = uround (usc m hi1 lo1 s)) := ⟨_, rfl⟩
      rw [← HC.out]
      go_wp2_with fail
      refine bodyPost_ret (v := .tuple #[.int .u64 (C : Int), .int .i64 (- (-q))]) (by simp [results, Tryz.results118, go_sem]) rfl ⟨_, rfl, ?_, HF.out _⟩
      rw [HP.out, if_neg hAB, if_pos hlt, HC.out]
    · go_wp2_with fail
      refine bodyPost_ret (v := .tuple #[.int .u64 (A : Int), .int .i64 (- (-q))]) (by simp [results, Tryz.results118, go_sem]) rfl ⟨_, rfl, ?_, HF.out _⟩
      rw [HP.out, if_neg hAB, if_neg hlt]

set_option maxRecDepth 100000 in
set_option maxHeartbeats 1600000 in
theorem short_skew (m : Nat) (e : Int) (w : World) (hm : m ≤ 18446744073709549568) (hm2 : 9223372036854775808 ≤ m) (he : -1085 < e ∧ e ≤ 960) (hsk : ((m : Int) == 9223372036854775808) = true) (ht : PowTab w) :
    Calls Tryz.prog 118 #[.int .u64 m, .int .i64 e] w fun e' w' => ∃ q, q = pick (m - 512) (m + 1024) m (pw (348 - skw (e + 11)).toNat).1 (pw (348 - skw (e + 11)).toNat).2 (-(e + l2p10 (- skw (e + 11)) + 3)).toNat (m / 2048 % 2) (- skw (e + 11)) ∧ e' = .returned (.tuple #[.int .u64 (q.1 : Nat), .int .i64 q.2]) ∧ Below w.heap.size w w' := by
  have hq : -324 ≤ skw (e + 11) ∧ skw (e + 11) ≤ 293 := by unfold skw; omega
  have hs : 0 ≤ -(e + l2p10 (- skw (e + 11)) + 3) ∧ -(e + l2p10 (- skw (e + 11)) + 3) < 64 := by unfold l2p10 skw; omega
  have hl : -2000 ≤ l2p10 (- skw (e + 11)) ∧ l2p10 (- skw (e + 11)) ≤ 2000 := by unfold l2p10 skw; omega
  have c10 := Lib.hid (fun w => skw_any (e + 11) w (by omega))
  generalize skw (e + 11) = q at *
  have c2 := Lib.hid (fun w => l2_any (-q) w (by omega))
  generalize l2p10 (-q) = lp at *
  obtain ⟨s, hs'⟩ : ∃ s : Nat, (s : Int) = -(e + lp + 3) := ⟨(-(e + lp + 3)).toNat, by omega⟩
  obtain ⟨i, hi⟩ : ∃ i : Nat, (i : Int) = 348 - q := ⟨(348 - q).toNat, by omega⟩
  rw [← hs', ← hi, Int.toNat_natCast, Int.toNat_natCast]
  have hs64 : s < 64 := by omega
  have hi6 : i < 696 := by omega
  obtain ⟨hh1, hh2⟩ := pw_lt i
  have htab : PowTab (w.alloc (.cells #[.int .u64 0, .int .u64 0, .int .i64 0] 173)) := ht.below ((Below.refl _ _).alloc (Nat.le_refl _) _) (Nat.le_refl _)
  have hpre := Lib.hid (fun (w : World) b v0 v1 v2 hb (htab : PowTab w) => pre_any e (-q) lp b w v0 v1 v2 hb i (by omega) hi6 (pw i).1 (pw i).2 s (htab.2 i hi6).1 (htab.2 i hi6).2 (by omega) (by omega) hs')
  generalize (pw i).1 = hi1 at *
  generalize (pw i).2 = lo1 at *
  have hT := Lib.hid htab
  clear ht htab hs' hi hs
  have hodd := and1_i64 (m / 2048) (by omega)
  have hoddle : m / 2048 % 2 ≤ 1 := by omega
  have ho2 : bits BinOp.and IntKind.i64 (↑m / 2048) 1 = ((m / 2048 % 2 : Nat) : Int) := by rw [← hodd]; rfl
  clear hodd
  generalize m / 2048 % 2 = odd at *
  have hmn : m - 512 < 18446744073709551616 := by omega
  have hmx : m + 1024 < 18446744073709551616 := by omega
  have hm64 : m < 18446744073709551616 := by omega
  go_enter Tryz.func118, Tryz.ntmps118
  go_wp2_with fail
  refine (c10.out _).mono ?_
  rintro e w1 ⟨rfl, rfl⟩
  go_wp2_with fail
  refine (c2.out _).mono ?_
  rintro e w1 ⟨rfl, rfl⟩
  go_wp2_with fail
  refine (hpre.out _ _ _ _ _ (Blk.new _ _ _) hT.out).mono ?_
  rintro e w1 ⟨rfl, hb, hg⟩
  have HB := Lib.hid hb
  have HF := Lib.hid (fun n => short_frame w w1 _ hg n)
  clear hb hg
  -- the least
  go_wp2_with fail
  refine (usc_int _ (m - 512) hi1 lo1 s _ _ HB.out hs64 (by omega) hmn hh1 hh2).mono ?_
  rintro e w2 ⟨rfl, n2, rfl⟩
  go_wp2_with fail
  refine (nudge_up _ odd _).mono ?_
  rintro e w3 ⟨rfl, rfl⟩
  go_wp2_with fail
  refine (ceil_u _ _).mono ?_
  rintro e w3 ⟨rfl, rfl⟩
  obtain ⟨A, HA⟩ : ∃ A, Hid (A = uceil (nudgeP (usc (m - 512) hi1 lo1 s) odd)) := ⟨_, rfl⟩
  rw [← HA.out]
  -- the greatest
  go_wp2_with fail
  refine (usc_int _ (m + 1024) hi1 lo1 s _ _ (HB.out.drewN n2) hs64 (by omega) hmx hh1 hh2).mono ?_
  rintro e w3 ⟨rfl, n3, rfl⟩
  go_wp2_with fail
  refine (nudge_dn _ odd hoddle _).mono ?_
  rintro e w3 ⟨rfl, rfl⟩
  go_wp2_with fail
  refine (floor_u _ (nudgeM_lt _ _) _).mono ?_
  rintro e w3 ⟨rfl, rfl⟩
  obtain ⟨Bx, HBx⟩ : ∃ Bx, Hid (Bx = ufloor (nudgeM (usc (m + 1024) hi1 lo1 s) odd)) := ⟨_, rfl⟩
  have hBx : Bx < 4611686018427387904 := by
    rw [HBx.out]; unfold ufloor
    have := nudgeM_lt (usc (m + 1024) hi1 lo1 s) odd
    rw [M64_eq] at this; omega
  rw [← HBx.out]
  have HP : Hid (pick (m - 512) (m + 1024) m hi1 lo1 s odd (-q) = if A ≤ Bx / 10 * 10 then (Bx / 10, 1 - (-q)) else (if A < Bx then uround (usc m hi1 lo1 s) else A, - (-q))) := by
    rw [HA.out, HBx.out]; rfl
  by_cases hAB : A ≤ Bx / 10 * 10
  · go_wp2_with fail
    refine bodyPost_ret (v := .tuple #[.int .u64 ((Bx / 10 : Nat) : Int), .int .i64 (1 - (-q))]) (by simp [results, Tryz.results118, go_sem] <;> omega) rfl ⟨_, rfl, ?_, HF.out _⟩
    rw [HP.out, if_pos hAB]
  · by_cases hlt : A < Bx
    · go_wp2_with fail
      refine (usc_int _ m hi1 lo1 s _ _ (HB.out.drewN (n2 + n3)) hs64 rfl hm64 hh1 hh2).mono ?_
      rintro e w4 ⟨rfl, n4, rfl⟩
      go_wp2_with fail
      refine (round_u _ (usc_lt _ _ _ _ hm64 hh1) _).mono ?_
      rintro e w5 ⟨rfl, rfl⟩
      obtain ⟨C, HC⟩ : ∃ C, Hid (C = uround (usc m hi1 lo1 s)) := ⟨_, rfl⟩
      rw [← HC.out]
      go_wp2_with fail
      refine bodyPost_ret (v := .tuple #[.int .u64 (C : Int), .int .i64 (- (-q))]) (by simp [results, Tryz.results118, go_sem]) rfl ⟨_, rfl, ?_, HF.out _⟩
      rw [HP.out, if_neg hAB, if_pos hlt, HC.out]
    · go_wp2_with fail
      refine bodyPost_ret (v := .tuple #[.int .u64 (A : Int), .int .i64 (- (-q))]) (by simp [results, Tryz.results118, go_sem]) rfl ⟨_, rfl, ?_, HF.out _⟩
      rw [HP.out, if_neg hAB, if_neg hlt]

set_option maxRecDepth 100000 in
set_option maxHeartbeats 1600000 in
theorem short_small0 (m : Nat) (e : Int) (w : World) (z : Nat) (hz : 12 ≤ z ∧ z ≤ 63) (he : e = -1074 - (z : Int)) (hmz : 2 ^ (z - 1) ≤ m ∧ m + 2 ^ (z - 1) < 18446744073709551616) (hm : m ≤ 18446744073709551615) (hm2 : 9223372036854775808 ≤ m) (hsk : ((m : Int) == 9223372036854775808) = false) (_hd : decide (-1085 < e) = false) (hd2 : decide (-1085 ≤ e) = false) (ht : PowTab w) :
    Calls Tryz.prog 118 #[.int .u64 m, .int .i64 e] w fun e' w' => ∃ q, q = pick (m - 2 ^ (z - 1)) (m + 2 ^ (z - 1)) m (pw 672).1 (pw 672).2 (-(e + 1079)).toNat (m / 2 ^ z % 2) 324 ∧ e' = .returned (.tuple #[.int .u64 (q.1 : Nat), .int .i64 q.2]) ∧ Below w.heap.size w w' := by
  have hq : l10p2 (-1074) = -324 := by decide
  have hlp : l2p10 324 = 1076 := by decide
  have c10 : Hid (∀ w, Calls Tryz.prog 113 #[.int .i64 (e + (11 + (-1085 - e)))] w fun e w' => e = .returned (.int .i64 (-324)) ∧ w = w') := by
    have h0 : e + (11 + (-1085 - e)) = -1074 := by omega
    rw [h0, ← hq]
    exact fun w => l10_any (-1074) w (by omega)
  have c2 : Hid (∀ w, Calls Tryz.prog 141 #[.int .i64 324] w fun e w' => e = .returned (.int .i64 1076) ∧ w = w') := by
    rw [← hlp]
    exact fun w => l2_any 324 w (by omega)
  clear hq hlp
  have heb : -1137 ≤ e ∧ e ≤ -1086 := by omega
  obtain ⟨s, hs'⟩ : ∃ s : Nat, (s : Int) = -(e + 1076 + 3) := ⟨(-(e + 1076 + 3)).toNat, by omega⟩
  rw [show -(e + 1079) = (s : Int) by omega, Int.toNat_natCast]
  have hs64 : s < 64 := by omega
  obtain ⟨hh1, hh2⟩ := pw_lt 672
  have htab : PowTab (w.alloc (.cells #[.int .u64 0, .int .u64 0, .int .i64 0] 173)) := ht.below ((Below.refl _ _).alloc (Nat.le_refl _) _) (Nat.le_refl _)
  have hpre := Lib.hid (fun (w : World) b v0 v1 v2 hb (htab : PowTab w) => pre_any e 324 1076 b w v0 v1 v2 hb 672 (by omega) (by omega) (pw 672).1 (pw 672).2 s (htab.2 672 (by omega)).1 (htab.2 672 (by omega)).2 (by omega) (by omega) hs')
  generalize (pw 672).1 = hi1 at *
  generalize (pw 672).2 = lo1 at *
  have hT := Lib.hid htab
  clear ht htab hs'
  obtain ⟨emn, emx, eod⟩ := small_eqs m z e hz hmz hm he
  have EMN := Lib.hid emn
  have EMX := Lib.hid emx
  clear he emn emx
  have hoddle : m / 2 ^ z % 2 ≤ 1 := by omega
  have hmn : m - 2 ^ (z - 1) < 18446744073709551616 := Nat.lt_of_le_of_lt (Nat.sub_le _ _) (by omega)
  have hmx : m + 2 ^ (z - 1) < 18446744073709551616 := hmz.2
  have hm64 : m < 18446744073709551616 := by omega
  generalize m / 2 ^ z % 2 = odd at *
  generalize m - 2 ^ (z - 1) = mn at *
  generalize m + 2 ^ (z - 1) = mx at *
  clear hmz hz
  go_enter Tryz.func118, Tryz.ntmps118
  go_wp2_with fail
  refine (c10.out _).mono ?_
  rintro e w1 ⟨rfl, rfl⟩
  go_wp2_with fail
  refine (c2.out _).mono ?_
  rintro e w1 ⟨rfl, rfl⟩
  go_wp2_with fail
  refine (hpre.out _ _ _ _ _ (Blk.new _ _ _) hT.out).mono ?_
  rintro e w1 ⟨rfl, hb, hg⟩
  have HB := Lib.hid hb
  have HF := Lib.hid (fun n => short_frame w w1 _ hg n)
  clear hb hg
  -- the least
  go_wp2_with fail
  refine (usc_int _ mn hi1 lo1 s _ _ HB.out hs64 EMN.out hmn hh1 hh2).mono ?_
  rintro e w2 ⟨rfl, n2, rfl⟩
  go_wp2_with fail
  refine (nudge_up _ odd _).mono ?_
  rintro e w3 ⟨rfl, rfl⟩
  go_wp2_with fail
  refine (ceil_u _ _).mono ?_
  rintro e w3 ⟨rfl, rfl⟩
  obtain ⟨A, HA⟩ : ∃ A, Hid (A = uceil (nudgeP (usc mn hi1 lo1 s) odd)) := ⟨_, rfl⟩
  rw [← HA.out]
  -- the greatest
  go_wp2_with fail
  refine (usc_int _ mx hi1 lo1 s _ _ (HB.out.drewN n2) hs64 EMX.out hmx hh1 hh2).mono ?_
  rintro e w3 ⟨rfl, n3, rfl⟩
  go_wp2_with fail
  refine (nudge_dn _ odd hoddle _).mono ?_
  rintro e w3 ⟨rfl, rfl⟩
  go_wp2_with fail
  refine (floor_u _ (nudgeM_lt _ _) _).mono ?_
  rintro e w3 ⟨rfl, rfl⟩
  obtain ⟨Bx, HBx⟩ : ∃ Bx, Hid (Bx = ufloor (nudgeM (usc mx hi1 lo1 s) odd)) := ⟨_, rfl⟩
  have hBx : Bx < 4611686018427387904 := by
    rw [HBx.out]; unfold ufloor
    have := nudgeM_lt (usc mx hi1 lo1 s) odd
    rw [M64_eq] at this; omega
  rw [← HBx.out]
  have HP : Hid (pick mn mx m hi1 lo1 s odd (324) = if A ≤ Bx / 10 * 10 then (Bx / 10, 1 - (324)) else (if A < Bx then uround (usc m hi1 lo1 s) else A, - (324))) := by
    rw [HA.out, HBx.out]; rfl
  by_cases hAB : A ≤ Bx / 10 * 10
  · go_wp2_with fail
    refine bodyPost_ret (v := .tuple #[.int .u64 ((Bx / 10 : Nat) : Int), .int .i64 (1 - (324))]) (by simp [results, Tryz.results118, go_sem] <;> omega) rfl ⟨_, rfl, ?_, HF.out _⟩
    rw [HP.out, if_pos hAB]
  · by_cases hlt : A < Bx
    · go_wp2_with fail
      refine (usc_int _ m hi1 lo1 s _ _ (HB.out.drewN (n2 + n3)) hs64 rfl hm64 hh1 hh2).mono ?_
      rintro e w4 ⟨rfl, n4, rfl⟩
      go_wp2_with fail
      refine (round_u _ (usc_lt _ _ _ _ hm64 hh1) _).mono ?_
      rintro e w5 ⟨rfl, rfl⟩
      obtain ⟨C, HC⟩ : ∃ C, Hid (C = uround (usc m hi1 lo1 s)) := ⟨_, rfl⟩
      rw [← HC.out]
      go_wp2_with fail
      refine bodyPost_ret (v := .tuple #[.int .u64 (C : Int), .int .i64 (- (324))]) (by simp [results, Tryz.results118, go_sem]) rfl ⟨_, rfl, ?_, HF.out _⟩
      rw [HP.out, if_neg hAB, if_pos hlt, HC.out]
    · go_wp2_with fail
      refine bodyPost_ret (v := .tuple #[.int .u64 (A : Int), .int .i64 (- (324))]) (by simp [results, Tryz.results118, go_sem]) rfl ⟨_, rfl, ?_, HF.out _⟩
      rw [HP.out, if_neg hAB, if_neg hlt]

set_option maxRecDepth 100000 in
set_option maxHeartbeats 1600000 in
theorem short_small1 (m : Nat) (e : Int) (w : World) (z : Nat) (hz : 12 ≤ z ∧ z ≤ 63) (he : e = -1074 - (z : Int)) (hmz : 2 ^ (z - 1) ≤ m ∧ m + 2 ^ (z - 1) < 18446744073709551616) (hm : m ≤ 18446744073709551615) (hm2 : 9223372036854775808 ≤ m) (hsk : ((m : Int) == 9223372036854775808) = true) (hd : decide (-1085 < e) = false) (hd2 : decide (-1085 ≤ e) = false) (ht : PowTab w) :
    Calls Tryz.prog 118 #[.int .u64 m, .int .i64 e] w fun e' w' => ∃ q, q = pick (m - 2 ^ (z - 1)) (m + 2 ^ (z - 1)) m (pw 672).1 (pw 672).2 (-(e + 1079)).toNat (m / 2 ^ z % 2) 324 ∧ e' = .returned (.tuple #[.int .u64 (q.1 : Nat), .int .i64 q.2]) ∧ Below w.heap.size w w' := by
  have hq : l10p2 (-1074) = -324 := by decide
  have hlp : l2p10 324 = 1076 := by decide
  have c10 : Hid (∀ w, Calls Tryz.prog 113 #[.int .i64 (e + (11 + (-1085 - e)))] w fun e w' => e = .returned (.int .i64 (-324)) ∧ w = w') := by
    have h0 : e + (11 + (-1085 - e)) = -1074 := by omega
    rw [h0, ← hq]
    exact fun w => l10_any (-1074) w (by omega)
  have c2 : Hid (∀ w, Calls Tryz.prog 141 #[.int .i64 324] w fun e w' => e = .returned (.int .i64 1076) ∧ w = w') := by
    rw [← hlp]
    exact fun w => l2_any 324 w (by omega)
  clear hq hlp
  have heb : -1137 ≤ e ∧ e ≤ -1086 := by omega
  obtain ⟨s, hs'⟩ : ∃ s : Nat, (s : Int) = -(e + 1076 + 3) := ⟨(-(e + 1076 + 3)).toNat, by omega⟩
  rw [show -(e + 1079) = (s : Int) by omega, Int.toNat_natCast]
  have hs64 : s < 64 := by omega
  obtain ⟨hh1, hh2⟩ := pw_lt 672
  have htab : PowTab (w.alloc (.cells #[.int .u64 0, .int .u64 0, .int .i64 0] 173)) := ht.below ((Below.refl _ _).alloc (Nat.le_refl _) _) (Nat.le_refl _)
  have hpre := Lib.hid (fun (w : World) b v0 v1 v2 hb (htab : PowTab w) => pre_any e 324 1076 b w v0 v1 v2 hb 672 (by omega) (by omega) (pw 672).1 (pw 672).2 s (htab.2 672 (by omega)).1 (htab.2 672 (by omega)).2 (by omega) (by omega) hs')
  generalize (pw 672).1 = hi1 at *
  generalize (pw 672).2 = lo1 at *
  have hT := Lib.hid htab
  clear ht htab hs'
  obtain ⟨emn, emx, eod⟩ := small_eqs m z e hz hmz hm he
  have EMN := Lib.hid emn
  have EMX := Lib.hid emx
  clear he emn emx
  have hoddle : m / 2 ^ z % 2 ≤ 1 := by omega
  have hmn : m - 2 ^ (z - 1) < 18446744073709551616 := Nat.lt_of_le_of_lt (Nat.sub_le _ _) (by omega)
  have hmx : m + 2 ^ (z - 1) < 18446744073709551616 := hmz.2
  have hm64 : m < 18446744073709551616 := by omega
  generalize m / 2 ^ z % 2 = odd at *
  generalize m - 2 ^ (z - 1) = mn at *
  generalize m + 2 ^ (z - 1) = mx at *
  clear hmz hz
  go_enter Tryz.func118, Tryz.ntmps118
  go_wp2_with fail
  refine (c10.out _).mono ?_
  rintro e w1 ⟨rfl, rfl⟩
  go_wp2_with fail
  refine (c2.out _).mono ?_
  rintro e w1 ⟨rfl, rfl⟩
  go_wp2_with fail
  refine (hpre.out _ _ _ _ _ (Blk.new _ _ _) hT.out).mono ?_
  rintro e w1 ⟨rfl, hb, hg⟩
  have HB := Lib.hid hb
  have HF := Lib.hid (fun n => short_frame w w1 _ hg n)
  clear hb hg
  -- the least
  go_wp2_with fail
  refine (usc_int _ mn hi1 lo1 s _ _ HB.out hs64 EMN.out hmn hh1 hh2).mono ?_
  rintro e w2 ⟨rfl, n2, rfl⟩
  go_wp2_with fail
  refine (nudge_up _ odd _).mono ?_
  rintro e w3 ⟨rfl, rfl⟩
  go_wp2_with fail
  refine (ceil_u _ _).mono ?_
  rintro e w3 ⟨rfl, rfl⟩
  obtain ⟨A, HA⟩ : ∃ A, Hid (A = uceil (nudgeP (usc mn hi1 lo1 s) odd)) := ⟨_, rfl⟩
  rw [← HA.out]
  -- the greatest
  go_wp2_with fail
  refine (usc_int _ mx hi1 lo1 s _ _ (HB.out.drewN n2) hs64 EMX.out hmx hh1 hh2).mono ?_
  rintro e w3 ⟨rfl, n3, rfl⟩
  go_wp2_with fail
  refine (nudge_dn _ odd hoddle _).mono ?_
  rintro e w3 ⟨rfl, rfl⟩
  go_wp2_with fail
  refine (floor_u _ (nudgeM_lt _ _) _).mono ?_
  rintro e w3 ⟨rfl, rfl⟩
  obtain ⟨Bx, HBx⟩ : ∃ Bx, Hid (Bx = ufloor (nudgeM (usc mx hi1 lo1 s) odd)) := ⟨_, rfl⟩
  have hBx : Bx < 4611686018427387904 := by
    rw [HBx.out]; unfold ufloor
    have := nudgeM_lt (usc mx hi1 lo1 s) odd
    rw [M64_eq] at this; omega
  rw [← HBx.out]
  have HP : Hid (pick mn mx m hi1 lo1 s odd (324) = if A ≤ Bx / 10 * 10 then (Bx / 10, 1 - (324)) else (if A < Bx then uround (usc m hi1 lo1 s) else A, - (324))) := by
    rw [HA.out, HBx.out]; rfl
  by_cases hAB : A ≤ Bx / 10 * 10
  · go_wp2_with fail
    refine bodyPost_ret (v := .tuple #[.int .u64 ((Bx / 10 : Nat) : Int), .int .i64 (1 - (324))]) (by simp [results, Tryz.results118, go_sem] <;> omega) rfl ⟨_, rfl, ?_, HF.out _⟩
    rw [HP.out, if_pos hAB]
  · by_cases hlt : A < Bx
    · go_wp2_with fail
      refine (usc_int _ m hi1 lo1 s _ _ (HB.out.drewN (n2 + n3)) hs64 rfl hm64 hh1 hh2).mono ?_
      rintro e w4 ⟨rfl, n4, rfl⟩
      go_wp2_with fail
      refine (round_u _ (usc_lt _ _ _ _ hm64 hh1) _).mono ?_
      rintro e w5 ⟨rfl, rfl⟩
      obtain ⟨C, HC⟩ : ∃ C, Hid (C = uround (usc m hi1 lo1 s)) := ⟨_, rfl⟩
      rw [← HC.out]
      go_wp2_with fail
      refine bodyPost_ret (v := .tuple #[.int .u64 (C : Int), .int .i64 (- (324))]) (by simp [results, Tryz.results118, go_sem]) rfl ⟨_, rfl, ?_, HF.out _⟩
      rw [HP.out, if_neg hAB, if_pos hlt, HC.out]
    · go_wp2_with fail
      refine bodyPost_ret (v := .tuple #[.int .u64 (A : Int), .int .i64 (- (324))]) (by simp [results, Tryz.results118, go_sem]) rfl ⟨_, rfl, ?_, HF.out _⟩
      rw [HP.out, if_neg hAB, if_neg hlt]

def SPost (w : World) (q : Nat × Int) (e' : Ending) (w' : World) : Prop := e' = .returned (.tuple #[.int .u64 (q.1 : Nat), .int .i64 q.2]) ∧ Below w.heap.size w w'

theorem eqb_true {m : Nat} (h : m = 9223372036854775808) : ((m : Int) == 9223372036854775808) = true := by rw [beq_iff_eq]; omega
theorem eqb_false {m : Nat} (h : m ≠ 9223372036854775808) : ((m : Int) == 9223372036854775808) = false := by rw [beq_eq_false_iff_ne]; omega

set_option maxRecDepth 100000 in
/-- shortFloat at a positive finite real. -/
theorem short_all (u : Nat) (h0 : 0 < u) (hu : u < 9218868437227405312) (x y : Int) (hx : x = (mOf u : Nat)) (hy : y = eOf u) (w : World) (ht : PowTab w) :
    Calls Tryz.prog 118 #[.int .u64 x, .int .i64 y] w (SPost w (shortBits u)) := by
  subst hx hy
  unfold shortBits
  by_cases hz : u / 2 ^ 52 = 0
  · rw [if_pos hz]
    have hf : u % 2 ^ 52 ≠ 0 := by omega
    have hlt : u % 2 ^ 52 < 2 ^ 52 := Nat.mod_lt _ (by decide)
    have hl : (u % 2 ^ 52).log2 < 52 := (Nat.log2_lt hf).2 hlt
    have hm : mOf u = u % 2 ^ 52 * 2 ^ (63 - (u % 2 ^ 52).log2) := by unfold mOf; rw [if_pos hz]
    have he : eOf u = -1074 - ((63 - (u % 2 ^ 52).log2 : Nat) : Int) := by unfold eOf; rw [if_pos hz]
    have h1 := Nat.log2_self_le hf
    have h2 := Nat.lt_log2_self (n := u % 2 ^ 52)
    generalize u % 2 ^ 52 = fr at *
    generalize hzz : 63 - fr.log2 = z at *
    have hz12 : 12 ≤ z ∧ z ≤ 63 := by omega
    have hb1 : 9223372036854775808 ≤ mOf u := by
      rw [hm]
      calc 9223372036854775808 = 2 ^ fr.log2 * 2 ^ z := by rw [← Nat.pow_add, show fr.log2 + z = 63 by omega]
        _ ≤ fr * 2 ^ z := Nat.mul_le_mul_right _ h1
    have hb2 : mOf u + 2 ^ z ≤ 18446744073709551616 := by
      rw [hm]
      calc fr * 2 ^ z + 2 ^ z = (fr + 1) * 2 ^ z := by rw [Nat.add_mul, Nat.one_mul]
        _ ≤ 2 ^ (fr.log2 + 1) * 2 ^ z := Nat.mul_le_mul_right _ h2
        _ = 18446744073709551616 := by rw [← Nat.pow_add, show fr.log2 + 1 + z = 64 by omega]
    have hpz : (2 : Nat) ^ z = 2 * 2 ^ (z - 1) := by rw [← Nat.pow_succ']; congr 1; omega
    have hpp := Nat.two_pow_pos (z - 1)
    have hb3 : (2 : Nat) ^ (z - 1) ≤ 2 ^ 62 := Nat.pow_le_pow_right (by decide) (by omega)
    have hd : decide (-1085 < eOf u) = false := decide_eq_false (by omega)
    have hd2 : decide (-1085 ≤ eOf u) = false := decide_eq_false (by omega)
    unfold pickS
    by_cases hk : mOf u = 9223372036854775808
    · refine (short_small1 _ _ w z hz12 he ⟨by omega, by omega⟩ (by omega) hb1 (eqb_true hk) hd hd2 ht).mono ?_
      rintro e w' ⟨q, rfl, h⟩; exact h
    · refine (short_small0 _ _ w z hz12 he ⟨by omega, by omega⟩ (by omega) hb1 (eqb_false hk) hd hd2 ht).mono ?_
      rintro e w' ⟨q, rfl, h⟩; exact h
  · rw [if_neg hz]
    have hm : mOf u = (u % 2 ^ 52 + 2 ^ 52) * 2048 := by unfold mOf; rw [if_neg hz]
    have he : eOf u = ((u / 2 ^ 52 : Nat) : Int) - 1086 := by unfold eOf; rw [if_neg hz]
    have hb : 9223372036854775808 ≤ mOf u ∧ mOf u ≤ 18446744073709549568 := by omega
    have hee : -1085 ≤ eOf u ∧ eOf u ≤ 960 := by omega
    by_cases hk : u % 2 ^ 52 = 0 ∧ u / 2 ^ 52 ≠ 1
    · rw [if_pos hk]
      have hm9 : mOf u = 9223372036854775808 := by rw [hm, hk.1]
      refine (short_skew _ _ w hb.2 hb.1 ⟨by omega, hee.2⟩ (eqb_true hm9) ht).mono ?_
      rintro e w' ⟨q, rfl, h⟩; exact h
    · rw [if_neg hk]
      by_cases hk2 : mOf u = 9223372036854775808
      · refine (short_min _ _ w hb.2 hb.1 hee (decide_eq_false (by omega)) (eqb_true hk2) ht).mono ?_
        rintro e w' ⟨q, rfl, h⟩; exact h
      · refine (short_norm _ _ w hb.2 hb.1 hee (eqb_false hk2) ht).mono ?_
        rintro e w' ⟨q, rfl, h⟩; exact h

end Go.Proofs.YtijncfidjjfmiaaGreatDoor
