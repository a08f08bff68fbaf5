/- Plain facts on the shortest digits of every positive real: how many, how great their power. -/
import Derived.Test.YtijncfidjjfmiaaGreatDoorFloTxtH
namespace Go.Proofs.YtijncfidjjfmiaaGreatDoor
open Go.RowKit FloM

theorem step_down {f : Nat → Prop} : ∀ n : Nat, f 0 → ¬ f n → ∃ m, m < n ∧ f m ∧ ¬ f (m + 1)
  | 0, h0, hn => absurd h0 hn
  | n + 1, h0, hn => by
    by_cases h : f n
    · exact ⟨n, by omega, h, hn⟩
    · obtain ⟨m, h1, h2⟩ := step_down n h0 h
      exact ⟨m, by omega, h2⟩

theorem ex_power (u : Nat) (h0 : 0 < u) (hu : u < cap) : ∃ e : Int, val u * tB e < tA e * KK ∧ tA (e - 1) * KK ≤ val u * tB (e - 1) ∧ -400 ≤ e ∧ e ≤ 310 := by
  have hup : up u ≤ 2045 := by unfold up; have : cap = 2047 * 2 ^ 52 := rfl; omega
  have hbl : bl (mg u) ≤ 53 := (bl_le _ _).2 (mg_lt u)
  have hmz : mg u ≠ 0 := fun h => by have := mg_zero.1 h; omega
  obtain ⟨P, hP⟩ : ∃ P : Int, P = (up u : Int) - 1074 := ⟨_, rfl⟩
  have hb := bl_low hmz
  have hg := (PLe_val u P _ hP).1 (guess_le (mg u) P hmz (by omega) (by omega))
  have hg1 : -400 ≤ guess ((bl (mg u) : Int) + P) := by
    unfold guess
    rcases Int.lt_or_le ((bl (mg u) : Int) + P) 0 with h | h
    · obtain ⟨y, hy⟩ : ∃ y : Int, (bl (mg u) : Int) + P = -y := ⟨-((bl (mg u) : Int) + P), by omega⟩
      rw [hy, Int.neg_mul, Int.neg_tdiv, Int.tdiv_eq_ediv_of_nonneg (by omega)]
      omega
    · rw [Int.tdiv_eq_ediv_of_nonneg (by omega)]
      omega
  have hf0 : tA (-400) * KK ≤ val u * tB (-400) := by
    refine pw_mono (-400) (guess ((bl (mg u) : Int) + P) + 400).toNat ?_
    rwa [show (-400 : Int) + ((guess ((bl (mg u) : Int) + P) + 400).toNat : Int) = guess ((bl (mg u) : Int) + P) by omega]
  have hf1 : tA (-400 + ((0 : Nat) : Int)) * KK ≤ val u * tB (-400 + ((0 : Nat) : Int)) := by
    rw [show (-400 : Int) + ((0 : Nat) : Int) = -400 from rfl]; exact hf0
  have htop : ¬ tA (-400 + ((710 : Nat) : Int)) * KK ≤ val u * tB (-400 + ((710 : Nat) : Int)) := Nat.not_le_of_lt (top_e hu (by decide))
  obtain ⟨m, h1, h2, h3⟩ := step_down (f := fun n : Nat => tA (-400 + (n : Int)) * KK ≤ val u * tB (-400 + (n : Int))) 710 hf1 htop
  refine ⟨-400 + (m : Int) + 1, ?_, ?_, by omega, by omega⟩
  · have := Nat.lt_of_not_le h3
    rwa [show -400 + ((m + 1 : Nat) : Int) = -400 + (m : Int) + 1 by omega] at this
  · rw [show -400 + (m : Int) + 1 - 1 = -400 + (m : Int) by omega]; exact h2

theorem first_of {f : Nat → Prop} : ∀ n : Nat, f n → ∃ m, m ≤ n ∧ f m ∧ ∀ j, j < m → ¬ f j
  | 0, h => ⟨0, by omega, h, fun j hj => by omega⟩
  | n + 1, h => by
    by_cases h2 : ∃ j, j ≤ n ∧ f j
    · obtain ⟨j, hj, hf⟩ := h2
      obtain ⟨m, h3, h4⟩ := first_of_lt n j hj hf
      exact ⟨m, by omega, h4⟩
    · exact ⟨n + 1, by omega, h, fun j hj hf => h2 ⟨j, by omega, hf⟩⟩
where
  first_of_lt {f : Nat → Prop} : ∀ (n j : Nat), j ≤ n → f j → ∃ m, m ≤ n ∧ f m ∧ ∀ i, i < m → ¬ f i
  | 0, j, hj, hf => ⟨j, hj, hf, fun i hi => by omega⟩
  | n + 1, j, hj, hf => by
    by_cases h2 : ∃ i, i ≤ n ∧ f i
    · obtain ⟨i, hi, hfi⟩ := h2
      obtain ⟨m, h3, h4⟩ := first_of_lt n i hi hfi
      exact ⟨m, by omega, h4⟩
    · exact ⟨j, by omega, hf, fun i hi hfi => h2 ⟨i, by omega, hfi⟩⟩

theorem takes_ex {u : Nat} {s : Int} (h : hitR u s) : ∃ k, takes u s k := by
  by_cases hA : Hit u (rFl u s) s
  · by_cases hB : Hit u (rFl u s + 1) s
    · exact ⟨_, .inl ⟨hA, hB, rfl⟩⟩
    · exact ⟨_, .inr (.inl ⟨hA, hB, rfl⟩)⟩
  · exact ⟨_, .inr (.inr ⟨hA, h.resolve_left hA, rfl⟩)⟩

theorem sh_facts (u : Nat) (h0 : 0 < u) (hu : u < cap) : 1 ≤ (shT u).length ∧ (shT u).length ≤ 17 ∧ -400 ≤ shE u ∧ shE u ≤ 311 ∧ 0 < (shortBits u).1 := by
  obtain ⟨e, h1, h2, h3, h4⟩ := ex_power u h0 hu
  have hE := ends_all u h0 hu e h1 h2
  obtain ⟨n0, k1, k2, k3⟩ := hE.1
  obtain ⟨m, j1, j2, j3⟩ := first_of (f := fun m : Nat => 1 ≤ m ∧ hitR u (e - m)) n0 ⟨k1, k3⟩
  obtain ⟨k, hk⟩ := takes_ex j2.2
  have hs := search_ret hE j2.1 (fun i hi1 hi2 h => j3 i hi2 ⟨hi1, h⟩) hk h1 h2
  have hpos : 0 < (shortBits u).1 := by
    obtain ⟨_, E, q, p, _, _, _, hx⟩ := hE.2 m k j2.1 (fun i hi1 hi2 h => j3 i hi2 ⟨hi1, h⟩) hk
    refine Nat.pos_of_ne_zero fun h => ?_
    rw [h, Nat.zero_mul] at hx
    have := Nat.mul_pos hs.1 (Nat.pow_pos (n := E - m) (show 0 < 10 by decide))
    omega
  obtain ⟨_, _, hc⟩ := hs
  rcases hc with ⟨_, hl, ht, he⟩ | ⟨_, _, _, ht, he⟩
  · rw [← ht, hl, ← he]
    exact ⟨j2.1, by omega, h3, by omega, hpos⟩
  · rw [← ht, ← he]
    exact ⟨by decide, by decide, by omega, by omega, hpos⟩

theorem usc_half (x : Nat) : x % M64 / 4 < 18446744073709551616 := by
  have : x % M64 < M64 := Nat.mod_lt _ (by decide)
  have e : M64 = 18446744073709551616 := by decide
  omega
theorem pick_bd (mn mx m hi lo s odd : Nat) (p : Int) : (pick mn mx m hi lo s odd p).1 < 18446744073709551616 ∧ ((pick mn mx m hi lo s odd p).2 = 1 - p ∨ (pick mn mx m hi lo s odd p).2 = -p) := by
  unfold pick
  simp only
  split
  · refine ⟨?_, .inl rfl⟩
    have hlt : ufloor (nudgeM (usc mx hi lo s) odd) < 18446744073709551616 := by
      unfold ufloor nudgeM; exact usc_half _
    show _ / 10 < _
    omega
  · refine ⟨?_, .inr rfl⟩
    show (if _ then uround _ else uceil _) < _
    split
    · exact usc_half _
    · exact usc_half _

theorem good_all (u : Nat) (h0 : 0 < u) (hu : u < cap) : Good (shortBits u) := by
  obtain ⟨_, _, _, _, hp⟩ := sh_facts u h0 hu
  have hc : cap = 2047 * 2 ^ 52 := rfl
  have key : (shortBits u).1 < 18446744073709551616 ∧ -400 ≤ (shortBits u).2 ∧ (shortBits u).2 ≤ 400 := by
    unfold shortBits
    split
    · have := pick_bd (mOf u - 2 ^ (63 - (u % 2 ^ 52).log2 - 1)) (mOf u + 2 ^ (63 - (u % 2 ^ 52).log2 - 1)) (mOf u) (pw 672).1 (pw 672).2 (-(eOf u + 1079)).toNat (mOf u / 2 ^ (63 - (u % 2 ^ 52).log2) % 2) 324
      unfold pickS
      generalize pick _ _ _ _ _ _ _ _ = z at *
      omega
    · rename_i h1
      have he : eOf u = ((u / 2 ^ 52 : Nat) : Int) - 1086 := by unfold eOf; rw [if_neg h1]
      have hx : 1 ≤ u / 2 ^ 52 ∧ u / 2 ^ 52 ≤ 2046 := by omega
      rw [he]
      generalize u / 2 ^ 52 = x at *
      split
      · unfold pickK
        have := fun mn mx m hi lo s odd => pick_bd mn mx m hi lo s odd (-skw ((x : Int) - 1086 + 11))
        have hs : -400 < skw ((x : Int) - 1086 + 11) ∧ skw ((x : Int) - 1086 + 11) < 399 := by unfold skw; omega
        generalize skw ((x : Int) - 1086 + 11) = y at *
        have h9 := this (mOf u - 512) (mOf u + 1024) (mOf u) (pw (348 - y).toNat).1 (pw (348 - y).toNat).2 (-((x : Int) - 1086 + l2p10 (- y) + 3)).toNat (mOf u / 2048 % 2)
        generalize pick _ _ _ _ _ _ _ _ = z at *
        omega
      · unfold pickN
        have := fun mn mx m hi lo s odd => pick_bd mn mx m hi lo s odd (-l10p2 ((x : Int) - 1086 + 11))
        have hs : -400 < l10p2 ((x : Int) - 1086 + 11) ∧ l10p2 ((x : Int) - 1086 + 11) < 399 := by unfold l10p2; omega
        generalize l10p2 ((x : Int) - 1086 + 11) = y at *
        have h9 := this (mOf u - 1024) (mOf u + 1024) (mOf u) (pw (348 - y).toNat).1 (pw (348 - y).toNat).2 (-((x : Int) - 1086 + l2p10 (- y) + 3)).toNat (mOf u / 2048 % 2)
        generalize pick _ _ _ _ _ _ _ _ = z at *
        omega
  exact ⟨hp, key.1, key.2.1, key.2.2, strip_ne hp⟩
end Go.Proofs.YtijncfidjjfmiaaGreatDoor
