/- Where the reference's search ends: its digits and its power are the library's. -/
import Derived.Test.YtijncfidjjfmiaaGreatDoorFloTxtG
namespace Go.Proofs.YtijncfidjjfmiaaGreatDoor
open Go.RowKit FloM

theorem PLe_val (r : Nat) (P e : Int) (h : P = (up r : Int) - 1074) : PLe (mg r) P e ↔ tA e * KK ≤ val r * tB e := by
  rw [← PLe_iff (mg r) P e 1 rfl, ← cmpN_le]
  have := cmp_eq_val r 1 1 P e h
  rw [Nat.one_mul (mg r)] at this
  rw [this, Nat.one_mul, Nat.one_mul]

theorem power_val (u : Nat) (h0 : 0 < u) (hu : u < cap) (b : Bool) (vm : Value) (P : Int) (w : World) (hP : P = (up u : Int) - 1074) (hm : D w vm (mg u)) :
    Calls Tryz.prog 52 #[.agg #[.bool b, vm, .int .i64 P]] w fun e w' =>
      ∃ x : Int, e = .returned (.int .i64 x) ∧ val u * tB x < tA x * KK ∧ tA (x - 1) * KK ≤ val u * tB (x - 1) ∧ -400 ≤ x ∧ x ≤ 310 ∧ Below w.heap.size w w' := by
  have hup : up u ≤ 2045 := by unfold up; have : cap = 2047 * 2 ^ 52 := rfl; omega
  have hbl : bl (mg u) ≤ 53 := (bl_le _ _).2 (mg_lt u)
  have hmz : mg u ≠ 0 := fun h => by have := mg_zero.1 h; omega
  refine (power_any vm b (mg u) P w hmz (by omega) (by omega) (by omega) ?_ ?_ hm).mono ?_
  · intro e he h
    have := (PLe_val u P e hP).1 h
    have := top_e hu he
    omega
  · intro e h
    refine (PLe_val u P (e - 1) hP).2 (pw_mono (e - 1) 1 ?_)
    have := (PLe_val u P e hP).1 h
    rwa [show e - 1 + ((1 : Nat) : Int) = e by omega]
  · rintro e w' ⟨x, rfl, h1, h2, h3, h4, h5⟩
    refine ⟨x, rfl, ?_, (PLe_val u P (x - 1) hP).1 h2, h3, h4, h5⟩
    exact Nat.lt_of_not_le fun h => h1 ((PLe_val u P x hP).2 h)

/-- What the search hands back. -/
def shT (u : Nat) : List UInt8 := stripZ (Lib.decDigits (shortBits u).1)
def shE (u : Nat) : Int := (Lib.nDigits (shortBits u).1 : Int) + (shortBits u).2

theorem decZ_pos {k : Nat} (h : 0 < k) : decZ k = Lib.decDigits k := by unfold decZ; rw [if_neg (by omega)]

theorem dec10 : Lib.decDigits 10 = [49, 48] ∧ Lib.nDigits 10 = 2 := by
  rw [Lib.decDigits_two (by decide) (by decide), Lib.nDigits_big (by decide), Lib.nDigits_small (by decide)]
  exact ⟨rfl, rfl⟩

theorem search_ret {u n k : Nat} {e : Int} (hE : FloM.Ends u e) (hn : 1 ≤ n) (hf : ∀ m : Nat, 1 ≤ m → m < n → ¬ hitR u (e - m)) (ht : takes u (e - n) k)
    (h1 : val u * tB e < tA e * KK) (h2 : tA (e - 1) * KK ≤ val u * tB (e - 1)) :
    0 < k ∧ k ≤ 10 ^ n ∧ ((k < 10 ^ n ∧ (decZ k).length = n ∧ decZ k = shT u ∧ e = shE u) ∨ (n = 1 ∧ k = 10 ∧ decZ k = [49, 48] ∧ [49] = shT u ∧ e + 1 = shE u)) := by
  have b1 := fl_below (n := n) h1
  have b2 := fl_above hn h2
  have hp : 0 < 10 ^ (n - 1) := Nat.pow_pos (by decide)
  obtain ⟨_, hk⟩ := takes_hit ht
  have hk0 : 0 < k := by omega
  have hk1 : k ≤ 10 ^ n := by omega
  have hten : 2 ≤ n → k % 10 ≠ 0 := fun h2 h => by
    have h3 := takes_ten ht h
    refine hf (n - 1) (by omega) (by omega) ?_
    rwa [show e - ((n - 1 : Nat) : Int) = e - n + 1 by omega]
  obtain ⟨_, E, q, p, he, hnE, hq, hx⟩ := hE.2 n k hn hf ht
  have hd : 0 < (shortBits u).1 := by
    refine Nat.pos_of_ne_zero fun h => ?_
    rw [h, Nat.zero_mul] at hx
    have := Nat.mul_pos hk0 (Nat.pow_pos (n := E - n) (show 0 < 10 by decide))
    omega
  obtain ⟨s1, s2⟩ := strip_same hk0 hd hx
  have hsh : (Lib.nDigits k : Int) + e - n = shE u := by unfold shE; omega
  refine ⟨hk0, hk1, ?_⟩
  rcases Nat.lt_or_ge k (10 ^ n) with h | h
  · have hnd : Lib.nDigits k = n := by
      have := Lib.nDigits_unique (n - 1) k (by omega) (by rwa [show n - 1 + 1 = n by omega])
      omega
    have hnz : k % 10 ≠ 0 := by
      rcases Nat.lt_or_ge n 2 with h5 | h5
      · obtain rfl : n = 1 := by omega
        omega
      · exact hten h5
    refine .inl ⟨h, ?_, ?_, ?_⟩
    · rw [decZ_pos hk0, Lib.decDigits_length, hnd]
    · rw [decZ_pos hk0, ← strip_nz k hnz]; exact s1
    · rw [hnd] at hsh; omega
  · have hke : k = 10 ^ n := by omega
    have hn1 : n = 1 := by
      rcases Nat.lt_or_ge n 2 with h5 | h5
      · omega
      · refine absurd ?_ (hten h5)
        rw [hke, show n = (n - 1) + 1 by omega, Nat.pow_succ]; omega
    subst hn1
    rw [Nat.pow_one] at hke
    subst hke
    refine .inr ⟨rfl, rfl, ?_, ?_, ?_⟩
    · rw [decZ_pos (by decide)]; exact dec10.1
    · unfold shT; rw [← s1, dec10.1]; rfl
    · rw [dec10.2] at hsh; omega

theorem cut_val (u : Nat) (b : Bool) (vm : Value) (P s : Int) (w : World) (hP : P = (up u : Int) - 1074) (hu : u < cap) (hs1 : -2000 ≤ s) (hs2 : s ≤ 2000) (hm : D w vm (mg u)) :
    Calls Tryz.prog 53 #[.agg #[.bool b, vm, .int .i64 P], .int .i64 s] w (GivesD w (rFl u s)) := by
  have hup : up u ≤ 2045 := by unfold up; have : cap = 2047 * 2 ^ 52 := rfl; omega
  rw [← cut_eq u P s hP]
  exact cut_any vm b (mg u) s P w (by have := nd_64 (x := mg u) (Nat.lt_of_lt_of_le (mg_lt u) (by decide)); omega) hs1 hs2 (by omega) (by omega) hm

theorem near_val (u : Nat) (b : Bool) (vk vm : Value) (k : Nat) (P s : Int) (w : World) (hP : P = (up u : Int) - 1074) (hu : u < cap) (hs1 : -2000 ≤ s) (hs2 : s ≤ 2000) (hk : k < 2 ^ 60) (hmk : D w vk k) (hm : D w vm (mg u)) :
    Calls Tryz.prog 55 #[vk, .int .i64 s, .agg #[.bool b, vm, .int .i64 P]] w
      (GivesN w (if 2 * (val u * tB s) < (2 * k + 1) * (tA s * KK) ∨ (2 * (val u * tB s) = (2 * k + 1) * (tA s * KK) ∧ k % 2 = 0) then k else k + 1)) := by
  have hup : up u ≤ 2045 := by unfold up; have : cap = 2047 * 2 ^ 52 := rfl; omega
  have h := nearer_o vk vm b k (mg u) 1 s P w rfl hk (by have := nd_64 (x := mg u) (Nat.lt_of_lt_of_le (mg_lt u) (by decide)); omega) hs1 hs2 (by omega) (by omega) hmk hm
  have e := cmp_eq_val u (k + (k + 1)) 2 P s hP
  have e2 : mg u * 2 = 2 * mg u := Nat.mul_comm _ _
  rw [e2] at h
  have i1 : (2 * mg u * tB s * 2 ^ P.toNat < (k + (k + 1)) * tA s * 2 ^ (-P).toNat) ↔ 2 * (val u * tB s) < (2 * k + 1) * (tA s * KK) := by
    rw [← cmpN_gt', e, cmpN_gt', show k + (k + 1) = 2 * k + 1 by omega, Nat.mul_assoc, Nat.mul_assoc]
  have i2 : ((k + (k + 1)) * tA s * 2 ^ (-P).toNat = 2 * mg u * tB s * 2 ^ P.toNat) ↔ 2 * (val u * tB s) = (2 * k + 1) * (tA s * KK) := by
    rw [← cmpN_z, e, cmpN_z, show k + (k + 1) = 2 * k + 1 by omega, Nat.mul_assoc, Nat.mul_assoc]
    exact eq_comm
  simp only [i1, i2] at h
  exact h
end Go.Proofs.YtijncfidjjfmiaaGreatDoor
