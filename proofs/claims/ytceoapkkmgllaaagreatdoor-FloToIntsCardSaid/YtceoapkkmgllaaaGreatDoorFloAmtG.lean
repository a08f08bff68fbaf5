/- Amounts: mulD. -/
import Derived.Test.YtceoapkkmgllaaaGreatDoorFloAmtF
namespace FloM
/-- Digits of T below place p, of N from there on. -/
def mx (L p T N : Nat) : List Nat := (List.range L).map fun j => if j < p then dg T j else dg N j
theorem mx_len (L p T N : Nat) : (mx L p T N).length = L := by unfold mx; simp
theorem mx_get {L p T N j : Nat} (h : j < L) : (mx L p T N)[j]? = some (if j < p then dg T j else dg N j) := by unfold mx; simp [h]
theorem mx_start (L p N : Nat) : mx L p N N = fd L N := by
  unfold mx fd; congr 1; funext j; simp
theorem mx_set {L p T T' N : Nat} (hp : p < L) (h : ∀ j, j < p → dg T' j = dg T j) : (mx L p T N).set p (dg T' p) = mx L (p + 1) T' N := by
  apply List.ext_getElem?
  intro i
  rw [List.getElem?_set]
  rcases Nat.lt_or_ge i L with hi | hi
  · by_cases e : p = i
    · subst e
      rw [if_pos rfl, mx_len, if_pos hi, mx_get hi, if_pos (by omega)]
    · rw [if_neg e, mx_get hi, mx_get hi]
      by_cases h2 : i < p
      · rw [if_pos h2, if_pos (by omega), h i h2]
      · rw [if_neg h2, if_neg (by omega)]
  · rw [if_neg (by omega), List.getElem?_eq_none (by rw [mx_len]; exact hi), List.getElem?_eq_none (by rw [mx_len]; exact hi)]
theorem mx_end {L p T N : Nat} (hT : T < 65536 ^ p) (hN : N < 65536 ^ p) : mx L p T N = fd L T := by
  apply List.ext_getElem?
  intro i
  rcases Nat.lt_or_ge i L with hi | hi
  · rw [mx_get hi, fd_get hi]
    by_cases h : i < p
    · rw [if_pos h]
    · rw [if_neg h, dg_zero (Nat.lt_of_lt_of_le hN (pow_le (by omega))), dg_zero (Nat.lt_of_lt_of_le hT (pow_le (by omega)))]
  · rw [List.getElem?_eq_none (by rw [mx_len]; exact hi), List.getElem?_eq_none (by rw [fd_len]; exact hi)]

/-- A digit's product added at place p. -/
theorem mul_step (T N p x y cy : Nat) (h : T / 65536 ^ p = N / 65536 ^ p + cy) :
    (∀ j, j < p → dg (T + 65536 ^ p * (x * y)) j = dg T j) ∧ dg (T + 65536 ^ p * (x * y)) p = (cy + dg N p + x * y) % 65536 ∧
    (T + 65536 ^ p * (x * y)) / 65536 ^ (p + 1) = N / 65536 ^ (p + 1) + (cy + dg N p + x * y) / 65536 := by
  have hP := pow_pos p
  have e : (T + 65536 ^ p * (x * y)) / 65536 ^ p = 65536 * (N / 65536 ^ (p + 1)) + (cy + dg N p + x * y) := by
    rw [Nat.add_mul_div_left _ _ hP, h, div_succ N p]; omega
  refine ⟨fun j hj => ?_, ?_, ?_⟩
  · unfold dg
    obtain ⟨k, rfl⟩ : ∃ k, p = j + 1 + k := ⟨p - j - 1, by omega⟩
    have : 65536 ^ (j + 1 + k) * (x * y) = 65536 ^ j * (65536 * (65536 ^ k * (x * y))) := by
      rw [Nat.pow_add, Nat.pow_succ]; simp only [Nat.mul_assoc]
    rw [this, Nat.add_mul_div_left _ _ (pow_pos j), Nat.add_mul_mod_self_left]
  · unfold dg at e ⊢
    rw [e]; omega
  · have e3 : (T + 65536 ^ p * (x * y)) / 65536 ^ (p + 1) = (T + 65536 ^ p * (x * y)) / 65536 ^ p / 65536 := by rw [Nat.div_div_eq_div_mul, ← Nat.pow_succ]
    rw [e3, e]; omega

/-- a's lowest i + 1 digits times b, out of i's. -/
theorem mul_row (a b i : Nat) : a % 65536 ^ (i + 1) * b = a % 65536 ^ i * b + 65536 ^ i * (dg a i * b) := by
  rw [mod_succ, Nat.add_mul, Nat.mul_assoc]
theorem mul_col (b i m x : Nat) : 65536 ^ i * (x * (b % 65536 ^ (m + 1))) = 65536 ^ i * (x * (b % 65536 ^ m)) + 65536 ^ (i + m) * (x * dg b m) := by
  rw [mod_succ, Nat.mul_add, Nat.mul_add, Nat.pow_add]
  congr 1
  generalize 65536 ^ i = p
  generalize 65536 ^ m = q
  simp only [Nat.mul_comm, Nat.mul_left_comm]
theorem mul_low (a b i n : Nat) (h : b < 65536 ^ n) : a % 65536 ^ i * b < 65536 ^ (i + n) := by
  rw [Nat.pow_add]
  have h1 := Nat.mod_lt a (pow_pos i)
  rcases Nat.eq_zero_or_pos b with rfl | hb
  · rw [Nat.mul_zero]; exact Nat.mul_pos (pow_pos i) (pow_pos n)
  · exact Nat.lt_of_lt_of_le ((Nat.mul_lt_mul_right hb).2 h1) (Nat.mul_le_mul_left _ (Nat.le_of_lt h))
end FloM
namespace Go.Proofs.YtceoapkkmgllaaaGreatDoor
open Go.RowKit FloM

theorem prod16 (x y : Nat) (hx : x < 65536) (hy : y < 65536) : 0 ≤ (x : Int) * (y : Int) ∧ (x : Int) * (y : Int) ≤ 4294836225 ∧ ((x * y : Nat) : Int) = (x : Int) * (y : Int) := by
  have : x * y ≤ 65535 * 65535 := Nat.mul_le_mul (by omega) (by omega)
  have h2 : ((x * y : Nat) : Int) ≤ 4294836225 := by omega
  rw [Int.natCast_mul] at h2
  exact ⟨Int.mul_nonneg (by omega) (by omega), h2, Int.natCast_mul _ _⟩

set_option maxRecDepth 100000 in
set_option maxHeartbeats 2000000 in
theorem mul_any' (A B : Option Addr) (c d la lb a b : Nat) (w : World) (hla : la = nd a) (hlb : lb = nd b) (hb1 : la ≤ 50000) (hb2 : lb ≤ 50000) (hr : Reads w w.heap.size 1 A la (vals (fd la a))) (hs : Reads w w.heap.size 1 B lb (vals (fd lb b))) :
    Calls Tryz.prog 70 #[.slice A la c, .slice B lb d] w (GivesD w (a * b)) := by
  obtain ⟨i0, hi0, hz0, hz1, hz2⟩ := info_parts info16
  have hR := Lib.hid hr
  have hS := Lib.hid hs
  have HA := Lib.hid (show a < 65536 ^ la by rw [hla]; exact lt_nd a)
  have HB := Lib.hid (show b < 65536 ^ lb by rw [hlb]; exact lt_nd b)
  clear hr hs hla hlb
  go_enter Tryz.func70, Tryz.ntmps70
  go_wp2_with (refine wpList_make_full _ rfl _ _ _ rfl w.heap.size 102 i0 (.int .u16 0) 1 und16 hi0 hz0 hz1 _ _ _ _ (la + lb) rfl rfl (by go_num) (by go_num) (by rw [hz2]; omega) (by unfold maxLen; omega) (Nat.le_refl _) ?_)
  intro w1 hown1 hgrow1
  have e0 : List.replicate (la + lb) 0 = fd (la + lb) (a % 65536 ^ 0 * b) := by
    rw [Nat.pow_zero, Nat.mod_one, Nat.zero_mul]
    apply List.ext_getElem?
    intro i
    rcases Nat.lt_or_ge i (la + lb) with h | h
    · rw [fd_get h, List.getElem?_replicate, if_pos h, dg_zero (pow_pos i)]
    · rw [List.getElem?_eq_none (by simpa using h), List.getElem?_eq_none (by rw [fd_len]; exact h)]
  rw [vals_made, e0] at hown1
  have hbel1 : Below w.heap.size w w1 := (Below.refl _ _).grown hgrow1 (Nat.le_refl _) (fun k hk => by cases hk)
  obtain ⟨g, hg⟩ : ∃ g, g = w.heap.size := ⟨_, rfl⟩
  rw [← hg] at hown1 ⊢
  have HO1 := Lib.hid hown1
  have HBE1 := Lib.hid hbel1
  have hg1 : g ≤ w.heap.size := by omega
  have hg2 : w.heap.size ≤ g := by omega
  clear hown1 hgrow1 hbel1 hg e0
  go_wp2
  go_loopw [6] (fun i wr => ∃ k : Nat, k ≤ la ∧ i = .int .i64 k ∧ wr.ownsRow g 102 1 (.slice (some ⟨g, 0, none⟩) (la + lb) (la + lb)) (la + lb) (vals (fd (la + lb) (a % 65536 ^ k * b))) ∧ Below w.heap.size w wr) (fun i _ => la - (intOf i).toNat)
  case atStart => exact ⟨0, Nat.zero_le _, rfl, HO1.out, HBE1.out⟩
  case round =>
    obtain ⟨i, hi, rfl, hown, hbel⟩ := hrel
    have hsz := hbel.size
    obtain ⟨wo, rfl⟩ : ∃ wo : World, wo = wr := ⟨_, rfl⟩
    by_cases hlt : i < la
    · obtain ⟨ad, rfl, ha, hcell0⟩ := DS.at_ hR.out hlt
      have HCA := Lib.hid hcell0
      have hx := dg_lt a i
      obtain ⟨N, hN⟩ : ∃ N, N = a % 65536 ^ i * b := ⟨_, rfl⟩
      rw [← hN] at hown
      have HROW := Lib.hid (mul_row a b i)
      rw [← hN] at HROW
      have HLOW := Lib.hid (show N < 65536 ^ (i + lb) by rw [hN]; exact mul_low a b i lb HB.out)
      have HLOW2 := Lib.hid (mul_low a b (i + 1) lb HB.out)
      have HHA := Lib.hid ha
      clear hN hcell0 ha
      generalize dg a i = x at *
      have HOWN := Lib.hid hown
      have HBEL := Lib.hid hbel
      clear hown hbel
      go_wp2
      go_loopw [7, 8] (fun cy m wr => ∃ k cn T : Nat, k ≤ lb ∧ cn ≤ 65535 ∧ cy = .int .u32 cn ∧ m = .int .i64 k ∧ T = N + 65536 ^ i * (x * (b % 65536 ^ k)) ∧ T / 65536 ^ (i + k) = N / 65536 ^ (i + k) + cn ∧ wr.ownsRow g 102 1 (.slice (some ⟨g, 0, none⟩) (la + lb) (la + lb)) (la + lb) (vals (mx (la + lb) (i + k) T N)) ∧ Below w.heap.size w wr) (fun _ m _ => lb - (intOf m).toNat)
      case atStart =>
        refine ⟨0, 0, N, Nat.zero_le _, by omega, rfl, rfl, ?_, rfl, ?_, HBEL.out⟩
        · rw [Nat.pow_zero, Nat.mod_one, Nat.mul_zero, Nat.mul_zero, Nat.add_zero]
        · rw [mx_start]; exact HOWN.out
      case round =>
        obtain ⟨k, cn, T, hk, hcn, rfl, rfl, hT, hdiv, hown, hbel⟩ := hrel
        by_cases hlk : k < lb
        · obtain ⟨bd, rfl, hb, hcell2⟩ := DS.at_ hS.out hlk
          rw [← hbel.cell (by rw [block_of_add]; exact hb)] at hcell2
          have hcell1 := HCA.out
          rw [← hbel.cell (by rw [block_of_add]; exact HHA.out)] at hcell1
          have hcell3 : wr.cell? ⟨g, i + k, none⟩ = some (.int .u16 (dg N (i + k) : Nat)) := by
            rw [World.ownsRow.cellAt hown (i + k) (by omega), vals, List.getElem?_map, mx_get (by omega), if_neg (by omega)]; rfl
          have hy := dg_lt b k
          have hn := dg_lt N (i + k)
          have HCOL := Lib.hid (mul_col b i k x)
          generalize dg b k = y at *
          have HST := Lib.hid (mul_step T N (i + k) x y cn hdiv)
          generalize dg N (i + k) = z at *
          obtain ⟨p0, p1, p2⟩ := prod16 x y hx hy
          have HP2 := Lib.hid p2
          have HT := Lib.hid hT
          have HOW := Lib.hid hown
          have HBE := Lib.hid hbel
          clear hT hdiv hown hbel p2
          go_wp2
          go_quiet (fail)
          have hfz : wr.frozen? ⟨g, i + k, none⟩ = false := World.ownsRow.frozenAt HOW.out (i + k)
          have HSTO := Lib.hid (fun u => (World.ownsRow.stored HOW.out (i + k) u).1)
          go_wp2
          go_roundw
          case rel =>
            have hst := HST.out
            have hp2 := HP2.out
            refine ⟨k + 1, (cn + z + x * y) / 65536, T + 65536 ^ (i + k) * (x * y), by omega, ?_, by go_num, by go_num, ?_, hst.2.2, ?_, ?_⟩
            · have : cn + z + x * y ≤ 4294967295 := by omega
              omega
            · rw [HT.out, Nat.add_assoc, ← HCOL.out]
            · have h1 := HSTO.out (.int .u16 (dg (T + 65536 ^ (i + k) * (x * y)) (i + k) : Nat))
              rw [vals_set, mx_set (by omega) hst.1] at h1
              rw [hst.2.1] at h1
              have e1 : (((cn + z + x * y) % 65536 : Nat) : Int) = IntKind.u16.wrap (cn + z + x * y) := by rw [IntKind.wrap_u16]; omega
              rw [e1] at h1
              exact h1
            · exact below_drewN (HBE.out.setCell (by show w.heap.size ≤ g; omega) _) _
          case measure => simp [intOf]; omega
        · have e : k = lb := by omega
          subst e
          rw [Nat.mod_eq_of_lt HB.out, ← HROW.out] at hT
          rw [Nat.div_eq_of_lt HLOW.out, Nat.zero_add] at hdiv
          have hp : i + k < la + k := by omega
          have hTl : T < 65536 ^ (i + k + 1) := by
            rw [Nat.pow_succ]
            have h1 := Nat.div_add_mod T (65536 ^ (i + k))
            have h2 := Nat.mod_lt T (pow_pos (i + k))
            rw [hdiv] at h1
            have h3 : 65536 ^ (i + k) * cn ≤ 65536 ^ (i + k) * 65535 := Nat.mul_le_mul_left _ hcn
            omega
          have hdT : dg T (i + k) = cn := by unfold dg; rw [hdiv]; omega
          have hcell3 : wr.cell? ⟨g, i + k, none⟩ = some (.int .u16 0) := by
            rw [World.ownsRow.cellAt hown (i + k) (by omega), vals, List.getElem?_map, mx_get (by omega), if_neg (by omega), dg_zero HLOW.out]; rfl
          have hfz : wr.frozen? ⟨g, i + k, none⟩ = false := World.ownsRow.frozenAt hown (i + k)
          have h1 := (World.ownsRow.stored hown (i + k) (.int .u16 (dg T (i + k) : Nat))).1
          rw [vals_set, mx_set (T' := T) (by omega) (fun _ _ => rfl), mx_end hTl (Nat.lt_of_lt_of_le HLOW.out (pow_le (by omega))), hdT, hT] at h1
          have hb5 : Below w.heap.size w (wr.setCell ⟨g, i + k, none⟩ (.int .u16 (cn : Int))) := hbel.setCell (by show w.heap.size ≤ g; omega) _
          have H1 := Lib.hid h1
          have HB5 := Lib.hid hb5
          clear hT hdiv hown hbel hTl hdT h1 hb5
          go_wp2
          go_roundw
          case rel => exact ⟨i + 1, by omega, by go_num, H1.out, HB5.out⟩
          case measure => simp [intOf]; omega
    · have e : i = la := by omega
      subst e
      have hlt2 : a * b < 65536 ^ (i + lb) := by
        have := mul_low a b i lb HB.out
        rwa [Nat.mod_eq_of_lt HA.out] at this
      rw [Nat.mod_eq_of_lt HA.out] at hown
      have hT := Lib.hid (trim_D _ (i + lb) (a * b) wo (Own.DS hown hlt2))
      have HF := Lib.hid (show Fr w.heap.size (.slice (some ⟨g, 0, none⟩) (i + lb) (i + lb)) from fun x hx => by have := own_ge x hx; omega)
      have HBE := Lib.hid hbel
      clear hown hlt2 hbel
      go_wp2_with (go_at_call 102; refine hT.out.mono ?_; rintro e w' ⟨⟨v', rfl, hv', ho'⟩, rfl⟩; have HV := Lib.hid hv'; have HO := Lib.hid ho'; clear hv' ho')
      go_ret
      exact ⟨_, rfl, HV.out, Fr.of HF.out HO.out, HBE.out⟩

theorem mul_D (va vb : Value) (a b : Nat) (w : World) (hb1 : nd a ≤ 50000) (hb2 : nd b ≤ 50000) (ha : D w va a) (hb : D w vb b) :
    Calls Tryz.prog 70 #[va, vb] w (GivesD w (a * b)) := by
  obtain ⟨A, c, rfl, _, _, _, hr⟩ := ha
  obtain ⟨B, d, rfl, _, _, _, hs⟩ := hb
  exact mul_any' A B c d _ _ a b w rfl rfl hb1 hb2 hr hs
end Go.Proofs.YtceoapkkmgllaaaGreatDoor
