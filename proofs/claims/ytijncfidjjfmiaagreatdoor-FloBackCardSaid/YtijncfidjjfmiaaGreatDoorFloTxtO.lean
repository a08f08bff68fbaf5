/- The reference's Text at every real. -/
import Derived.Test.YtijncfidjjfmiaaGreatDoorFloTxtN
namespace Go.Proofs.YtijncfidjjfmiaaGreatDoor
open Go.RowKit FloM

theorem sgn_zero (u : Nat) (h : u < 2 ^ 63) : bits .and .u64 (u : Int) 9223372036854775808 = 0 := by
  rw [bits_sign u (by omega)]
  unfold sgnN
  rw [if_pos h]; rfl

theorem txtC_pos (u : Nat) (h0 : 0 < u) (hu : u < cap) : TxtC u (shT u) (shE u) := by
  have hc : cap = 2047 * 2 ^ 52 := rfl
  have hrg : rg u = u := by unfold rg; omega
  refine ⟨fun w => ?_, fun w => ?_, fun w => ?_⟩
  · have := rnan_any u (by omega) w
    rwa [hrg, decide_eq_false (by omega)] at this
  · have := rinf_any u (by omega) w
    rwa [hrg, decide_eq_false (by omega)] at this
  · exact shortest_any u h0 hu w

theorem cat4 {P : Program} (a b : List UInt8) (ha : a.length ≤ 2000) (hb : b.length ≤ 2000) (w : World) :
    (Op.stringOp .add ⟨a.toArray⟩ ⟨b.toArray⟩).run P w = .ok (.string ⟨(a ++ b).toArray⟩) w := run_string_add_lists w a b (by omega) (by omega)

theorem rtext_pos (u : Nat) (h0 : 0 < u) (hu : u < cap) (w : World) :
    Calls Tryz.prog 8 #[.int .u64 u] w (RetT w (txt (shT u) (shE u))) := by
  have hc : cap = 2047 * 2 ^ 52 := rfl
  have HC := txtC_pos u h0 hu
  obtain ⟨f1, f2, f3, f4, _⟩ := sh_facts u h0 hu
  have s0 := sgn_zero u (by omega)
  have z0 : ((u : Int) == 0) = false := by rw [beq_eq_false_iff_ne]; omega
  generalize shT u = T at *
  generalize shE u = E at *
  rcases Int.lt_or_le E 1 with h1 | h1
  · obtain ⟨m, rfl⟩ : ∃ m : Nat, E = -(m : Int) := ⟨(-E).toNat, by omega⟩
    rcases Nat.lt_or_ge m 4 with h2 | h2
    · exact rtext_a u T m f2 (by omega) s0 z0 HC w
    · rcases T with _ | ⟨c, R⟩
      · simp at f1
      have hl : R.length ≤ 16 := by rw [List.length_cons] at f2; omega
      have hdl : (Lib.decDigits (m + 1)).length ≤ 1000 := by have := decZ_small (m + 1) (by omega); rwa [decZ_pos (by omega)] at this
      have hdg : ∀ v w, D w v (m + 1) → Calls Tryz.prog 26 #[v] w fun e w' => e = .returned (.string ⟨(Lib.decDigits (m + 1)).toArray⟩) ∧ Below w.heap.size w w' := fun v w hv => by
        have := digits_any v (m + 1) w (by have := nd_64 (x := m + 1) (by omega); omega) (decZ_small _ (by omega)) hv
        rwa [decZ_pos (by omega)] at this
      have hsm : ∀ w, Calls Tryz.prog 27 #[.int .u64 ((m + 1 : Nat) : Int)] w (GivesD w (m + 1)) := fun w => small_D (m + 1) w (by omega)
      rw [txt_e c R m (by omega)]
      have hsz : (ByteArray.mk (c :: R).toArray).size = (c :: R).length := by simp [ByteArray.size]
      have hTS : TxtS u ⟨(c :: R).toArray⟩ (-(m : Int)) := ⟨HC.nan, HC.inf, HC.sho⟩
      by_cases hR : R = []
      · subst hR
        rw [if_pos rfl]
        refine (rtext_e0 u m (m + 1) ⟨[c].toArray⟩ ⟨[c].toArray⟩ ⟨([] : List UInt8).toArray⟩ ⟨(Lib.decDigits (m + 1)).toArray⟩ ⟨([c] ++ [46]).toArray⟩ ⟨([c] ++ [46] ++ [48]).toArray⟩ ⟨([c] ++ [46] ++ [48] ++ [69, 126]).toArray⟩ ⟨([c] ++ [46] ++ [48] ++ [69, 126] ++ Lib.decDigits (m + 1)).toArray⟩
          (by omega) (by omega) (by omega) (by omega) (by rw [hsz]; simp) (by rw [hsz]; simp) (bytes_take [c] 1) (by rw [hsz]; exact bytes_drop [c] 1)
          (cat4 _ _ (by simp) (by simp)) (cat4 _ _ (by simp) (by simp)) (cat4 _ _ (by simp) (by simp)) (cat4 _ _ (by simp) (by omega)) (by rw [Lib.toList_data]; rfl) s0 z0 hTS hsm hdg w).mono ?_
        rintro e w' ⟨rfl, hb⟩
        exact ⟨by simp, hb⟩
      · rw [if_neg hR]
        refine (rtext_e1 u m (m + 1) ⟨(c :: R).toArray⟩ ⟨[c].toArray⟩ ⟨R.toArray⟩ ⟨(Lib.decDigits (m + 1)).toArray⟩ ⟨([c] ++ [46]).toArray⟩ ⟨([c] ++ [46] ++ R).toArray⟩ ⟨([c] ++ [46] ++ R ++ [69, 126]).toArray⟩ ⟨([c] ++ [46] ++ R ++ [69, 126] ++ Lib.decDigits (m + 1)).toArray⟩
          (by omega) (by omega) (by omega) (by omega) (by rw [hsz]; simp) (by rw [hsz]; simp; omega) (bytes_take (c :: R) 1) (by rw [hsz]; exact bytes_drop (c :: R) 1)
          (cat4 _ _ (by simp) (by simp)) (cat4 _ _ (by simp) (by omega)) (cat4 _ _ (by simp; omega) (by simp)) (cat4 _ _ (by simp; omega) (by omega)) (by rw [Lib.toList_data]; cases R with | nil => exact absurd rfl hR | cons a b => rfl) s0 z0 hTS hsm hdg w).mono ?_
        rintro e w' ⟨rfl, hb⟩
        exact ⟨by simp, hb⟩
  · obtain ⟨m, rfl⟩ : ∃ m : Nat, E = (m : Int) := ⟨E.toNat, by omega⟩
    rcases Nat.lt_or_ge m 16 with h2 | h2
    · rcases Nat.lt_or_ge m T.length with h3 | h3
      · exact rtext_c u T m f2 (by omega) (by omega) h3 s0 z0 HC w
      · exact rtext_b u T m f2 (by omega) (by omega) h3 s0 z0 HC w
    · rcases T with _ | ⟨c, R⟩
      · simp at f1
      have hl : R.length ≤ 16 := by rw [List.length_cons] at f2; omega
      have hdl : (Lib.decDigits (m - 1)).length ≤ 1000 := by have := decZ_small (m - 1) (by omega); rwa [decZ_pos (by omega)] at this
      have hdg : ∀ v w, D w v (m - 1) → Calls Tryz.prog 26 #[v] w fun e w' => e = .returned (.string ⟨(Lib.decDigits (m - 1)).toArray⟩) ∧ Below w.heap.size w w' := fun v w hv => by
        have := digits_any v (m - 1) w (by have := nd_64 (x := m - 1) (by omega); omega) (decZ_small _ (by omega)) hv
        rwa [decZ_pos (by omega)] at this
      have hsm : ∀ w, Calls Tryz.prog 27 #[.int .u64 ((m - 1 : Nat) : Int)] w (GivesD w (m - 1)) := fun w => small_D (m - 1) w (by omega)
      rw [txt_d c R m (by omega)]
      have hsz : (ByteArray.mk (c :: R).toArray).size = (c :: R).length := by simp [ByteArray.size]
      have hTS : TxtS u ⟨(c :: R).toArray⟩ (m : Int) := ⟨HC.nan, HC.inf, HC.sho⟩
      by_cases hR : R = []
      · subst hR
        rw [if_pos rfl]
        refine (rtext_d0 u m (m - 1) ⟨[c].toArray⟩ ⟨[c].toArray⟩ ⟨([] : List UInt8).toArray⟩ ⟨(Lib.decDigits (m - 1)).toArray⟩ ⟨([c] ++ [46]).toArray⟩ ⟨([c] ++ [46] ++ [48]).toArray⟩ ⟨([c] ++ [46] ++ [48] ++ [69]).toArray⟩ ⟨([c] ++ [46] ++ [48] ++ [69] ++ Lib.decDigits (m - 1)).toArray⟩
          (by omega) (by omega) (by omega) (by omega) (by rw [hsz]; simp) (by rw [hsz]; simp) (bytes_take [c] 1) (by rw [hsz]; exact bytes_drop [c] 1)
          (cat4 _ _ (by simp) (by simp)) (cat4 _ _ (by simp) (by simp)) (cat4 _ _ (by simp) (by simp)) (cat4 _ _ (by simp) (by omega)) (by rw [Lib.toList_data]; rfl) s0 z0 hTS hsm hdg w).mono ?_
        rintro e w' ⟨rfl, hb⟩
        exact ⟨by simp, hb⟩
      · rw [if_neg hR]
        refine (rtext_d1 u m (m - 1) ⟨(c :: R).toArray⟩ ⟨[c].toArray⟩ ⟨R.toArray⟩ ⟨(Lib.decDigits (m - 1)).toArray⟩ ⟨([c] ++ [46]).toArray⟩ ⟨([c] ++ [46] ++ R).toArray⟩ ⟨([c] ++ [46] ++ R ++ [69]).toArray⟩ ⟨([c] ++ [46] ++ R ++ [69] ++ Lib.decDigits (m - 1)).toArray⟩
          (by omega) (by omega) (by omega) (by omega) (by rw [hsz]; simp) (by rw [hsz]; simp; omega) (bytes_take (c :: R) 1) (by rw [hsz]; exact bytes_drop (c :: R) 1)
          (cat4 _ _ (by simp) (by simp)) (cat4 _ _ (by simp) (by omega)) (cat4 _ _ (by simp; omega) (by simp)) (cat4 _ _ (by simp; omega) (by omega)) (by rw [Lib.toList_data]; cases R with | nil => exact absurd rfl hR | cons a b => rfl) s0 z0 hTS hsm hdg w).mono ?_
        rintro e w' ⟨rfl, hb⟩
        exact ⟨by simp, hb⟩

/-- The text of every real. -/
def txtL (r : Nat) : List UInt8 := if r = cap then [105, 110, 102] else if r = 0 then [48, 46, 48] else txt (shT r) (shE r)
def txtU (u : Nat) : List UInt8 := if cap < rg u then [110, 97, 110] else if u < 2 ^ 63 then txtL (rg u) else 126 :: txtL (rg u)

set_option maxRecDepth 100000 in
set_option maxHeartbeats 1000000 in
theorem rtext_low (r : Nat) (hr : r ≤ cap) (w : World) : Calls Tryz.prog 8 #[.int .u64 r] w (RetT w (txtL r)) := by
  have hc : cap = 2047 * 2 ^ 52 := rfl
  have hrg : rg r = r := by unfold rg; omega
  have s0 := sgn_zero r (by omega)
  have h1 := fun w => rnan_any r (by omega) w
  have h2 := fun w => rinf_any r (by omega) w
  simp only [hrg, decide_eq_false (show ¬ cap < r by omega)] at h1 h2
  by_cases hi : r = cap
  · have e : txtL r = [105, 110, 102] := if_pos hi
    rw [e]
    simp only [decide_eq_true hi] at h2
    clear hi e hr hrg hc
    go_enter Tryz.func8, Tryz.ntmps8
    go_wp2_with (first
      | (go_at_call 13; refine (h1 _).mono ?_; rintro e w' ⟨rfl, rfl⟩)
      | (go_at_call 14; refine (h2 _).mono ?_; rintro e w' ⟨rfl, rfl⟩))
    go_ret
    exact ⟨rfl, Below.refl _ _⟩
  · by_cases hz : r = 0
    · have e : txtL r = [48, 46, 48] := by unfold txtL; rw [if_neg hi, if_pos hz]
      rw [e]
      simp only [decide_eq_false hi] at h2
      subst hz
      clear hi e hr hrg hc
      go_enter Tryz.func8, Tryz.ntmps8
      go_wp2_with (first
        | (go_at_call 13; refine (h1 _).mono ?_; rintro e w' ⟨rfl, rfl⟩)
        | (go_at_call 14; refine (h2 _).mono ?_; rintro e w' ⟨rfl, rfl⟩))
      go_ret
      exact ⟨rfl, Below.refl _ _⟩
    · have e : txtL r = txt (shT r) (shE r) := by unfold txtL; rw [if_neg hi, if_neg hz]
      rw [e]
      exact rtext_pos r (by omega) (by omega) w

theorem txt_len (T : List UInt8) (E : Int) (h1 : T.length ≤ 17) (h2 : -400 ≤ E) (h3 : E ≤ 311) : (txt T E).length ≤ 2000 := by
  unfold txt
  split
  · split
    · simp; omega
    · split
      · simp; omega
      · simp; omega
  · have d1 := decZ_small (1 - E).toNat (by omega)
    have e : ∀ k, (Lib.decDigits k).length ≤ (decZ k).length + 1 := fun k => by
      unfold decZ; split
      · rename_i h; subst h; rw [Lib.decDigits_one (by decide)]; decide
      · omega
    have := e (1 - E).toNat
    by_cases hE : E < 1
    · rw [if_pos hE]; simp; split <;> simp <;> omega
    · rw [if_neg hE]; have := decZ_small (E.toNat - 1) (by omega); have := e (E.toNat - 1); simp; split <;> simp <;> omega

theorem txtL_len (r : Nat) (hr : r ≤ cap) : (txtL r).length ≤ 2000 := by
  unfold txtL
  split
  · decide
  · split
    · decide
    · obtain ⟨_, f2, f3, f4, _⟩ := sh_facts r (by omega) (by omega)
      exact txt_len _ _ f2 f3 f4

set_option maxRecDepth 100000 in
set_option maxHeartbeats 1000000 in
theorem rtext_any (u : Nat) (hu : u < 2 ^ 64) (w : World) : Calls Tryz.prog 8 #[.int .u64 u] w (RetT w (txtU u)) := by
  have hc : cap = 2047 * 2 ^ 52 := rfl
  have h1 := fun w => rnan_any u hu w
  by_cases hn : cap < rg u
  · have e : txtU u = [110, 97, 110] := if_pos hn
    rw [e]
    simp only [decide_eq_true hn] at h1
    clear hn e hc hu
    go_enter Tryz.func8, Tryz.ntmps8
    go_wp2_with (go_at_call 13; refine (h1 _).mono ?_; rintro e w' ⟨rfl, rfl⟩)
    go_ret
    exact ⟨rfl, Below.refl _ _⟩
  by_cases hs : u < 2 ^ 63
  · have e : txtU u = txtL u := by
      unfold txtU
      rw [if_neg hn, if_pos hs, show rg u = u by unfold rg; omega]
    rw [e]
    exact rtext_low u (by unfold rg at hn; omega) w
  · have e : txtU u = 126 :: txtL (rg u) := by unfold txtU; rw [if_neg hn, if_neg hs]
    rw [e]
    have b1 : bits .and .u64 (u : Int) 9223372036854775808 = 9223372036854775808 := by
      rw [bits_sign u hu]; unfold sgnN; rw [if_neg hs]; rfl
    have b2 : bits .xor .u64 (u : Int) 9223372036854775808 = ((rg u : Nat) : Int) := by
      rw [bits_turn u hu]; unfold turnN rg; rw [if_neg hs]; omega
    have h2 := fun w => rtext_low (rg u) (by omega) w
    have hl := txtL_len (rg u) (by omega)
    simp only [decide_eq_false hn] at h1
    clear hn e hc hu hs
    have H2 := Lib.hid h2
    clear h2
    generalize txtL (rg u) = T at *
    generalize rg u = r at *
    go_enter Tryz.func8, Tryz.ntmps8
    go_wp2_with (first
      | (go_at_call 13; refine (h1 _).mono ?_; rintro e w' ⟨rfl, rfl⟩)
      | (go_at_call 8; refine (H2.out _).mono ?_; rintro e w1 ⟨rfl, hb1⟩; have HB1 := Lib.hid hb1; clear hb1))
    go_ret
    refine ⟨retS (s := _) ?_, HB1.out⟩
    apply ByteArray.ext
    simp
end Go.Proofs.YtijncfidjjfmiaaGreatDoor
