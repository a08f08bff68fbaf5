/- The reference's ToInt, whole. -/
import Derived.Test.YtceoapkkmgllaaaGreatDoorFloAmtS
namespace FloM
open Ieee
theorem bl_of_not_big {M : Nat} {P : Int} (h : wBig M P = false) : (bl M : Int) + P ≤ 63 := by unfold wBig at h; simpa using h
theorem wN_le {M : Nat} {P : Int} (hM : M < 2 ^ 53) (h : wBig M P = false) : wN M P ≤ 9223372036854775806 := by
  have h1 := bl_of_not_big h
  have h2 := lt_bl M
  unfold wN
  split
  · next h3 =>
    obtain ⟨k, hk⟩ : ∃ k : Nat, P.toNat = k := ⟨_, rfl⟩
    rw [hk]
    rcases k with _ | k
    · omega
    · have h4 : M * 2 ^ (k + 1) < 2 ^ 63 := by
        calc M * 2 ^ (k + 1) < 2 ^ bl M * 2 ^ (k + 1) := (Nat.mul_lt_mul_right (Nat.two_pow_pos _)).2 h2
          _ = 2 ^ (bl M + (k + 1)) := (Nat.pow_add _ _ _).symm
          _ ≤ 2 ^ 63 := Nat.pow_le_pow_right (by decide) (by omega)
      rw [Nat.pow_succ, ← Nat.mul_assoc] at h4 ⊢
      omega
  · have := Nat.div_le_self M (2 ^ (-P).toNat)
    omega
theorem wH_int {M : Nat} {P : Int} (h : 0 ≤ P) : wH M P = -1 := by
  unfold wH wR; rw [if_pos h, if_pos rfl]
end FloM
namespace Go.Proofs.YtceoapkkmgllaaaGreatDoor
open Go.RowKit FloM

theorem whole_any (u : Nat) (hu : u < 2 ^ 64) (s : Bool) (hb : wBig (mg (rg u)) (pp u) = false) : WholeC s (mg (rg u)) (pp u) (wN (mg (rg u)) (pp u)) (wH (mg (rg u)) (pp u)) true := by
  intro va w ha
  have p := pp_bd u
  have p2 := p.2 hu
  by_cases h : 0 ≤ pp u
  · rw [wH_int h]
    exact whole_int s va _ _ w (mg_nd u) h (by omega) hb ha
  · exact whole_frac s va _ _ w (mg_nd u) p.1 (by omega) hb ha

theorem wUp_upW (way : Ieee.Toward) (s : Bool) (n : Nat) (h : Int) : upW way s (h == 2) (h == 1) (((n : Int) % 2) == 1) = wUp way s n h := by
  have e : (((n : Int) % 2) == 1) = decide (n % 2 = 1) := by
    rw [Bool.eq_iff_iff, beq_iff_eq, decide_eq_true_eq]; omega
  cases way
  · unfold upW wUp
    rw [e]
    have e1 : (h == 2) = decide (h = 2) := by rw [Bool.eq_iff_iff, beq_iff_eq, decide_eq_true_eq]
    have e2 : (h == 1) = decide (h = 1) := by rw [Bool.eq_iff_iff, beq_iff_eq, decide_eq_true_eq]
    rw [e1, e2]
  · rfl
  · rfl
  · rfl

theorem rto_any (way : Ieee.Toward) (u : Nat) (hu : u < 2 ^ 64) (w : World) : Calls Tryz.prog 51 #[.int .u64 u, .int .i64 (wayI way)] w (Ret2I w (toI way u)) := by
  rw [← rTo_eq]
  by_cases h1 : cap < rg u
  · have e : rTo way u = (0, 20) := if_pos h1
    rw [e]
    exact rto_nan u _ w (nanC hu (decide_eq_true h1))
  have n1 := nanC hu (decide_eq_false h1)
  by_cases h2 : rg u = cap
  · have e : rTo way u = (0, 10) := by unfold rTo; rw [if_neg h1, if_pos h2]
    rw [e]
    exact rto_inf u _ w n1 (infC hu (decide_eq_true h2))
  have i1 := infC hu (decide_eq_false h2)
  have o : OfC u (sgn u) (mg (rg u)) (pp u) := fun w => rof_any u hu w
  have p := pp_bd u
  have p2 := p.2 hu
  cases hb : wBig (mg (rg u)) (pp u) with
  | true =>
    have e : rTo way u = (0, 10) := by unfold rTo; rw [if_neg h1, if_neg h2, if_pos hb]
    rw [e]
    refine rto_big u _ _ _ _ w n1 i1 o fun va w ha => whole_big _ va _ _ w (mg_nd u) p.1 (by omega) ?_ ha
    unfold wBig at hb; simpa using hb
  | false =>
    have wh := whole_any u hu (sgn u) hb
    have hn := wN_le (mg_lt (rg u)) hb
    have hmm : ((wK way (sgn u) (mg (rg u)) (pp u) : Nat) : Int) = if (decide (0 ≤ wH (mg (rg u)) (pp u)) && upW way (sgn u) (wH (mg (rg u)) (pp u) == 2) (wH (mg (rg u)) (pp u) == 1) (((wN (mg (rg u)) (pp u) : Nat) : Int) % 2 == 1)) = true then ((wN (mg (rg u)) (pp u) : Nat) : Int) + 1 else ((wN (mg (rg u)) (pp u) : Nat) : Int) := by
      rw [wUp_upW]
      unfold wK
      simp only [Bool.and_eq_true, decide_eq_true_eq]
      split <;> omega
    have hr : rTo way u = if sgn u = true ∧ wK way (sgn u) (mg (rg u)) (pp u) ≤ 2 ^ 62 then (-(wK way (sgn u) (mg (rg u)) (pp u) : Int), 0)
        else if sgn u = false ∧ wK way (sgn u) (mg (rg u)) (pp u) < 2 ^ 62 then ((wK way (sgn u) (mg (rg u)) (pp u) : Int), 0) else (0, 10) := by
      unfold rTo; rw [if_neg h1, if_neg h2, if_neg (by rw [hb]; decide)]
    rw [hr]
    have e62 : (2 : Nat) ^ 62 = 4611686018427387904 := by decide
    rw [e62]
    clear hr hb p p2
    generalize mg (rg u) = M at *
    generalize pp u = P at *
    generalize wN M P = n at *
    generalize wH M P = h at *
    generalize wK way (sgn u) M P = m at *
    cases hs : sgn u with
    | true =>
      rw [hs] at o wh hmm
      refine rto_finT way _ _ _ _ (decide ((m : Int) ≤ 4611686018427387904)) u M n m P h _ w rfl rfl rfl rfl (by omega) hmm (fun h => of_decide_eq_true h) (fun h => h) ?_ n1 i1 o wh
      by_cases hc : m ≤ 4611686018427387904
      · rw [if_pos ⟨rfl, hc⟩, decide_eq_true (by omega)]; rfl
      · rw [if_neg (fun h => hc h.2), if_neg (fun h => by cases h.1), decide_eq_false (by omega)]; rfl
    | false =>
      rw [hs] at o wh hmm
      refine rto_finF way _ _ _ _ (decide ((m : Int) < 4611686018427387904)) u M n m P h _ w rfl rfl rfl rfl (by omega) hmm (fun h => of_decide_eq_true h) (fun h => h) ?_ n1 i1 o wh
      by_cases hc : m < 4611686018427387904
      · rw [if_neg (fun h => by cases h.1), if_pos ⟨rfl, hc⟩, decide_eq_true (by omega)]; rfl
      · rw [if_neg (fun h => by cases h.1), if_neg (fun h => hc h.2), decide_eq_false (by omega)]; rfl
end Go.Proofs.YtceoapkkmgllaaaGreatDoor
