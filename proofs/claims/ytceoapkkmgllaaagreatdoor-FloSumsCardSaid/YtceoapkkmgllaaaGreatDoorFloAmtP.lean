/- The reference's Add and Sub. -/
import Derived.Test.YtceoapkkmgllaaaGreatDoorFloAmtO
namespace FloM
open Ieee
theorem add_nan {u v : Nat} (h : cap < rg u ∨ cap < rg v) : double.add u v = none := by
  unfold Format.add
  rcases h with h | h
  · rw [read_nan h]; cases double.read v <;> rfl
  · rw [read_nan h]; cases double.read u <;> rfl
theorem add_inf_inf {u v : Nat} (hu : u < 2 ^ 64) (hv : v < 2 ^ 64) (h : rg u = cap) (h2 : rg v = cap) : double.add u v = if u = v then some u else none := by
  unfold Format.add
  rw [read_inf h, read_inf h2]
  have e1 := wd_eq hu
  have e2 := wd_eq hv
  rw [h] at e1
  rw [h2] at e2
  by_cases hs : sgn u = sgn v
  · have : u = v := by rw [← e1, ← e2, hs]
    subst this
    simp only [Datum.sum, if_true, Option.map_some, Format.write, infRung_cap, word_wd, e1]
  · have : u ≠ v := fun e => hs (by rw [e])
    rw [if_neg this]
    simp only [Datum.sum, if_neg hs, Option.map_none]
theorem add_inf_l {u v : Nat} (hu : u < 2 ^ 64) (h : rg u = cap) (h2 : rg v < cap) : double.add u v = some u := by
  unfold Format.add
  have e1 := wd_eq hu
  rw [h] at e1
  rw [read_inf h, read_num h2]
  simp only [Datum.sum, Option.map_some, Format.write, infRung_cap, word_wd, e1]
theorem add_inf_r {u v : Nat} (hv : v < 2 ^ 64) (h : rg v = cap) (h2 : rg u < cap) : double.add u v = some v := by
  rw [add_comm]; exact add_inf_l hv h h2
theorem add_zeros {u v : Nat} (hu : u < 2 ^ 64) (hv : v < 2 ^ 64) (h : rg u = 0) (h2 : rg v = 0) : double.add u v = some (u &&& v) := by
  have h0 : (0 : Nat) < cap := by decide
  rw [add_fin (by omega) (by omega)]
  have s1 : sv u = 0 := by unfold sv; rw [h, val_zero]; split <;> rfl
  have s2 : sv v = 0 := by unfold sv; rw [h2, val_zero]; split <;> rfl
  rw [s1, s2, Int.add_zero, if_pos rfl]
  have e1 := wd_eq hu
  have e2 := wd_eq hv
  rw [h] at e1
  rw [h2] at e2
  have r0 : rq (0 : Int).natAbs 1 = 0 := rq_zero 1
  rw [r0]
  refine congrArg some ?_
  have hs0 : ∀ b : Bool, sgn (wd b 0) = b := fun b => sgn_wd b 0 (by decide)
  generalize sgn u = s at *
  generalize sgn v = t at *
  rw [← e1, ← e2]
  have hw0 : wd false 0 = 0 := rfl
  cases s <;> cases t
  · rw [hw0, Nat.zero_and]; rfl
  · rw [hw0, Nat.zero_and]; rfl
  · rw [hw0, Nat.and_zero]; rfl
  · rw [Nat.and_self]; rfl
theorem sub_add (u v : Nat) (hv : v < 2 ^ 64) : double.sub u v = double.add u (if cap < rg v then 9221120237041090560 else (if v < 2 ^ 63 then 2 ^ 63 + v else v - 2 ^ 63)) := by
  by_cases h : cap < rg v
  · rw [if_pos h, add_nan (.inr (by decide))]
    unfold Format.sub
    rw [read_nan h]
    cases double.read u <;> rfl
  · rw [if_neg h]
    have hr : rg (if v < 2 ^ 63 then 2 ^ 63 + v else v - 2 ^ 63) = rg v := by unfold rg; split <;> omega
    have hs : sgn (if v < 2 ^ 63 then 2 ^ 63 + v else v - 2 ^ 63) = !sgn v := by
      unfold sgn
      split
      · next h => rw [Nat.div_eq_of_lt h, show (2 ^ 63 + v) / 2 ^ 63 = 1 by omega]; rfl
      · next h => rw [show v / 2 ^ 63 = 1 by omega, Nat.div_eq_of_lt (by omega)]; rfl
    generalize (if v < 2 ^ 63 then 2 ^ 63 + v else v - 2 ^ 63) = t at *
    unfold Format.sub Format.add
    congr 2
    rcases Nat.lt_or_ge (rg v) cap with h1 | h1
    · rw [read_num h1, read_num (show rg t < cap by omega), hr, hs]; rfl
    · rw [read_inf (show rg v = cap by omega), read_inf (show rg t = cap by omega), hs]; rfl
end FloM
