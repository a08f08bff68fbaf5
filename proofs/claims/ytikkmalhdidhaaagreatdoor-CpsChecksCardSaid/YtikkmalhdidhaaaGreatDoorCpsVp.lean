/- Cps, plain: what Check tells, step by step. -/
import Derived.Test.YtikkmalhdidhaaaGreatDoorCpsBi
import Derived.Test.YtikkmalhdidhaaaGreatDoorLamRW
namespace CpsM
open LamM
def freeResC (L : List Fl) (root : Int) : List Int := if root < 0 ∨ (L.length : Int) ≤ root then [] else freeOfC L root.toNat
theorem freeResC_in {L : List Fl} {r : Nat} (h : r < L.length) : freeResC L (r : Int) = freeOfC L r := by
  unfold freeResC; rw [if_neg (by omega), Int.toNat_natCast]
theorem freeResC_out {L : List Fl} {root : Int} (h : root < 0 ∨ (L.length : Int) ≤ root) : freeResC L root = [] := if_pos h
theorem ckC_out {L : List Fl} {root : Int} (h : root < 0 ∨ (L.length : Int) ≤ root) : checkC prims L root = 130 := if_pos h
theorem ckC_in {L : List Fl} {r : Nat} {t : Fl} (h : L[r]? = some t) : checkC prims L (r : Int) = if moveB t.k = false then 130 else if (below (tms L) r).2 = false then 130
    else if allC (formedP prims L) (below (tms L) r).1 L (r + 1) = false then 130 else if allC (fitsC prims) (below (tms L) r).1 L (r + 1) = false then 112
    else if 262144 < L.length then 3 else if freeOfC L r = [] then 0 else 111 := by
  have hr := (List.getElem?_eq_some_iff.1 h).1
  unfold checkC
  rw [if_neg (by omega), kindC_at (by rw [Int.toNat_natCast]; exact h), Int.toNat_natCast]
  rfl
theorem all_skip {P : Fl → Bool} {inb : Nat → Bool} {L : List Fl} {i : Nat} (h : inb i = false) : allC P inb L (i + 1) = allC P inb L i := by
  show (allC P inb L i && (!inb i || _)) = _
  rw [h]; simp
theorem all_made {P : Fl → Bool} {inb : Nat → Bool} {L : List Fl} {i : Nat} {t : Fl} (h : inb i = true) (ht : L[i]? = some t) : allC P inb L (i + 1) = (allC P inb L i && P t) := by
  show (allC P inb L i && (!inb i || _)) = _
  rw [h, ht]; simp
theorem primC_low {t : Fl} (h : t.m < 0) : primOkC prims t = false := by unfold primOkC; rw [decide_eq_false (by omega)]; rfl
theorem primC_high {t : Fl} (h : 61 ≤ t.m) : primOkC prims t = false := by
  unfold primOkC
  rw [List.getElem?_eq_none (by rw [prims_len]; omega), Bool.and_false]
theorem primC_at {t : Fl} {y : Nat} {p : Pr} (h : t.m = (y : Int)) (hp : primTab[y]? = some p) : primOkC prims t = decide ((t.args.length : Int) = wantsOf ⟨p.args, p.raises⟩) := by
  unfold primOkC
  rw [decide_eq_true (by omega), h, Int.toNat_natCast, show prims[y]? = some ⟨p.args, p.raises⟩ by unfold prims; rw [List.getElem?_map, hp]; rfl, Bool.true_and]
theorem args_small : ∀ p ∈ primTab, 0 ≤ p.args ∧ p.args ≤ 10 ∧ p.raises.length ≤ 10 := by decide
end CpsM
