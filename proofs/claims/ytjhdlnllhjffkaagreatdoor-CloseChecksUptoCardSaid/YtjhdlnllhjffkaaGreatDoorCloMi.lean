/- Cps, plain: what Check tells, step by step. Cps: has a primitive's node what its primitive wants: both ways. -/
import Derived.Test.YtjhdlnllhjffkaaGreatDoorCloMf
import Derived.Test.YtjhdlnllhjffkaaGreatDoorLamRW
import Derived.BigQuiet
namespace CpsM
open LamM
def freeResC (L : List Fl) (root : Int) : List Int := if root < 0 ∨ (L.length : Int) ≤ root then [] else freeOfC L root.toNat
theorem freeResC_in {L : List Fl} {r : Nat} (h : r < L.length) : freeResC L (r : Int) = freeOfC L r := by
  unfold freeResC; rw [if_neg (by omega), Int.toNat_natCast]
theorem freeResC_out {L : List Fl} {root : Int} (h : root < 0 ∨ (L.length : Int) ≤ root) : freeResC L root = [] := if_pos h
theorem ckC_out {L : List Fl} {root : Int} (h : root < 0 ∨ (L.length : Int) ≤ root) : checkC prims L root = 130 := if_pos h
theorem ckC_in {L : List Fl} {r : Nat} {t : Fl} (h : L[r]? = some t) : checkC prims L (r : Int) = if moveB t.k = false then 130 else if (below (tms L) r).2 = false then 130
    else if allC (formedP prims L) (below (tms L) r).1 L (r + 1) = false then 130 else if allC (fitsC prims) (below (tms L) r).1 L (r + 1) = false then 112
    else if 262144 < L.length then 3 else if freeOfC L r = [] then 0 else 111 := by
  have hr := (List.getElem?_eq_some_iff.1 h).1
  unfold checkC
  rw [if_neg (by omega), kindC_at (by rw [Int.toNat_natCast]; exact h), Int.toNat_natCast]
  rfl
theorem all_skip {P : Fl → Bool} {inb : Nat → Bool} {L : List Fl} {i : Nat} (h : inb i = false) : allC P inb L (i + 1) = allC P inb L i := by
  show (allC P inb L i && (!inb i || _)) = _
  rw [h]; simp
theorem all_made {P : Fl → Bool} {inb : Nat → Bool} {L : List Fl} {i : Nat} {t : Fl} (h : inb i = true) (ht : L[i]? = some t) : allC P inb L (i + 1) = (allC P inb L i && P t) := by
  show (allC P inb L i && (!inb i || _)) = _
  rw [h, ht]; simp
theorem primC_low {t : Fl} (h : t.m < 0) : primOkC prims t = false := by unfold primOkC; rw [decide_eq_false (by omega)]; rfl
theorem primC_high {t : Fl} (h : 61 ≤ t.m) : primOkC prims t = false := by
  unfold primOkC
  rw [List.getElem?_eq_none (by rw [prims_len]; omega), Bool.and_false]
theorem primC_at {t : Fl} {y : Nat} {p : Pr} (h : t.m = (y : Int)) (hp : primTab[y]? = some p) : primOkC prims t = decide ((t.args.length : Int) = wantsOf ⟨p.args, p.raises⟩) := by
  unfold primOkC
  rw [decide_eq_true (by omega), h, Int.toNat_natCast, show prims[y]? = some ⟨p.args, p.raises⟩ by unfold prims; rw [List.getElem?_map, hp]; rfl, Bool.true_and]
theorem args_small : ∀ p ∈ primTab, 0 ≤ p.args ∧ p.args ≤ 10 ∧ p.raises.length ≤ 10 := by decide
end CpsM

namespace Go.Proofs.YtjhdlnllhjffkaaGreatDoor
open Go.RowKit LamM CpsM

theorem wants_no {p : Pr} (h : p.raises.length = 0) : wantsOf ⟨p.args, p.raises⟩ = p.args + 1 := by
  show p.args + 1 + (if p.raises.length = 0 then 0 else 1) = _
  rw [if_pos h]; omega
theorem wants_yes {p : Pr} (h : p.raises.length ≠ 0) : wantsOf ⟨p.args, p.raises⟩ = p.args + 1 + 1 := by
  show p.args + 1 + (if p.raises.length = 0 then 0 else 1) = _
  rw [if_neg h]

set_option maxRecDepth 100000 in
set_option maxHeartbeats 2000000 in
theorem cprim_any (t : Fl) (vv kv av pv : Value) (w : World) (hP : PV w w.heap.size pv primTab) (hT : FV w w.heap.size t vv kv av) :
    Calls Tryz.prog 11 #[.agg (flVals t vv kv av).toArray, pv] w fun e w' => e = .returned (.bool (primOkC prims t)) ∧ Below w.heap.size w w' := by
  obtain ⟨PA, pc, hpe, hpc1, hpc2⟩ := hP.len
  rw [primTab_len] at hpe
  subst hpe
  obtain ⟨AA, ac, rfl, ha1, ha2⟩ := hT.a.len
  have la := hT.la
  obtain ⟨W, hW⟩ : ∃ W, w.alloc (BoxF t vv kv (.slice AA t.args.length ac)) = W := ⟨_, rfl⟩
  have hbw : Below w.heap.size w W := by rw [← hW]; exact (Below.refl _ _).alloc (Nat.le_refl _) _
  have HB := Lib.hid hbw
  have HPW := Lib.hid (hP.below hbw)
  have HX := Lib.hid (show Blk W w.heap.size 43 #[.int .i64 t.k, .int .i64 t.n, .int .i64 t.m, .int .i64 t.i, .int .u64 t.b, .string ⟨t.t.toArray⟩, vv, kv, .slice AA t.args.length ac] by rw [← hW]; exact Blk.new _ _ _)
  have c2 : W.cell? ⟨w.heap.size, 2, none⟩ = some (.int .i64 t.m) := HX.out.cell 2
  have c8 : W.cell? ⟨w.heap.size, 8, none⟩ = some (.slice AA t.args.length ac) := HX.out.cell 8
  unfold BoxF at hW
  unfold flVals
  obtain ⟨R, hR⟩ : ∃ R, primOkC prims t = R := ⟨_, rfl⟩
  rw [hR]
  clear hP hT hbw
  by_cases m0 : t.m < 0
  · have r0 := decide_eq_true m0
    obtain rfl : R = false := by rw [← hR]; exact primC_low m0
    clear hR m0
    go_enter Tryz.func11, Tryz.ntmps11
    go_wp2_with fail
    go_ret
    exact ⟨rfl, HB.out⟩
  · have r0 := decide_eq_false m0
    by_cases m61 : 61 ≤ t.m
    · have r1 := decide_eq_true m61
      obtain rfl : R = false := by rw [← hR]; exact primC_high m61
      clear hR m0 m61
      go_enter Tryz.func11, Tryz.ntmps11
      go_wp2_with fail
      go_ret
      exact ⟨rfl, HB.out⟩
    · have r1 := decide_eq_false m61
      obtain ⟨y, hy⟩ : ∃ y : Nat, t.m = (y : Int) := ⟨t.m.toNat, by omega⟩
      obtain ⟨p, hpt⟩ : ∃ p, primTab[y]? = some p := ⟨_, List.getElem?_eq_getElem (by rw [primTab_len]; omega)⟩
      obtain ⟨ty, rv, _, hrv, _, _, ca, _, cr⟩ := HPW.out.at_ hpt
      replace ca := spell9 (j := 1) ca
      replace cr := spell9 (j := 3) cr
      obtain ⟨RA, rc, rfl, hr1, hr2⟩ := hrv.len
      obtain ⟨hs1, hs2, hs3⟩ := args_small p (List.mem_of_getElem? hpt)
      have hpo := primC_at hy hpt
      rw [hR] at hpo
      have hy0 : (y : Int) < 61 := by omega
      have hy1 : (0 : Int) ≤ (y : Int) := by omega
      rw [hy] at c2 r0 r1
      rw [hy] at hW
      have hw0 := wants_no (p := p)
      have hw1 := wants_yes (p := p)
      clear hpt hrv
      generalize p.raises.length = rl at *
      rcases rl with _ | rl
      · rw [hw0 rfl] at hpo
        clear hw0 hw1
        by_cases he : (t.args.length : Int) = p.args + 1
        · have q2 := b_true he
          have HE := Lib.hid q2
          obtain rfl : R = true := by rw [hpo]; exact decide_eq_true he
          clear hR hpo he m0 m61
          go_enter Tryz.func11, Tryz.ntmps11
          go_wp2_with fail
          go_ret
          first | exact ⟨rfl, HB.out⟩ | exact ⟨by rw [HE.out]; rfl, HB.out⟩
        · have q2 := b_false he
          have HE := Lib.hid q2
          obtain rfl : R = false := by rw [hpo]; exact decide_eq_false he
          clear hR hpo he m0 m61
          go_enter Tryz.func11, Tryz.ntmps11
          go_wp2_with fail
          go_ret
          first | exact ⟨rfl, HB.out⟩ | exact ⟨by rw [HE.out]; rfl, HB.out⟩
      · rw [hw1 (by omega)] at hpo
        clear hw0 hw1
        have q : (0 : Int) < (rl : Int) + 1 := by omega
        by_cases he : (t.args.length : Int) = p.args + 1 + 1
        · have q2 := b_true he
          have HE := Lib.hid q2
          obtain rfl : R = true := by rw [hpo]; exact decide_eq_true he
          clear hR hpo he m0 m61
          go_enter Tryz.func11, Tryz.ntmps11
          go_wp2_with fail
          go_ret
          first | exact ⟨rfl, HB.out⟩ | exact ⟨by rw [HE.out]; rfl, HB.out⟩
        · have q2 := b_false he
          have HE := Lib.hid q2
          obtain rfl : R = false := by rw [hpo]; exact decide_eq_false he
          clear hR hpo he m0 m61
          go_enter Tryz.func11, Tryz.ntmps11
          go_wp2_with fail
          go_ret
          first | exact ⟨rfl, HB.out⟩ | exact ⟨by rw [HE.out]; rfl, HB.out⟩

set_option maxRecDepth 100000 in
set_option maxHeartbeats 2000000 in
theorem sprim_any (t : Fl) (vl : Value) (vv kv av pv : Value) (w : World) (hP : PV w w.heap.size pv primTab) (hT : FV w w.heap.size t vv kv av) :
    Calls Tryz.prog 18 #[vl, .agg (flVals t vv kv av).toArray, pv] w fun e w' => e = .returned (.bool (primOkC prims t)) ∧ Below w.heap.size w w' := by
  obtain ⟨PA, pc, hpe, hpc1, hpc2⟩ := hP.len
  rw [primTab_len] at hpe
  subst hpe
  obtain ⟨AA, ac, rfl, ha1, ha2⟩ := hT.a.len
  have la := hT.la
  obtain ⟨W, hW⟩ : ∃ W, w.alloc (BoxF t vv kv (.slice AA t.args.length ac)) = W := ⟨_, rfl⟩
  have hbw : Below w.heap.size w W := by rw [← hW]; exact (Below.refl _ _).alloc (Nat.le_refl _) _
  have HB := Lib.hid hbw
  have HPW := Lib.hid (hP.below hbw)
  have HX := Lib.hid (show Blk W w.heap.size 43 #[.int .i64 t.k, .int .i64 t.n, .int .i64 t.m, .int .i64 t.i, .int .u64 t.b, .string ⟨t.t.toArray⟩, vv, kv, .slice AA t.args.length ac] by rw [← hW]; exact Blk.new _ _ _)
  have c2 : W.cell? ⟨w.heap.size, 2, none⟩ = some (.int .i64 t.m) := HX.out.cell 2
  have c8 : W.cell? ⟨w.heap.size, 8, none⟩ = some (.slice AA t.args.length ac) := HX.out.cell 8
  unfold BoxF at hW
  unfold flVals
  obtain ⟨R, hR⟩ : ∃ R, primOkC prims t = R := ⟨_, rfl⟩
  rw [hR]
  clear hP hT hbw
  by_cases m0 : t.m < 0
  · have r0 := decide_eq_true m0
    obtain rfl : R = false := by rw [← hR]; exact primC_low m0
    clear hR m0
    go_enter Tryz.func18, Tryz.ntmps18
    go_wp2_with fail
    go_ret
    exact ⟨rfl, HB.out⟩
  · have r0 := decide_eq_false m0
    by_cases m61 : 61 ≤ t.m
    · have r1 := decide_eq_true m61
      obtain rfl : R = false := by rw [← hR]; exact primC_high m61
      clear hR m0 m61
      go_enter Tryz.func18, Tryz.ntmps18
      go_wp2_with fail
      go_ret
      exact ⟨rfl, HB.out⟩
    · have r1 := decide_eq_false m61
      obtain ⟨y, hy⟩ : ∃ y : Nat, t.m = (y : Int) := ⟨t.m.toNat, by omega⟩
      obtain ⟨p, hpt⟩ : ∃ p, primTab[y]? = some p := ⟨_, List.getElem?_eq_getElem (by rw [primTab_len]; omega)⟩
      obtain ⟨ty, rv, _, hrv, _, _, ca, _, cr⟩ := HPW.out.at_ hpt
      replace ca := spell9 (j := 1) ca
      replace cr := spell9 (j := 3) cr
      obtain ⟨RA, rc, rfl, hr1, hr2⟩ := hrv.len
      obtain ⟨hs1, hs2, hs3⟩ := args_small p (List.mem_of_getElem? hpt)
      have hpo := primC_at hy hpt
      rw [hR] at hpo
      have hy0 : (y : Int) < 61 := by omega
      have hy1 : (0 : Int) ≤ (y : Int) := by omega
      rw [hy] at c2 r0 r1
      rw [hy] at hW
      have hw0 := wants_no (p := p)
      have hw1 := wants_yes (p := p)
      clear hpt hrv
      generalize p.raises.length = rl at *
      rcases rl with _ | rl
      · rw [hw0 rfl] at hpo
        clear hw0 hw1
        by_cases he : (t.args.length : Int) = p.args + 1
        · have q2 := b_true he
          have HE := Lib.hid q2
          obtain rfl : R = true := by rw [hpo]; exact decide_eq_true he
          clear hR hpo he m0 m61
          go_enter Tryz.func18, Tryz.ntmps18
          go_wp2_with fail
          go_ret
          first | exact ⟨rfl, HB.out⟩ | exact ⟨by rw [HE.out]; rfl, HB.out⟩
        · have q2 := b_false he
          have HE := Lib.hid q2
          obtain rfl : R = false := by rw [hpo]; exact decide_eq_false he
          clear hR hpo he m0 m61
          go_enter Tryz.func18, Tryz.ntmps18
          go_wp2_with fail
          go_ret
          first | exact ⟨rfl, HB.out⟩ | exact ⟨by rw [HE.out]; rfl, HB.out⟩
      · rw [hw1 (by omega)] at hpo
        clear hw0 hw1
        have q : (0 : Int) < (rl : Int) + 1 := by omega
        by_cases he : (t.args.length : Int) = p.args + 1 + 1
        · have q2 := b_true he
          have HE := Lib.hid q2
          obtain rfl : R = true := by rw [hpo]; exact decide_eq_true he
          clear hR hpo he m0 m61
          go_enter Tryz.func18, Tryz.ntmps18
          go_wp2_with fail
          go_ret
          first | exact ⟨rfl, HB.out⟩ | exact ⟨by rw [HE.out]; rfl, HB.out⟩
        · have q2 := b_false he
          have HE := Lib.hid q2
          obtain rfl : R = false := by rw [hpo]; exact decide_eq_false he
          clear hR hpo he m0 m61
          go_enter Tryz.func18, Tryz.ntmps18
          go_wp2_with fail
          go_ret
          first | exact ⟨rfl, HB.out⟩ | exact ⟨by rw [HE.out]; rfl, HB.out⟩
end Go.Proofs.YtjhdlnllhjffkaaGreatDoor
