/- Cps: has a primitive's node what its primitive wants: both ways. -/
import Derived.Test.YtikkmalhdidhaaaGreatDoorCpsVp
import Derived.BigQuiet
namespace Go.Proofs.YtikkmalhdidhaaaGreatDoor
open Go.RowKit LamM CpsM

theorem wants_no {p : Pr} (h : p.raises.length = 0) : wantsOf ⟨p.args, p.raises⟩ = p.args + 1 := by
  show p.args + 1 + (if p.raises.length = 0 then 0 else 1) = _
  rw [if_pos h]; omega
theorem wants_yes {p : Pr} (h : p.raises.length ≠ 0) : wantsOf ⟨p.args, p.raises⟩ = p.args + 1 + 1 := by
  show p.args + 1 + (if p.raises.length = 0 then 0 else 1) = _
  rw [if_neg h]

set_option maxRecDepth 100000 in
set_option maxHeartbeats 2000000 in
theorem cprim_any (t : Fl) (vv kv av pv : Value) (w : World) (hP : PV w w.heap.size pv primTab) (hT : FV w w.heap.size t vv kv av) :
    Calls Tryz.prog 23 #[.agg (flVals t vv kv av).toArray, pv] w fun e w' => e = .returned (.bool (primOkC prims t)) ∧ Below w.heap.size w w' := by
  obtain ⟨PA, pc, hpe, hpc1, hpc2⟩ := hP.len
  rw [primTab_len] at hpe
  subst hpe
  obtain ⟨AA, ac, rfl, ha1, ha2⟩ := hT.a.len
  have la := hT.la
  obtain ⟨W, hW⟩ : ∃ W, w.alloc (BoxF t vv kv (.slice AA t.args.length ac)) = W := ⟨_, rfl⟩
  have hbw : Below w.heap.size w W := by rw [← hW]; exact (Below.refl _ _).alloc (Nat.le_refl _) _
  have HB := Lib.hid hbw
  have HPW := Lib.hid (hP.below hbw)
  have HX := Lib.hid (show Blk W w.heap.size 40 #[.int .i64 t.k, .int .i64 t.n, .int .i64 t.m, .int .i64 t.i, .int .u64 t.b, .string ⟨t.t.toArray⟩, vv, kv, .slice AA t.args.length ac] by rw [← hW]; exact Blk.new _ _ _)
  have c2 : W.cell? ⟨w.heap.size, 2, none⟩ = some (.int .i64 t.m) := HX.out.cell 2
  have c8 : W.cell? ⟨w.heap.size, 8, none⟩ = some (.slice AA t.args.length ac) := HX.out.cell 8
  unfold BoxF at hW
  unfold flVals
  obtain ⟨R, hR⟩ : ∃ R, primOkC prims t = R := ⟨_, rfl⟩
  rw [hR]
  clear hP hT hbw
  by_cases m0 : t.m < 0
  · have r0 := decide_eq_true m0
    obtain rfl : R = false := by rw [← hR]; exact primC_low m0
    clear hR m0
    go_enter Tryz.func23, Tryz.ntmps23
    go_wp2_with fail
    go_ret
    exact ⟨rfl, HB.out⟩
  · have r0 := decide_eq_false m0
    by_cases m61 : 61 ≤ t.m
    · have r1 := decide_eq_true m61
      obtain rfl : R = false := by rw [← hR]; exact primC_high m61
      clear hR m0 m61
      go_enter Tryz.func23, Tryz.ntmps23
      go_wp2_with fail
      go_ret
      exact ⟨rfl, HB.out⟩
    · have r1 := decide_eq_false m61
      obtain ⟨y, hy⟩ : ∃ y : Nat, t.m = (y : Int) := ⟨t.m.toNat, by omega⟩
      obtain ⟨p, hpt⟩ : ∃ p, primTab[y]? = some p := ⟨_, List.getElem?_eq_getElem (by rw [primTab_len]; omega)⟩
      obtain ⟨ty, rv, _, hrv, _, _, ca, _, cr⟩ := HPW.out.at_ hpt
      replace ca := spell9 (j := 1) ca
      replace cr := spell9 (j := 3) cr
      obtain ⟨RA, rc, rfl, hr1, hr2⟩ := hrv.len
      obtain ⟨hs1, hs2, hs3⟩ := args_small p (List.mem_of_getElem? hpt)
      have hpo := primC_at hy hpt
      rw [hR] at hpo
      have hy0 : (y : Int) < 61 := by omega
      have hy1 : (0 : Int) ≤ (y : Int) := by omega
      rw [hy] at c2 r0 r1
      rw [hy] at hW
      have hw0 := wants_no (p := p)
      have hw1 := wants_yes (p := p)
      clear hpt hrv
      generalize p.raises.length = rl at *
      rcases rl with _ | rl
      · rw [hw0 rfl] at hpo
        clear hw0 hw1
        by_cases he : (t.args.length : Int) = p.args + 1
        · have q2 := b_true he
          have HE := Lib.hid q2
          obtain rfl : R = true := by rw [hpo]; exact decide_eq_true he
          clear hR hpo he m0 m61
          go_enter Tryz.func23, Tryz.ntmps23
          go_wp2_with fail
          go_ret
          first | exact ⟨rfl, HB.out⟩ | exact ⟨by rw [HE.out]; rfl, HB.out⟩
        · have q2 := b_false he
          have HE := Lib.hid q2
          obtain rfl : R = false := by rw [hpo]; exact decide_eq_false he
          clear hR hpo he m0 m61
          go_enter Tryz.func23, Tryz.ntmps23
          go_wp2_with fail
          go_ret
          first | exact ⟨rfl, HB.out⟩ | exact ⟨by rw [HE.out]; rfl, HB.out⟩
      · rw [hw1 (by omega)] at hpo
        clear hw0 hw1
        have q : (0 : Int) < (rl : Int) + 1 := by omega
        by_cases he : (t.args.length : Int) = p.args + 1 + 1
        · have q2 := b_true he
          have HE := Lib.hid q2
          obtain rfl : R = true := by rw [hpo]; exact decide_eq_true he
          clear hR hpo he m0 m61
          go_enter Tryz.func23, Tryz.ntmps23
          go_wp2_with fail
          go_ret
          first | exact ⟨rfl, HB.out⟩ | exact ⟨by rw [HE.out]; rfl, HB.out⟩
        · have q2 := b_false he
          have HE := Lib.hid q2
          obtain rfl : R = false := by rw [hpo]; exact decide_eq_false he
          clear hR hpo he m0 m61
          go_enter Tryz.func23, Tryz.ntmps23
          go_wp2_with fail
          go_ret
          first | exact ⟨rfl, HB.out⟩ | exact ⟨by rw [HE.out]; rfl, HB.out⟩

set_option maxRecDepth 100000 in
set_option maxHeartbeats 2000000 in
theorem sprim_any (t : Fl) (vl : Value) (vv kv av pv : Value) (w : World) (hP : PV w w.heap.size pv primTab) (hT : FV w w.heap.size t vv kv av) :
    Calls Tryz.prog 26 #[vl, .agg (flVals t vv kv av).toArray, pv] w fun e w' => e = .returned (.bool (primOkC prims t)) ∧ Below w.heap.size w w' := by
  obtain ⟨PA, pc, hpe, hpc1, hpc2⟩ := hP.len
  rw [primTab_len] at hpe
  subst hpe
  obtain ⟨AA, ac, rfl, ha1, ha2⟩ := hT.a.len
  have la := hT.la
  obtain ⟨W, hW⟩ : ∃ W, w.alloc (BoxF t vv kv (.slice AA t.args.length ac)) = W := ⟨_, rfl⟩
  have hbw : Below w.heap.size w W := by rw [← hW]; exact (Below.refl _ _).alloc (Nat.le_refl _) _
  have HB := Lib.hid hbw
  have HPW := Lib.hid (hP.below hbw)
  have HX := Lib.hid (show Blk W w.heap.size 40 #[.int .i64 t.k, .int .i64 t.n, .int .i64 t.m, .int .i64 t.i, .int .u64 t.b, .string ⟨t.t.toArray⟩, vv, kv, .slice AA t.args.length ac] by rw [← hW]; exact Blk.new _ _ _)
  have c2 : W.cell? ⟨w.heap.size, 2, none⟩ = some (.int .i64 t.m) := HX.out.cell 2
  have c8 : W.cell? ⟨w.heap.size, 8, none⟩ = some (.slice AA t.args.length ac) := HX.out.cell 8
  unfold BoxF at hW
  unfold flVals
  obtain ⟨R, hR⟩ : ∃ R, primOkC prims t = R := ⟨_, rfl⟩
  rw [hR]
  clear hP hT hbw
  by_cases m0 : t.m < 0
  · have r0 := decide_eq_true m0
    obtain rfl : R = false := by rw [← hR]; exact primC_low m0
    clear hR m0
    go_enter Tryz.func26, Tryz.ntmps26
    go_wp2_with fail
    go_ret
    exact ⟨rfl, HB.out⟩
  · have r0 := decide_eq_false m0
    by_cases m61 : 61 ≤ t.m
    · have r1 := decide_eq_true m61
      obtain rfl : R = false := by rw [← hR]; exact primC_high m61
      clear hR m0 m61
      go_enter Tryz.func26, Tryz.ntmps26
      go_wp2_with fail
      go_ret
      exact ⟨rfl, HB.out⟩
    · have r1 := decide_eq_false m61
      obtain ⟨y, hy⟩ : ∃ y : Nat, t.m = (y : Int) := ⟨t.m.toNat, by omega⟩
      obtain ⟨p, hpt⟩ : ∃ p, primTab[y]? = some p := ⟨_, List.getElem?_eq_getElem (by rw [primTab_len]; omega)⟩
      obtain ⟨ty, rv, _, hrv, _, _, ca, _, cr⟩ := HPW.out.at_ hpt
      replace ca := spell9 (j := 1) ca
      replace cr := spell9 (j := 3) cr
      obtain ⟨RA, rc, rfl, hr1, hr2⟩ := hrv.len
      obtain ⟨hs1, hs2, hs3⟩ := args_small p (List.mem_of_getElem? hpt)
      have hpo := primC_at hy hpt
      rw [hR] at hpo
      have hy0 : (y : Int) < 61 := by omega
      have hy1 : (0 : Int) ≤ (y : Int) := by omega
      rw [hy] at c2 r0 r1
      rw [hy] at hW
      have hw0 := wants_no (p := p)
      have hw1 := wants_yes (p := p)
      clear hpt hrv
      generalize p.raises.length = rl at *
      rcases rl with _ | rl
      · rw [hw0 rfl] at hpo
        clear hw0 hw1
        by_cases he : (t.args.length : Int) = p.args + 1
        · have q2 := b_true he
          have HE := Lib.hid q2
          obtain rfl : R = true := by rw [hpo]; exact decide_eq_true he
          clear hR hpo he m0 m61
          go_enter Tryz.func26, Tryz.ntmps26
          go_wp2_with fail
          go_ret
          first | exact ⟨rfl, HB.out⟩ | exact ⟨by rw [HE.out]; rfl, HB.out⟩
        · have q2 := b_false he
          have HE := Lib.hid q2
          obtain rfl : R = false := by rw [hpo]; exact decide_eq_false he
          clear hR hpo he m0 m61
          go_enter Tryz.func26, Tryz.ntmps26
          go_wp2_with fail
          go_ret
          first | exact ⟨rfl, HB.out⟩ | exact ⟨by rw [HE.out]; rfl, HB.out⟩
      · rw [hw1 (by omega)] at hpo
        clear hw0 hw1
        have q : (0 : Int) < (rl : Int) + 1 := by omega
        by_cases he : (t.args.length : Int) = p.args + 1 + 1
        · have q2 := b_true he
          have HE := Lib.hid q2
          obtain rfl : R = true := by rw [hpo]; exact decide_eq_true he
          clear hR hpo he m0 m61
          go_enter Tryz.func26, Tryz.ntmps26
          go_wp2_with fail
          go_ret
          first | exact ⟨rfl, HB.out⟩ | exact ⟨by rw [HE.out]; rfl, HB.out⟩
        · have q2 := b_false he
          have HE := Lib.hid q2
          obtain rfl : R = false := by rw [hpo]; exact decide_eq_false he
          clear hR hpo he m0 m61
          go_enter Tryz.func26, Tryz.ntmps26
          go_wp2_with fail
          go_ret
          first | exact ⟨rfl, HB.out⟩ | exact ⟨by rw [HE.out]; rfl, HB.out⟩
end Go.Proofs.YtikkmalhdidhaaaGreatDoor
