/- Lambda: what Run defers. -/
import Derived.Test.YtmedfpejfpdpdaaGreatDoorLamALM
namespace Go.Proofs.YtmedfpejfpdpdaaGreatDoor
open Go.RowKit LamM Go.Maps

theorem anyS_step {P : Program} {md : Region.Mode} {ops : Array Oper} {Q : Exit → Act → List Frame → World → Prop} {fuel : Nat} {listed : Array Bool} {a : Act} {cs : List Frame} {w : World} {rs : List Nat} (hr : Region.ready md ops listed = rs) (hne : rs ≠ [])
    (h : ∀ i ∈ rs, opS P ops Q i (anyS P md ops Q fuel (listed.setIfInBounds i true)) a cs w) : anyS P md ops Q (fuel + 1) listed a cs w :=
  ⟨fun h0 => absurd (hr.symm.trans h0) hne, by rw [hr]; exact h⟩

set_option maxRecDepth 100000 in
set_option maxHeartbeats 8000000 in
theorem run1_ret (rb R M ob on oc : Nat) (oa : Option Addr) (dv : Value) (steps fuel : Int) (st ex oo sp : Value) (w : World) (hrb : w.cell? ⟨rb, 0, none⟩ = some (.pointer (some ⟨R, 0, none⟩))) (hR0 : w.cell? ⟨R, 0, none⟩ = some (.pointer (some ⟨M, 0, none⟩)))
    (hM : Blk w M 97 (MC (.slice oa on oc) steps fuel dv)) (hO : Blk w ob 59 #[oo, st, ex, sp]) (hMO : M ≠ ob) :
    CallsD Tryz.prog 41 #[.pointer (some ⟨rb, 0, none⟩), .pointer (some ⟨ob, 0, none⟩)] .returning w fun e u' w' => e = .returned (.tuple #[]) ∧ u' = .returning ∧ Blk w' ob 59 #[.slice oa on oc, st, ex, .int .i64 steps] ∧ Only [ob] w w' := by
  have HE := Lib.hid (ended_nil M ob on oc oa dv steps fuel oo st ex sp w.drew hM.drew hO.drew hMO)
  clear hM hO hMO
  refine callsD_of_wpS Tryz.func41 rfl fun c₀ cs hu => ?_
  apply wpS_region_any (by kernel_rfl)
  generalize hQ : (bodyPostS Tryz.prog Tryz.f41 c₀ cs fun e u' w' => e = .returned (.tuple #[]) ∧ u' = .returning ∧ Blk w' ob 59 #[.slice oa on oc, st, ex, .int .i64 steps] ∧ Only [ob] w w') = Q
  change anyS _ _ _ _ 6 (Array.replicate 6 false) { tmps := #[.pointer (some ⟨rb, 0, none⟩), .pointer (some ⟨ob, 0, none⟩), undef, undef, undef, undef, undef, undef], defers := [] } _ _
  refine anyS_step (rs := [0, 4]) (by kernel_rfl) (by simp) ?_
  intro i hi
  rcases List.mem_cons.1 hi with rfl | hi
  · simp [opS, go_sem, hrb]
    refine anyS_step (rs := [1, 4]) (by kernel_rfl) (by simp) ?_
    intro i hi
    rcases List.mem_cons.1 hi with rfl | hi
    · simp [opS, go_sem]
      refine anyS_step (rs := [2, 4]) (by kernel_rfl) (by simp) ?_
      intro i hi
      rcases List.mem_cons.1 hi with rfl | hi
      · simp [opS, go_sem]
        refine anyS_step (rs := [3, 4]) (by kernel_rfl) (by simp) ?_
        intro i hi
        rcases List.mem_cons.1 hi with rfl | hi
        · simp [opS, go_sem, hR0]
          refine anyS_step (rs := [4]) (by kernel_rfl) (by simp) ?_
          intro i hi
          obtain rfl := List.mem_singleton.1 hi
          simp [opS, go_sem, recoverD, hu]
          refine anyS_step (rs := [5]) (by kernel_rfl) (by simp) ?_
          intro i hi
          obtain rfl := List.mem_singleton.1 hi
          simp [opS, go_sem]
          refine (HE.out).mono ?_
          rintro e w' ⟨rfl, h1, h2⟩
          show anyS _ _ _ _ 0 _ _ _ _
          refine ⟨by kernel_rfl, ?_⟩
          rw [← hQ]
          exact ⟨rfl, _, (by cases c₀; simp_all), _, results_none rfl _ _ _, rfl, rfl, h1, ((Only.refl [ob] w).drew).trans h2⟩
        · obtain rfl := List.mem_singleton.1 hi
          simp [opS, go_sem, recoverD, hu]
          refine anyS_step (rs := [3]) (by kernel_rfl) (by simp) ?_
          intro i hi
          obtain rfl := List.mem_singleton.1 hi
          simp [opS, go_sem, hR0]
          refine anyS_step (rs := [5]) (by kernel_rfl) (by simp) ?_
          intro i hi
          obtain rfl := List.mem_singleton.1 hi
          simp [opS, go_sem]
          refine (HE.out).mono ?_
          rintro e w' ⟨rfl, h1, h2⟩
          show anyS _ _ _ _ 0 _ _ _ _
          refine ⟨by kernel_rfl, ?_⟩
          rw [← hQ]
          exact ⟨rfl, _, (by cases c₀; simp_all), _, results_none rfl _ _ _, rfl, rfl, h1, ((Only.refl [ob] w).drew).trans h2⟩
      · obtain rfl := List.mem_singleton.1 hi
        simp [opS, go_sem, recoverD, hu]
        refine anyS_step (rs := [2]) (by kernel_rfl) (by simp) ?_
        intro i hi
        obtain rfl := List.mem_singleton.1 hi
        simp [opS, go_sem]
        refine anyS_step (rs := [3]) (by kernel_rfl) (by simp) ?_
        intro i hi
        obtain rfl := List.mem_singleton.1 hi
        simp [opS, go_sem, hR0]
        refine anyS_step (rs := [5]) (by kernel_rfl) (by simp) ?_
        intro i hi
        obtain rfl := List.mem_singleton.1 hi
        simp [opS, go_sem]
        refine (HE.out).mono ?_
        rintro e w' ⟨rfl, h1, h2⟩
        show anyS _ _ _ _ 0 _ _ _ _
        refine ⟨by kernel_rfl, ?_⟩
        rw [← hQ]
        exact ⟨rfl, _, (by cases c₀; simp_all), _, results_none rfl _ _ _, rfl, rfl, h1, ((Only.refl [ob] w).drew).trans h2⟩
    · obtain rfl := List.mem_singleton.1 hi
      simp [opS, go_sem, recoverD, hu]
      refine anyS_step (rs := [1]) (by kernel_rfl) (by simp) ?_
      intro i hi
      obtain rfl := List.mem_singleton.1 hi
      simp [opS, go_sem]
      refine anyS_step (rs := [2]) (by kernel_rfl) (by simp) ?_
      intro i hi
      obtain rfl := List.mem_singleton.1 hi
      simp [opS, go_sem]
      refine anyS_step (rs := [3]) (by kernel_rfl) (by simp) ?_
      intro i hi
      obtain rfl := List.mem_singleton.1 hi
      simp [opS, go_sem, hR0]
      refine anyS_step (rs := [5]) (by kernel_rfl) (by simp) ?_
      intro i hi
      obtain rfl := List.mem_singleton.1 hi
      simp [opS, go_sem]
      refine (HE.out).mono ?_
      rintro e w' ⟨rfl, h1, h2⟩
      show anyS _ _ _ _ 0 _ _ _ _
      refine ⟨by kernel_rfl, ?_⟩
      rw [← hQ]
      exact ⟨rfl, _, (by cases c₀; simp_all), _, results_none rfl _ _ _, rfl, rfl, h1, ((Only.refl [ob] w).drew).trans h2⟩
  · obtain rfl := List.mem_singleton.1 hi
    simp [opS, go_sem, recoverD, hu]
    refine anyS_step (rs := [0]) (by kernel_rfl) (by simp) ?_
    intro i hi
    obtain rfl := List.mem_singleton.1 hi
    simp [opS, go_sem, hrb]
    refine anyS_step (rs := [1]) (by kernel_rfl) (by simp) ?_
    intro i hi
    obtain rfl := List.mem_singleton.1 hi
    simp [opS, go_sem]
    refine anyS_step (rs := [2]) (by kernel_rfl) (by simp) ?_
    intro i hi
    obtain rfl := List.mem_singleton.1 hi
    simp [opS, go_sem]
    refine anyS_step (rs := [3]) (by kernel_rfl) (by simp) ?_
    intro i hi
    obtain rfl := List.mem_singleton.1 hi
    simp [opS, go_sem, hR0]
    refine anyS_step (rs := [5]) (by kernel_rfl) (by simp) ?_
    intro i hi
    obtain rfl := List.mem_singleton.1 hi
    simp [opS, go_sem]
    refine (HE.out).mono ?_
    rintro e w' ⟨rfl, h1, h2⟩
    show anyS _ _ _ _ 0 _ _ _ _
    refine ⟨by kernel_rfl, ?_⟩
    rw [← hQ]
    exact ⟨rfl, _, (by cases c₀; simp_all), _, results_none rfl _ _ _, rfl, rfl, h1, ((Only.refl [ob] w).drew).trans h2⟩

set_option maxRecDepth 100000 in
set_option maxHeartbeats 8000000 in
theorem run1_pan (rb R M ob on oc : Nat) (oa : Option Addr) (dv : Value) (steps fuel : Int) (st ex oo sp : Value) (w : World) (hrb : w.cell? ⟨rb, 0, none⟩ = some (.pointer (some ⟨R, 0, none⟩))) (hR0 : w.cell? ⟨R, 0, none⟩ = some (.pointer (some ⟨M, 0, none⟩)))
    (hM : Blk w M 97 (MC (.slice oa on oc) steps fuel dv)) (hO : Blk w ob 59 #[oo, st, ex, sp]) (hMO : M ≠ ob) :
    CallsD Tryz.prog 41 #[.pointer (some ⟨rb, 0, none⟩), .pointer (some ⟨ob, 0, none⟩)] (.panicking [{ v := overV, recovered := false }]) w fun e u' w' => e = .returned (.tuple #[]) ∧ u' = .panicking [{ v := overV, recovered := true }] ∧ Blk w' ob 59 #[.slice oa on oc, .int .i64 3, .string ⟨#[]⟩, .int .i64 steps] ∧ Only [ob] w w' := by
  have HE := Lib.hid (ended_over M ob on oc oa dv steps fuel oo st ex sp w.drew hM.drew hO.drew hMO)
  clear hM hO hMO
  refine callsD_of_wpS Tryz.func41 rfl fun c₀ cs hu => ?_
  apply wpS_region_any (by kernel_rfl)
  generalize hQ : (bodyPostS Tryz.prog Tryz.f41 c₀ cs fun e u' w' => e = .returned (.tuple #[]) ∧ u' = .panicking [{ v := overV, recovered := true }] ∧ Blk w' ob 59 #[.slice oa on oc, .int .i64 3, .string ⟨#[]⟩, .int .i64 steps] ∧ Only [ob] w w') = Q
  change anyS _ _ _ _ 6 (Array.replicate 6 false) { tmps := #[.pointer (some ⟨rb, 0, none⟩), .pointer (some ⟨ob, 0, none⟩), undef, undef, undef, undef, undef, undef], defers := [] } _ _
  refine anyS_step (rs := [0, 4]) (by kernel_rfl) (by simp) ?_
  intro i hi
  rcases List.mem_cons.1 hi with rfl | hi
  · simp [opS, go_sem, hrb]
    refine anyS_step (rs := [1, 4]) (by kernel_rfl) (by simp) ?_
    intro i hi
    rcases List.mem_cons.1 hi with rfl | hi
    · simp [opS, go_sem]
      refine anyS_step (rs := [2, 4]) (by kernel_rfl) (by simp) ?_
      intro i hi
      rcases List.mem_cons.1 hi with rfl | hi
      · simp [opS, go_sem]
        refine anyS_step (rs := [3, 4]) (by kernel_rfl) (by simp) ?_
        intro i hi
        rcases List.mem_cons.1 hi with rfl | hi
        · simp [opS, go_sem, hR0]
          refine anyS_step (rs := [4]) (by kernel_rfl) (by simp) ?_
          intro i hi
          obtain rfl := List.mem_singleton.1 hi
          simp [opS, go_sem, recoverD, hu]
          refine anyS_step (rs := [5]) (by kernel_rfl) (by simp) ?_
          intro i hi
          obtain rfl := List.mem_singleton.1 hi
          simp [opS, go_sem]
          refine (HE.out).mono ?_
          rintro e w' ⟨rfl, h1, h2⟩
          show anyS _ _ _ _ 0 _ _ _ _
          refine ⟨by kernel_rfl, ?_⟩
          rw [← hQ]
          exact ⟨rfl, _, rfl, _, results_none rfl _ _ _, rfl, rfl, h1, ((Only.refl [ob] w).drew).trans h2⟩
        · obtain rfl := List.mem_singleton.1 hi
          simp [opS, go_sem, recoverD, hu]
          refine anyS_step (rs := [3]) (by kernel_rfl) (by simp) ?_
          intro i hi
          obtain rfl := List.mem_singleton.1 hi
          simp [opS, go_sem, hR0]
          refine anyS_step (rs := [5]) (by kernel_rfl) (by simp) ?_
          intro i hi
          obtain rfl := List.mem_singleton.1 hi
          simp [opS, go_sem]
          refine (HE.out).mono ?_
          rintro e w' ⟨rfl, h1, h2⟩
          show anyS _ _ _ _ 0 _ _ _ _
          refine ⟨by kernel_rfl, ?_⟩
          rw [← hQ]
          exact ⟨rfl, _, rfl, _, results_none rfl _ _ _, rfl, rfl, h1, ((Only.refl [ob] w).drew).trans h2⟩
      · obtain rfl := List.mem_singleton.1 hi
        simp [opS, go_sem, recoverD, hu]
        refine anyS_step (rs := [2]) (by kernel_rfl) (by simp) ?_
        intro i hi
        obtain rfl := List.mem_singleton.1 hi
        simp [opS, go_sem]
        refine anyS_step (rs := [3]) (by kernel_rfl) (by simp) ?_
        intro i hi
        obtain rfl := List.mem_singleton.1 hi
        simp [opS, go_sem, hR0]
        refine anyS_step (rs := [5]) (by kernel_rfl) (by simp) ?_
        intro i hi
        obtain rfl := List.mem_singleton.1 hi
        simp [opS, go_sem]
        refine (HE.out).mono ?_
        rintro e w' ⟨rfl, h1, h2⟩
        show anyS _ _ _ _ 0 _ _ _ _
        refine ⟨by kernel_rfl, ?_⟩
        rw [← hQ]
        exact ⟨rfl, _, rfl, _, results_none rfl _ _ _, rfl, rfl, h1, ((Only.refl [ob] w).drew).trans h2⟩
    · obtain rfl := List.mem_singleton.1 hi
      simp [opS, go_sem, recoverD, hu]
      refine anyS_step (rs := [1]) (by kernel_rfl) (by simp) ?_
      intro i hi
      obtain rfl := List.mem_singleton.1 hi
      simp [opS, go_sem]
      refine anyS_step (rs := [2]) (by kernel_rfl) (by simp) ?_
      intro i hi
      obtain rfl := List.mem_singleton.1 hi
      simp [opS, go_sem]
      refine anyS_step (rs := [3]) (by kernel_rfl) (by simp) ?_
      intro i hi
      obtain rfl := List.mem_singleton.1 hi
      simp [opS, go_sem, hR0]
      refine anyS_step (rs := [5]) (by kernel_rfl) (by simp) ?_
      intro i hi
      obtain rfl := List.mem_singleton.1 hi
      simp [opS, go_sem]
      refine (HE.out).mono ?_
      rintro e w' ⟨rfl, h1, h2⟩
      show anyS _ _ _ _ 0 _ _ _ _
      refine ⟨by kernel_rfl, ?_⟩
      rw [← hQ]
      exact ⟨rfl, _, rfl, _, results_none rfl _ _ _, rfl, rfl, h1, ((Only.refl [ob] w).drew).trans h2⟩
  · obtain rfl := List.mem_singleton.1 hi
    simp [opS, go_sem, recoverD, hu]
    refine anyS_step (rs := [0]) (by kernel_rfl) (by simp) ?_
    intro i hi
    obtain rfl := List.mem_singleton.1 hi
    simp [opS, go_sem, hrb]
    refine anyS_step (rs := [1]) (by kernel_rfl) (by simp) ?_
    intro i hi
    obtain rfl := List.mem_singleton.1 hi
    simp [opS, go_sem]
    refine anyS_step (rs := [2]) (by kernel_rfl) (by simp) ?_
    intro i hi
    obtain rfl := List.mem_singleton.1 hi
    simp [opS, go_sem]
    refine anyS_step (rs := [3]) (by kernel_rfl) (by simp) ?_
    intro i hi
    obtain rfl := List.mem_singleton.1 hi
    simp [opS, go_sem, hR0]
    refine anyS_step (rs := [5]) (by kernel_rfl) (by simp) ?_
    intro i hi
    obtain rfl := List.mem_singleton.1 hi
    simp [opS, go_sem]
    refine (HE.out).mono ?_
    rintro e w' ⟨rfl, h1, h2⟩
    show anyS _ _ _ _ 0 _ _ _ _
    refine ⟨by kernel_rfl, ?_⟩
    rw [← hQ]
    exact ⟨rfl, _, rfl, _, results_none rfl _ _ _, rfl, rfl, h1, ((Only.refl [ob] w).drew).trans h2⟩

end Go.Proofs.YtmedfpejfpdpdaaGreatDoor
