/- The law FloNear. -/
import Derived.Test.YtceoapkkmgllaaaGreatDoorFloWhole
namespace Go.Proofs.YtceoapkkmgllaaaGreatDoor
open Go.RowKit FloM

/- One way at least refuses. -/
set_option maxRecDepth 100000 in
set_option maxHeartbeats 8000000 in
theorem near_no (u : Nat) (a b c d e f g h : Int) (b1 b2 b3 b4 : Bool) (hne : (b1 && b2 && b3 && b4) = false)
    (h1 : ((e : Int) == 0) = b1) (h2 : ((f : Int) == 0) = b2) (h3 : ((g : Int) == 0) = b3) (h4 : ((h : Int) == 0) = b4)
    (k1 : ((e : Int) != 0) = !b1) (k2 : ((f : Int) != 0) = !b2) (k3 : ((g : Int) != 0) = !b3) (k4 : ((h : Int) != 0) = !b4)
    (z1 : b1 = false → a = 0) (z2 : b2 = false → b = 0) (z3 : b3 = false → c = 0) (z4 : b4 = false → d = 0)
    (w : World) (ht : Env w) (t1 : WayC 48 u a e) (t2 : WayC 49 u b f) (t3 : WayC 47 u c g) (t4 : WayC 50 u d h) :
    Calls Tryz.prog 15 #[.int .u64 u] w (LawPost w) := by
  have HT := Lib.hid ht
  have H1 := Lib.hid t1
  have H2 := Lib.hid t2
  have H3 := Lib.hid t3
  have H4 := Lib.hid t4
  clear ht t1 t2 t3 t4
  cases b1 <;> cases b2 <;> cases b3 <;> cases b4 <;> first | (exfalso; revert hne; decide) | skip
  all_goals
    clear hne
    first | (have e1 := z1 rfl; subst e1; clear z1) | clear z1
    first | (have e2 := z2 rfl; subst e2; clear z2) | clear z2
    first | (have e3 := z3 rfl; subst e3; clear z3) | clear z3
    first | (have e4 := z4 rfl; subst e4; clear z4) | clear z4
    simp only [Bool.not_true, Bool.not_false] at k1 k2 k3 k4
    go_enter Tryz.func15, Tryz.ntmps15
    go_wp2_with (first
      | (go_at_call 28; refine (of_any _ _).mono ?_; rintro e w' ⟨rfl, rfl⟩)
      | (go_at_call 23; refine (awake_true _ (by repeat (first | exact HT.out | refine Env.drewN ?_ _))).mono ?_; rintro e w1 ⟨rfl, hb0⟩; have HB := Lib.hid hb0; clear hb0)
      | (go_at_call 48; ((with_reducible refine (H1.out _).mono ?_); rintro e w' ⟨rfl, q1, rfl⟩))
      | (go_at_call 49; ((with_reducible refine (H2.out _).mono ?_); rintro e w' ⟨rfl, q2, rfl⟩))
      | (go_at_call 47; ((with_reducible refine (H3.out _).mono ?_); rintro e w' ⟨rfl, q3, rfl⟩))
      | (go_at_call 50; ((with_reducible refine (H4.out _).mono ?_); rintro e w' ⟨rfl, q4, rfl⟩)))
    go_ret
    exact ⟨rfl, by first | exact HB.out | exact drew_dn HB.out | exact drew_dn (drew_dn HB.out) | exact drew_dn (drew_dn (drew_dn HB.out)) | exact drew_dn (drew_dn (drew_dn (drew_dn HB.out)))⟩

def InR (n : Int) : Prop := -4611686018427387904 ≤ n ∧ n < 4611686018427387904

/- All four agree. -/
set_option maxRecDepth 100000 in
set_option maxHeartbeats 2000000 in
theorem near_eq (u : Nat) (a : Int) (hc1 : cmpI (ofI a) u = 0) (hc2 : cmpI u (ofI a) = 0)
    (w : World) (ht : Env w) (t1 : WayC 48 u a 0) (t2 : WayC 49 u a 0) (t3 : WayC 47 u a 0) (t4 : WayC 50 u a 0) :
    Calls Tryz.prog 15 #[.int .u64 u] w (LawPost w) := by
  have HT := Lib.hid ht
  have H1 := Lib.hid t1
  have H2 := Lib.hid t2
  have H3 := Lib.hid t3
  have H4 := Lib.hid t4
  have HI := Lib.hid (fun w => int_any a w)
  have C1 := cmpC (ofI a) u
  have C2 := cmpC u (ofI a)
  rw [hc1] at C1
  rw [hc2] at C2
  have HC1 := Lib.hid C1
  have HC2 := Lib.hid C2
  clear ht t1 t2 t3 t4 C1 C2 hc1 hc2
  generalize ofI a = y at *
  go_enter Tryz.func15, Tryz.ntmps15
  go_wp2_with (first
    | (go_at_call 28; refine (of_any _ _).mono ?_; rintro e w' ⟨rfl, rfl⟩)
    | (go_at_call 23; refine (awake_true _ (by repeat (first | exact HT.out | refine Env.drewN ?_ _))).mono ?_; rintro e w1 ⟨rfl, hb0⟩; have HB := Lib.hid hb0; clear hb0)
    | (go_at_call 48; ((with_reducible refine (H1.out _).mono ?_); rintro e w' ⟨rfl, q1, rfl⟩))
    | (go_at_call 49; ((with_reducible refine (H2.out _).mono ?_); rintro e w' ⟨rfl, q2, rfl⟩))
    | (go_at_call 47; ((with_reducible refine (H3.out _).mono ?_); rintro e w' ⟨rfl, q3, rfl⟩))
    | (go_at_call 50; ((with_reducible refine (H4.out _).mono ?_); rintro e w' ⟨rfl, q4, rfl⟩))
    | (go_at_call 35; ((with_reducible refine (HI.out _).mono ?_); rintro e w' ⟨rfl, rfl⟩))
    | (go_at_call 45; ((with_reducible refine (HC1.out _).mono ?_); rintro e w' ⟨rfl, rfl⟩))
    | (go_at_call 45; ((with_reducible refine (HC2.out _).mono ?_); rintro e w' ⟨rfl, rfl⟩)))
  go_ret
  exact ⟨rfl, by first | exact HB.out | exact drew_dn HB.out | exact drew_dn (drew_dn HB.out) | exact drew_dn (drew_dn (drew_dn HB.out)) | exact drew_dn (drew_dn (drew_dn (drew_dn HB.out)))⟩

/- Between two ints. -/
set_option maxRecDepth 100000 in
set_option maxHeartbeats 4000000 in
theorem near_two (u : Nat) (a b c d : Int) (hb : b = a + 1) (hc : c = a ∨ c = b) (hd : d = a ∨ d = b) (hr1 : -4611686018427387904 ≤ a) (hr2 : a + 1 < 4611686018427387904) (hc1 : cmpI (ofI a) u = -1) (hc2 : cmpI u (ofI b) = -1)
    (w : World) (ht : Env w) (t1 : WayC 48 u a 0) (t2 : WayC 49 u b 0) (t3 : WayC 47 u c 0) (t4 : WayC 50 u d 0) :
    Calls Tryz.prog 15 #[.int .u64 u] w (LawPost w) := by
  have HT := Lib.hid ht
  have H1 := Lib.hid t1
  have H2 := Lib.hid t2
  have H3 := Lib.hid t3
  have H4 := Lib.hid t4
  have HI1 := Lib.hid (fun w => int_any a w)
  have HI2 := Lib.hid (fun w => int_any b w)
  have C1 := cmpC (ofI a) u
  have C2 := cmpC u (ofI b)
  rw [hc1] at C1
  rw [hc2] at C2
  have HC1 := Lib.hid C1
  have HC2 := Lib.hid C2
  clear ht t1 t2 t3 t4 C1 C2 hc1 hc2
  generalize ofI a = y at *
  generalize ofI b = z at *
  have d1 : decide (b < a) = false := decide_eq_false (by omega)
  have d2 : decide (1 < b - a) = false := decide_eq_false (by omega)
  have d3 : ((a : Int) == b) = false := by rw [beq_eq_false_iff_ne]; omega
  have d4 : ((b : Int) == a) = false := by rw [beq_eq_false_iff_ne]; omega
  have d5 : ((a : Int) != b) = true := by rw [bne_iff_ne]; omega
  have d6 : ((b : Int) != a) = true := by rw [bne_iff_ne]; omega
  have r1 : b - a = 1 := by omega
  have r2 : b < 4611686018427387904 := by omega
  have r3 : -4611686018427387904 ≤ b := by omega
  rcases hc with rfl | rfl <;> rcases hd with rfl | rfl
  all_goals
    clear hb d2
    go_enter Tryz.func15, Tryz.ntmps15
    go_wp2_with (first
      | (go_at_call 28; refine (of_any _ _).mono ?_; rintro e w' ⟨rfl, rfl⟩)
      | (go_at_call 23; refine (awake_true _ (by repeat (first | exact HT.out | refine Env.drewN ?_ _))).mono ?_; rintro e w1 ⟨rfl, hb0⟩; have HB := Lib.hid hb0; clear hb0)
      | (go_at_call 48; ((with_reducible refine (H1.out _).mono ?_); rintro e w' ⟨rfl, q1, rfl⟩))
      | (go_at_call 49; ((with_reducible refine (H2.out _).mono ?_); rintro e w' ⟨rfl, q2, rfl⟩))
      | (go_at_call 47; ((with_reducible refine (H3.out _).mono ?_); rintro e w' ⟨rfl, q3, rfl⟩))
      | (go_at_call 50; ((with_reducible refine (H4.out _).mono ?_); rintro e w' ⟨rfl, q4, rfl⟩))
      | (go_at_call 35; ((with_reducible refine (HI1.out _).mono ?_); rintro e w' ⟨rfl, rfl⟩))
      | (go_at_call 35; ((with_reducible refine (HI2.out _).mono ?_); rintro e w' ⟨rfl, rfl⟩))
      | (go_at_call 45; ((with_reducible refine (HC1.out _).mono ?_); rintro e w' ⟨rfl, rfl⟩))
      | (go_at_call 45; ((with_reducible refine (HC2.out _).mono ?_); rintro e w' ⟨rfl, rfl⟩)))
    go_ret
    exact ⟨rfl, by first | exact HB.out | exact drew_dn HB.out | exact drew_dn (drew_dn HB.out) | exact drew_dn (drew_dn (drew_dn HB.out)) | exact drew_dn (drew_dn (drew_dn (drew_dn HB.out)))⟩

theorem cmp_ofI' {u : Nat} (h : rg u < cap) (way : Ieee.Toward) : cmpI (ofI (ii way u)) u = (if ii way u * KK < sv u then -1 else if sv u < ii way u * KK then 1 else 0) := by
  unfold cmpI
  rw [if_neg (by have := rg_ofI_le (ii way u); omega), sv_back h way]

theorem law_near (u : Nat) (w : World) (ht : Env w) :
    Calls Tryz.prog 15 #[.int .u64 u] w (LawPost w) := by
  have t1 := floorC u
  have t2 := ceilC u
  have t3 := truncC u
  have t4 := roundC u
  have z : ∀ way, ((toI way u).2 == 0) = false → (toI way u).1 = 0 := by
    intro way h
    rw [beq_eq_false_iff_ne] at h
    rcases toI_two way u with ⟨e, _⟩ | ⟨_, e⟩
    · exact absurd e h
    · exact e
  have nb : ∀ x : Int, (x != 0) = !(x == 0) := fun x => rfl
  cases hall : (((toI .down u).2 == 0) && ((toI .up u).2 == 0) && ((toI .zero u).2 == 0) && ((toI .even u).2 == 0)) with
  | false => exact near_no u _ _ _ _ _ _ _ _ _ _ _ _ hall rfl rfl rfl rfl (nb _) (nb _) (nb _) (nb _) (z _) (z _) (z _) (z _) w ht t1 t2 t3 t4
  | true =>
    simp only [Bool.and_eq_true, beq_iff_eq] at hall
    obtain ⟨⟨⟨e1, e2⟩, e3⟩, e4⟩ := hall
    rcases toI_two .down u with ⟨_, hfin, v1, r1, r2⟩ | ⟨e, _⟩
    · rcases toI_two .up u with ⟨_, _, v2, r3, r4⟩ | ⟨e, _⟩
      · rcases toI_two .zero u with ⟨_, _, v3, _, _⟩ | ⟨e, _⟩
        · rcases toI_two .even u with ⟨_, _, v4, _, _⟩ | ⟨e, _⟩
          · rw [e1, v1] at t1
            rw [e2, v2] at t2
            rw [e3, v3] at t3
            rw [e4, v4] at t4
            have c1 := cmp_ofI' hfin .down
            have c2 := cmp_ofI hfin .up
            rcases ii_pair u with ⟨p1, p2, p3, p4⟩ | ⟨p1, p2, p3, p4, p5⟩
            · rw [← p1] at t2 c2
              rw [p2] at t3
              rw [p3] at t4
              rw [← p4, if_neg (by omega), if_neg (by omega)] at c1 c2
              exact near_eq u _ c1 c2 w ht t1 t2 t3 t4
            · rw [if_pos p4] at c1
              rw [if_pos p5] at c2
              exact near_two u _ _ _ _ p1 p2 p3 r1 (by omega) c1 c2 w ht t1 t2 t3 t4
          · omega
        · omega
      · omega
    · omega
end Go.Proofs.YtceoapkkmgllaaaGreatDoor
