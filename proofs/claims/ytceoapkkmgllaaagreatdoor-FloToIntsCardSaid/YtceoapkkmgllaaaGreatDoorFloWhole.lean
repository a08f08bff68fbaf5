/- The law FloWhole. -/
import Derived.Test.YtceoapkkmgllaaaGreatDoorFloRises
namespace Go.Proofs.YtceoapkkmgllaaaGreatDoor
open Go.RowKit FloM

theorem drew_dn {w w' : World} {n : Nat} (h : Below (w.drewN n).heap.size (w.drewN n) w') : Below w.heap.size w w' := (below_drewN (Below.refl _ _) n).trans h

abbrev WayC (f : FuncId) (u : Nat) (n e : Int) : Prop := ∀ w, Calls Tryz.prog f #[.float .f64 u] w fun x w' => x = two (n, e) ∧ ∃ k, w' = w.drewN k
theorem floorC (u : Nat) : WayC 48 u (toI .down u).1 (toI .down u).2 := fun w => floor_any u w
theorem ceilC (u : Nat) : WayC 49 u (toI .up u).1 (toI .up u).2 := fun w => ceil_any u w
theorem truncC (u : Nat) : WayC 47 u (toI .zero u).1 (toI .zero u).2 := fun w => trunc_any u w
theorem roundC (u : Nat) : WayC 50 u (toI .even u).1 (toI .even u).2 := fun w => round_any u w

/-- What a way tells: the int, or a refusal and 0. -/
theorem toI_two (way : Ieee.Toward) (u : Nat) : (toI way u).2 = 0 ∧ rg u < cap ∧ (toI way u).1 = ii way u ∧ -4611686018427387904 ≤ ii way u ∧ ii way u < 4611686018427387904 ∨ ((toI way u).2 = 10 ∨ (toI way u).2 = 20) ∧ (toI way u).1 = 0 := by
  unfold toI
  split
  · right; simp
  · split
    · right; simp
    · split
      · right; simp
      · next h1 h2 h3 => left; simp; omega

set_option maxRecDepth 100000 in
set_option maxHeartbeats 1000000 in
theorem whole_no (u : Nat) (f : Int) (hf2 : ((f : Int) != 0) = true) (w : World) (ht : Env w) (h : WayC 47 u 0 f) :
    Calls Tryz.prog 13 #[.int .u64 u] w (LawPost w) := by
  have HT := Lib.hid ht
  have HC := Lib.hid h
  clear ht h
  go_enter Tryz.func13, Tryz.ntmps13
  go_wp2_with (first
    | (go_at_call 28; refine (of_any _ _).mono ?_; rintro e w' ⟨rfl, rfl⟩)
    | (go_at_call 23; refine (awake_true _ (by repeat (first | exact HT.out | refine Env.drewN ?_ _))).mono ?_; rintro e w1 ⟨rfl, hb0⟩; have HB := Lib.hid hb0; clear hb0)
    | (go_at_call 47; ((with_reducible refine (HC.out _).mono ?_); rintro e w' ⟨rfl, k1, rfl⟩)))
  go_ret
  exact ⟨rfl, by first | exact HB.out | exact drew_dn HB.out | exact drew_dn (drew_dn HB.out) | exact drew_dn (drew_dn (drew_dn HB.out)) | exact drew_dn (drew_dn (drew_dn (drew_dn HB.out)))⟩

/- The int there; not whole, or compared. -/
set_option maxRecDepth 100000 in
set_option maxHeartbeats 1000000 in
theorem whole_yes (u : Nat) (n m k f g : Int) (b : Bool) (hw : (((f : Int) == 0) = false ∧ b = false) ∨ (((f : Int) == 0) = true ∧ ((g : Int) == 0) = false ∧ b = false) ∨ (((f : Int) == 0) = true ∧ ((g : Int) == 0) = true ∧ ((m : Int) == k) = false ∧ b = false) ∨ (((f : Int) == 0) = true ∧ ((g : Int) == 0) = true ∧ ((m : Int) == k) = true ∧ b = true))
    (hcmp : b = true → cmpI u (ofI n) = 0)
    (w : World) (ht : Env w) (h1 : WayC 47 u n 0) (h2 : WayC 48 u m f) (h3 : WayC 49 u k g) :
    Calls Tryz.prog 13 #[.int .u64 u] w (LawPost w) := by
  have HT := Lib.hid ht
  have H1 := Lib.hid h1
  have H2 := Lib.hid h2
  have H3 := Lib.hid h3
  have HI := Lib.hid (fun w => int_any n w)
  have HC := Lib.hid (cmpC u (ofI n))
  clear ht h1 h2 h3
  generalize ofI n = y at *
  generalize cmpI u y = c at *
  rcases hw with ⟨a1, rfl⟩ | ⟨a1, a2, rfl⟩ | ⟨a1, a2, a3, rfl⟩ | ⟨a1, a2, a3, rfl⟩
  all_goals
    first
      | (have e0 : c = 0 := hcmp rfl; subst e0; clear hcmp)
      | clear hcmp
    go_enter Tryz.func13, Tryz.ntmps13
    go_wp2_with (first
      | (go_at_call 28; refine (of_any _ _).mono ?_; rintro e w' ⟨rfl, rfl⟩)
      | (go_at_call 23; refine (awake_true _ (by repeat (first | exact HT.out | refine Env.drewN ?_ _))).mono ?_; rintro e w1 ⟨rfl, hb0⟩; have HB := Lib.hid hb0; clear hb0)
      | (go_at_call 47; ((with_reducible refine (H1.out _).mono ?_); rintro e w' ⟨rfl, k1, rfl⟩))
      | (go_at_call 48; ((with_reducible refine (H2.out _).mono ?_); rintro e w' ⟨rfl, k2, rfl⟩))
      | (go_at_call 49; ((with_reducible refine (H3.out _).mono ?_); rintro e w' ⟨rfl, k3, rfl⟩))
      | (go_at_call 35; ((with_reducible refine (HI.out _).mono ?_); rintro e w' ⟨rfl, rfl⟩))
      | (go_at_call 45; ((with_reducible refine (HC.out _).mono ?_); rintro e w' ⟨rfl, rfl⟩)))
    go_ret
    exact ⟨rfl, by first | exact HB.out | exact drew_dn HB.out | exact drew_dn (drew_dn HB.out) | exact drew_dn (drew_dn (drew_dn HB.out)) | exact drew_dn (drew_dn (drew_dn (drew_dn HB.out)))⟩

theorem cmp_ofI {u : Nat} (h : rg u < cap) (way : Ieee.Toward) : cmpI u (ofI (ii way u)) = (if sv u < ii way u * KK then -1 else if ii way u * KK < sv u then 1 else 0) := by
  unfold cmpI
  rw [if_neg (by have := rg_ofI_le (ii way u); omega), sv_back h way]

theorem law_whole (u : Nat) (w : World) (ht : Env w) :
    Calls Tryz.prog 13 #[.int .u64 u] w (LawPost w) := by
  have t1 := truncC u
  have t2 := floorC u
  have t3 := ceilC u
  rcases toI_two .zero u with ⟨e, hfin, hv, _, _⟩ | ⟨e, hv⟩
  · rw [e, hv] at t1
    refine whole_yes u _ _ _ _ _ (((toI .down u).2 == 0) && ((toI .up u).2 == 0) && ((toI .down u).1 == (toI .up u).1)) ?_ ?_ w ht t1 t2 t3
    · cases ((toI .down u).2 == 0) <;> cases ((toI .up u).2 == 0) <;> cases ((toI .down u).1 == (toI .up u).1) <;> simp
    · intro hb
      simp only [Bool.and_eq_true, beq_iff_eq] at hb
      obtain ⟨⟨h1, h2⟩, h3⟩ := hb
      rw [cmp_ofI hfin]
      rcases toI_two .down u with ⟨_, _, hv2, _, _⟩ | ⟨e2, _⟩
      · rcases toI_two .up u with ⟨_, _, hv3, _, _⟩ | ⟨e3, _⟩
        · rw [hv2, hv3] at h3
          rcases ii_pair u with ⟨p1, p2, p3, p4⟩ | ⟨p1, _⟩
          · rw [p2, ← p4, if_neg (by omega), if_neg (by omega)]
          · omega
        · omega
      · omega
  · rw [hv] at t1
    exact whole_no u _ (by rw [bne_iff_ne]; omega) w ht t1
end Go.Proofs.YtceoapkkmgllaaaGreatDoor
