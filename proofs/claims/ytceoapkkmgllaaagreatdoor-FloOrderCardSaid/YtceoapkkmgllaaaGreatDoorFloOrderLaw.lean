/- The law FloOrder. -/
import Derived.Test.YtceoapkkmgllaaaGreatDoorFloSigns
namespace Go.Proofs.YtceoapkkmgllaaaGreatDoor
open Go.RowKit FloM

theorem opr_canon {r : Option Nat} {a b : Nat} (h1 : OpR r a) (h2 : OpR r b) : canon a = canon b := by
  cases r with
  | none => rw [canon_nan h1.of_none, canon_nan h2.of_none]
  | some c => rw [h1.of_some, h2.of_some]

theorem drew_down {w w' : World} {n : Nat} (h : Below (w.drewN n).heap.size (w.drewN n) w') : Below w.heap.size w w' := (below_drewN (Below.refl _ _) n).trans h

theorem negF_lt {u : Nat} (h : u < 2 ^ 64) : negF u < 2 ^ 64 := by
  unfold negF; split
  · exact h
  · exact turnN_lt h

theorem rg_turn {u : Nat} (h : u < 2 ^ 64) : rg (turnN u) = rg u := by
  unfold rg turnN; split <;> omega

/-- A difference turned: the negation, or two zeros. -/
theorem order_sub (u v a b : Nat) (ha : OpR (Ieee.double.sub u v) a) (hb : OpR (Ieee.double.sub v u) b) :
    canon a = canon (canon (negF b)) ∨ (classN a = 2 ∧ classN (negF b) = 2) := by
  have la := ha.1
  have lb := hb.1
  rw [canon_canon]
  rcases sub_turn u v with ⟨h1, h2⟩ | ⟨x, y, h1, h2, hx, hy, h3⟩
  · left
    rw [h1] at ha
    rw [h2] at hb
    have hb' := hb.of_none
    have : negF b = b := if_pos hb'
    rw [this, canon_nan ha.of_none, canon_nan hb']
  · rw [h1] at ha
    rw [h2] at hb
    have ea := ha.of_some
    have eb := hb.of_some
    subst ea
    subst eb
    have hn : negF b = turnN b := if_neg (by omega)
    rcases h3 with ⟨z1, z2⟩ | ⟨e1, e2⟩
    · right
      rw [hn]
      unfold classN
      rw [rg_turn lb, z1, z2]
      decide
    · left
      rw [hn]
      have : a = turnN b := by
        unfold sgn at e2
        unfold rg at e1
        unfold turnN
        rcases Nat.lt_or_ge b (2 ^ 63) with h | h
        · rw [if_pos h]
          rw [Nat.div_eq_of_lt h] at e2
          have : a / 2 ^ 63 % 2 = 1 := by simpa using e2
          omega
        · rw [if_neg (by omega)]
          have h5 : b / 2 ^ 63 = 1 := by omega
          rw [h5] at e2
          have : ¬ (a / 2 ^ 63 % 2 = 1) := by simpa using e2
          omega
      rw [this]

/-- is, at reals that are known to be the same. -/
theorem is_same (x u : Nat) (hu : u < 2 ^ 64) (h : canon x = canon u) (w : World) : Calls Tryz.prog 30 #[.float .f64 x, .int .u64 u] w fun e w' => e = .returned (.bool true) ∧ w = w' := by
  have := is_any x u hu w
  rwa [decide_eq_true h] at this
theorem is_opr {r : Option Nat} {a b : Nat} (h1 : OpR r a) (h2 : OpR r b) (w : World) : Calls Tryz.prog 30 #[.float .f64 a, .int .u64 (canon b : Nat)] w fun e w' => e = .returned (.bool true) ∧ w = w' :=
  is_same a (canon b) (canon_lt h2.1) (by rw [canon_canon]; exact opr_canon h1 h2) w

abbrev OpC (f : FuncId) (x y : Nat) (r : Option Nat) : Prop := ∀ w, Calls Tryz.prog f #[.float .f64 x, .float .f64 y] w fun e w' => ∃ z n, e = .returned (.float .f64 z) ∧ OpR r z ∧ w' = w.drewN n

set_option maxRecDepth 100000 in
set_option maxHeartbeats 4000000 in
theorem law_order (u v : Nat) (w : World) (ht : Env w) :
    Calls Tryz.prog 9 #[.int .u64 u, .int .u64 v] w (LawPost w) := by
  have S1 : OpC 33 u v _ := fun w => sub_any u v w
  have S2 : OpC 33 v u _ := fun w => sub_any v u w
  have A1 : OpC 31 u v _ := fun w => add_any u v w
  have A2 : OpC 31 v u _ := fun w => add_any v u w
  have M1 : OpC 37 u v _ := fun w => mul_any u v w
  have M2 : OpC 37 v u _ := fun w => mul_any v u w
  rw [add_comm v u] at A2
  rw [mul_comm' v u] at M2
  have HS1 := Lib.hid S1
  have HS2 := Lib.hid S2
  have HA1 := Lib.hid A1
  have HA2 := Lib.hid A2
  have HM1 := Lib.hid M1
  have HM2 := Lib.hid M2
  clear S1 S2 A1 A2 M1 M2
  have O := Lib.hid (order_sub u v)
  have HT := Lib.hid ht
  clear ht
  generalize Ieee.double.add u v = ra at *
  generalize Ieee.double.mul u v = rm at *
  generalize Ieee.double.sub u v = r1 at *
  generalize Ieee.double.sub v u = r2 at *
  go_enter Tryz.func9, Tryz.ntmps9
  go_wp2_with (first
    | (go_at_call 28; refine (of_any _ _).mono ?_; rintro e w' ⟨rfl, rfl⟩)
    | (go_at_call 33; ((with_reducible refine (HS1.out _).mono ?_); rintro e w' ⟨z3, n3, rfl, hz3, rfl⟩); have Z3 := Lib.hid hz3; clear hz3)
    | (go_at_call 33; ((with_reducible refine (HS2.out _).mono ?_); rintro e w' ⟨z4, n4, rfl, hz4, rfl⟩); have Z4 := Lib.hid hz4; clear hz4)
    | (go_at_call 41; refine (neg_any z4 Z4.out.1 _).mono ?_; rintro e w' ⟨rfl, rfl⟩)
    | (go_at_call 31; ((with_reducible refine (HA1.out _).mono ?_); rintro e w' ⟨z1, n1, rfl, hz1, rfl⟩); have Z1 := Lib.hid hz1; clear hz1)
    | (go_at_call 31; ((with_reducible refine (HA2.out _).mono ?_); rintro e w' ⟨z2, n2, rfl, hz2, rfl⟩); have Z2 := Lib.hid hz2; clear hz2)
    | (go_at_call 37; ((with_reducible refine (HM1.out _).mono ?_); rintro e w' ⟨z5, n5, rfl, hz5, rfl⟩); have Z5 := Lib.hid hz5; clear hz5)
    | (go_at_call 37; ((with_reducible refine (HM2.out _).mono ?_); rintro e w' ⟨z6, n6, rfl, hz6, rfl⟩); have Z6 := Lib.hid hz6; clear hz6)
    | (go_at_call 20; refine (bits_any _ _).mono ?_; rintro e w' ⟨rfl, rfl⟩)
    | (go_at_call 30; ((with_reducible refine (is_opr Z1.out Z2.out _).mono ?_); rintro e w' ⟨rfl, rfl⟩))
    | (go_at_call 30; ((with_reducible refine (is_opr Z5.out Z6.out _).mono ?_); rintro e w' ⟨rfl, rfl⟩)))
  have l3 := Z3.out.1
  have l4 := negF_lt Z4.out.1
  have OO := O.out z3 z4 Z3.out Z4.out
  have E := fun w => is_any z3 (canon (negF z4)) (canon_lt l4) w
  have K1 := fun w => class_any z3 l3 w
  have K2 := fun w => class_any (negF z4) l4 w
  clear HS1 HS2 HA1 HA2 HM1 HM2 O Z1 Z2 Z3 Z4 Z5 Z6 l3 l4
  generalize negF z4 = y4 at *
  by_cases hc : canon z3 = canon (canon y4)
  · simp only [decide_eq_true hc] at E
    clear hc OO
    have HE := Lib.hid E
    clear E
    generalize canon y4 = y5 at *
    go_wp2_with (first
      | (go_at_call 30; ((with_reducible refine (HE.out _).mono ?_); rintro e w' ⟨rfl, rfl⟩))
      | (go_at_call 23; refine (awake_true _ (by repeat (first | exact HT.out | refine Env.drewN ?_ _))).mono ?_; rintro e w1 ⟨rfl, hb⟩))
    go_ret
    refine ⟨rfl, ?_⟩
    first | exact hb | exact drew_down hb | exact drew_down (drew_down hb)
  · obtain ⟨c1, c2⟩ := OO.resolve_left hc
    simp only [decide_eq_false hc] at E
    simp only [c1] at K1
    simp only [c2] at K2
    clear hc OO c1 c2
    have HE := Lib.hid E
    have HK1 := Lib.hid K1
    have HK2 := Lib.hid K2
    clear E K1 K2
    generalize canon y4 = y5 at *
    go_wp2_with (first
      | (go_at_call 30; ((with_reducible refine (HE.out _).mono ?_); rintro e w' ⟨rfl, rfl⟩))
      | (go_at_call 22; ((with_reducible refine (HK1.out _).mono ?_); rintro e w' ⟨rfl, rfl⟩))
      | (go_at_call 22; ((with_reducible refine (HK2.out _).mono ?_); rintro e w' ⟨rfl, rfl⟩))
      | (go_at_call 23; refine (awake_true _ (by repeat (first | exact HT.out | refine Env.drewN ?_ _))).mono ?_; rintro e w1 ⟨rfl, hb⟩))
    go_ret
    refine ⟨rfl, ?_⟩
    first | exact hb | exact drew_down hb | exact drew_down (drew_down hb)
end Go.Proofs.YtceoapkkmgllaaaGreatDoor
