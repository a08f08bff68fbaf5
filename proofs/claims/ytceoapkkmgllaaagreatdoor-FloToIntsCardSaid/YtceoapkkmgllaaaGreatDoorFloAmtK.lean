/- The reference's Of: a real's parts. -/
import Derived.Test.YtceoapkkmgllaaaGreatDoorFloAmtJ
import Derived.Test.YtceoapkkmgllaaaGreatDoorFloCmp
namespace FloM
theorem of_e (u : Nat) (_h : u < 2 ^ 64) : u / 2 ^ 52 % 2048 = rg u / 2 ^ 52 := by unfold rg; omega
theorem of_m (u : Nat) : u % 2 ^ 52 = rg u % 2 ^ 52 := by unfold rg; omega
theorem of_lo {u : Nat} (h : rg u / 2 ^ 52 = 0) : mg (rg u) = rg u % 2 ^ 52 ∧ pp u = -1074 := by
  have h1 : rg u < 2 ^ 52 := by omega
  unfold mg pp up
  rw [if_pos h1, Nat.mod_eq_of_lt h1, h]
  exact ⟨rfl, by omega⟩
theorem of_hi {u : Nat} (h : rg u / 2 ^ 52 ≠ 0) : mg (rg u) = 2 ^ 52 + rg u % 2 ^ 52 ∧ pp u = ((rg u / 2 ^ 52 : Nat) : Int) - 1075 := by
  have h1 : ¬ rg u < 2 ^ 52 := by omega
  unfold mg pp up
  rw [if_neg h1]
  exact ⟨rfl, by omega⟩
end FloM
namespace Go.Proofs.YtceoapkkmgllaaaGreatDoor
open Go.RowKit FloM

theorem bits_sign (c : Nat) (h : c < 2 ^ 64) : bits .and .u64 (c : Int) 9223372036854775808 = ((sgnN c : Nat) : Int) := by
  have := u64_and_nat c (2 ^ 63) (by omega) (by decide)
  rw [and_sign c h] at this
  exact this
theorem sgn_ne (u : Nat) (h : u < 2 ^ 64) : (((sgnN u : Nat) : Int) != 0) = sgn u := by
  obtain ⟨_, _, h3⟩ := sgnN_of u h
  rw [h3]
  unfold sgnN
  by_cases hu : u < 2 ^ 63
  · rw [if_pos hu, decide_eq_false (by omega)]; rfl
  · rw [if_neg hu, decide_eq_true (by omega)]; rfl
theorem bits_e (u : Nat) (h : u < 2 ^ 64) : bits .and .u64 ((u : Int) / 4503599627370496) 2047 = ((rg u / 2 ^ 52 : Nat) : Int) := by
  have h1 := u64_and_nat (u / 2 ^ 52) 2047 (by omega) (by decide)
  have h2 : u / 2 ^ 52 &&& 2047 = u / 2 ^ 52 % 2048 := by
    have := Nat.and_two_pow_sub_one_eq_mod (u / 2 ^ 52) 11
    rwa [show (2:Nat) ^ 11 - 1 = 2047 by decide, show (2:Nat) ^ 11 = 2048 by decide] at this
  rw [h2, of_e u h] at h1
  rw [← h1]
  rfl
theorem bits_or52 (m : Nat) (h : m < 2 ^ 52) : bits .or .u64 (m : Int) 4503599627370496 = ((2 ^ 52 + m : Nat) : Int) := by
  have h1 := u64_or_nat m (2 ^ 52) (by omega) (by decide)
  have h2 := or52 1 m h
  rw [Nat.one_mul] at h2
  rw [Nat.or_comm, h2] at h1
  exact h1

theorem box_free {w : World} {g : Nat} {t : TypeId} {cs : Array Value} (h : Blk w g t cs) : w.frozen? ⟨g, 0, none⟩ = false ∧ w.frozen? ⟨g, 1, none⟩ = false ∧ w.frozen? ⟨g, 2, none⟩ = false := ⟨h.frozen 0, h.frozen 1, h.frozen 2⟩
/-- Three stores into a box. -/
def set3 (w : World) (g : Nat) (x y z : Value) : World := ((w.setCell ⟨g, 0, none⟩ x).setCell ⟨g, 1, none⟩ y).setCell ⟨g, 2, none⟩ z
theorem box_set3 {w : World} {g : Nat} {t : TypeId} {a b c x y z : Value} (h : Blk w g t #[a, b, c]) : Blk (set3 w g x y z) g t #[x, y, z] := ((h.set_ 0 x).set_ 1 y).set_ 2 z
theorem D.set3 {w : World} {v : Value} {N g : Nat} {x y z : Value} (h : D w v N) (hg : v.ownBlock ≠ some g) : D (set3 w g x y z) v N := ((h.set_ hg x).set_ hg y).set_ hg z
theorem below_set3 {w0 w : World} {g : Nat} {x y z : Value} (h : Below w0.heap.size w0 w) (hg : w0.heap.size ≤ g) : Below w0.heap.size w0 (set3 w g x y z) := ((h.setCell (p := ⟨g, 0, none⟩) hg x).setCell (p := ⟨g, 1, none⟩) hg y).setCell (p := ⟨g, 2, none⟩) hg z
/-- What Of gives. -/
def GivesX (w : World) (b : Bool) (M : Nat) (P : Int) (e : Ending) (w' : World) : Prop := ∃ v, e = .returned (.agg #[.bool b, v, .int .i64 P]) ∧ D w' v M ∧ Below w.heap.size w w'

set_option maxRecDepth 100000 in
set_option maxHeartbeats 400000 in
theorem rof_any (u : Nat) (hu : u < 2 ^ 64) (w : World) : Calls Tryz.prog 68 #[.int .u64 u] w (GivesX w (sgn u) (mg (rg u)) (pp u)) := by
  have f1 := bits_e u hu
  have f2 := bits_frac u hu
  have f3 := bits_sign u hu
  have f4 := sgn_ne u hu
  rw [of_m u] at f2
  have hE : rg u / 2 ^ 52 < 2048 := by unfold rg; omega
  have hm : rg u % 2 ^ 52 < 2 ^ 52 := Nat.mod_lt _ (by decide)
  by_cases h0 : rg u / 2 ^ 52 = 0
  · obtain ⟨e1, e2⟩ := of_lo h0
    rw [h0] at f1
    have E1 := Lib.hid e1
    have E2 := Lib.hid e2
    have HM := Lib.hid hm
    clear e1 e2 h0 hE hm hu
    generalize rg u % 2 ^ 52 = m at *
    generalize sgnN u = s at *
    generalize sgn u = b at *
    go_enter Tryz.func68, Tryz.ntmps68
    go_wp2_with fail
    refine (small_D m _ (by have := HM.out; omega)).mono ?_
    rintro e w2 ⟨v2, rfl, hv2, hf2, hbel2⟩
    obtain ⟨A2, k2, rfl⟩ := hv2.shape
    have hbox := (Blk.new w 72 #[.bool false, .slice none 0 0, .int .i64 0]).below hbel2 (by simp)
    obtain ⟨c0, c1, c2⟩ := box_cells hbox
    obtain ⟨f0, f1', f2'⟩ := box_free hbox
    have HV2 := Lib.hid hv2
    have HB2 := Lib.hid hbel2
    have hs2 := hbel2.size
    have HBOX := Lib.hid hbox
    have hne : (Value.slice A2 (nd m) k2).ownBlock ≠ some w.heap.size := fun h => by have := hf2 _ h; simp at this; omega
    have HNE := Lib.hid hne
    clear hv2 hbel2 hbox hf2 hne
    go_wp2_with fail
    obtain ⟨r0, r1, r2⟩ := box_cells (box_set3 (x := .bool b) (y := .slice A2 (nd m) k2) (z := .int .i64 (-1074)) HBOX.out)
    unfold set3 at r0 r1 r2
    refine bodyPost_ret (v := .agg #[.bool b, .slice A2 (nd m) k2, .int .i64 (-1074)]) (by simp [results, Tryz.results68, go_sem, r0, r1, r2]) rfl ⟨_, by rw [E2.out], ?_, ?_⟩
    · rw [E1.out]; exact HV2.out.set3 HNE.out
    · exact below_set3 (((Below.refl _ _).alloc (Nat.le_refl _) _).trans (HB2.out.mono (by simp))) (Nat.le_refl _)
  · obtain ⟨e1, e2⟩ := of_hi h0
    have f5 := bits_or52 _ hm
    have E1 := Lib.hid e1
    have HM := Lib.hid (show 2 ^ 52 + rg u % 2 ^ 52 < 2 ^ 53 by omega)
    clear e1 hm hu
    generalize 2 ^ 52 + rg u % 2 ^ 52 = m2 at *
    generalize rg u % 2 ^ 52 = m at *
    generalize rg u / 2 ^ 52 = E at *
    have hE0 : ((E : Int) == 0) = false := by rw [beq_eq_false_iff_ne]; omega
    have E2 := Lib.hid e2
    clear e2 h0
    generalize sgnN u = s at *
    generalize sgn u = b at *
    go_enter Tryz.func68, Tryz.ntmps68
    go_wp2_with fail
    refine (small_D m2 _ (by have := HM.out; omega)).mono ?_
    rintro e w2 ⟨v2, rfl, hv2, hf2, hbel2⟩
    obtain ⟨A2, k2, rfl⟩ := hv2.shape
    have hbox := (Blk.new w 72 #[.bool false, .slice none 0 0, .int .i64 0]).below hbel2 (by simp)
    obtain ⟨c0, c1, c2⟩ := box_cells hbox
    obtain ⟨f0, f1', f2'⟩ := box_free hbox
    have HV2 := Lib.hid hv2
    have HB2 := Lib.hid hbel2
    have hs2 := hbel2.size
    have HBOX := Lib.hid hbox
    have hne : (Value.slice A2 (nd m2) k2).ownBlock ≠ some w.heap.size := fun h => by have := hf2 _ h; simp at this; omega
    have HNE := Lib.hid hne
    clear hv2 hbel2 hbox hf2 hne
    go_wp2_with fail
    obtain ⟨r0, r1, r2⟩ := box_cells (box_set3 (x := .bool b) (y := .slice A2 (nd m2) k2) (z := .int .i64 ((E : Int) - 1075)) HBOX.out)
    unfold set3 at r0 r1 r2
    refine bodyPost_ret (v := .agg #[.bool b, .slice A2 (nd m2) k2, .int .i64 ((E : Int) - 1075)]) (by simp [results, Tryz.results68, go_sem, r0, r1, r2]) rfl ⟨_, by rw [E2.out], ?_, ?_⟩
    · rw [E1.out]; exact HV2.out.set3 HNE.out
    · exact below_set3 (((Below.refl _ _).alloc (Nat.le_refl _) _).trans (HB2.out.mono (by simp))) (Nat.le_refl _)
end Go.Proofs.YtceoapkkmgllaaaGreatDoor
