/- The reference's power: the least power of ten above an amount. -/
import Derived.Test.YtijncfidjjfmiaaGreatDoorFloTxtE
namespace Go.Proofs.YtijncfidjjfmiaaGreatDoor
open Go.RowKit FloM

/-- Is 10 to the e at most the amount M times 2 to the P? -/
def PLe (M : Nat) (P e : Int) : Prop := tA e * 2 ^ (-P).toNat ≤ M * tB e * 2 ^ P.toNat
theorem PLe_iff (M : Nat) (P e : Int) (o : Nat) (ho : o = 1) : cmpN (o * tA e * 2 ^ (-P).toNat) (M * tB e * 2 ^ P.toNat) ≤ 0 ↔ PLe M P e := by
  rw [cmpN_le, ho, Nat.one_mul]; rfl
def GivesP (w : World) (M : Nat) (P : Int) (e : Ending) (w' : World) : Prop := ∃ x : Int, e = .returned (.int .i64 x) ∧ ¬ PLe M P x ∧ PLe M P (x - 1) ∧ -400 ≤ x ∧ x ≤ 310 ∧ Below w.heap.size w w'

theorem drewN_one (w : World) : w.drew = w.drewN 1 := rfl

set_option maxRecDepth 100000 in
set_option maxHeartbeats 2000000 in
theorem power_o (vm : Value) (b : Bool) (M o L : Nat) (P g : Int) (w : World) (ho : o = 1) (hL : bl M = L) (hL2 : L ≤ 64) (hM : nd M ≤ 10) (hP1 : -1100 ≤ P) (hP2 : P ≤ 1100)
    (hg : g = guess ((L : Int) + P)) (hg1 : -400 ≤ g) (hg2 : g ≤ 310) (h0 : PLe M P (g - 1)) (h9 : ∀ e : Int, 310 ≤ e → ¬ PLe M P e) (hm : D w vm M) :
    Calls Tryz.prog 52 #[.agg #[.bool b, vm, .int .i64 P]] w (GivesP w M P) := by
  obtain ⟨B, c, rfl⟩ := hm.shape
  have HM := Lib.hid hm
  generalize hlm : nd M = lm at *
  have HLM := Lib.hid hlm
  have HHM := Lib.hid hM
  have HL := Lib.hid hL
  have HN1 := Lib.hid (show nd o ≤ 1 by rw [ho]; decide)
  have HO := Lib.hid ho
  have HPL := Lib.hid (fun e : Int => PLe_iff M P e o ho)
  have H0 := Lib.hid h0
  have H9 := Lib.hid h9
  have t1 : (((L : Int) + P) * 30103).tdiv 100000 = g + 2 := by rw [hg]; unfold guess; omega
  have hgg : IntKind.i64.wrap (IntKind.i64.wrap ((IntKind.i64.wrap (IntKind.i64.wrap ((L : Int) + P) * 30103)).tdiv 100000) - 2) = g := by
    rw [IntWalk.i64_in ((L : Int) + P) (by omega), IntWalk.i64_in (((L : Int) + P) * 30103) (by omega), t1, IntWalk.i64_in (g + 2) (by omega), IntWalk.i64_in (g + 2 - 2) (by omega)]
    omega
  clear hlm hm hM hL h0 h9 hg ho t1
  go_enter Tryz.func52, Tryz.ntmps52
  go_wp2_with fail
  have hbox := Blk.new w 76 #[.bool b, .slice B lm c, .int .i64 P]
  obtain ⟨c0, c1, c2⟩ := box_cells hbox
  have hW : Below w.heap.size w (w.alloc (.cells #[.bool b, .slice B lm c, .int .i64 P] 76)) := (Below.refl _ _).alloc (Nat.le_refl _) _
  generalize w.alloc (.cells #[.bool b, .slice B lm c, .int .i64 P] 76) = W at *
  have HW := Lib.hid hW
  have HBX := Lib.hid hbox
  have HMW := Lib.hid (show D W.drew _ M from HM.out.below hW.drew)
  have hsW := hW.size
  have hlW := hbox.lt
  clear hW hbox
  go_region_held3 (fun w' => w'.cell? ⟨w.heap.size, 1, none⟩ = some (.slice B lm c) ∧ w'.cell? ⟨w.heap.size, 2, none⟩ = some (.int .i64 P)) (first | go_keep | exact ⟨c1, c2⟩)
    (first
      | (go_at_call 71; refine (lenB_D _ M _ (by have := HLM.out; have := HHM.out; omega) HMW.out).mono ?_; rintro e w3 ⟨rfl, rfl⟩; rw [HL.out]))
  clear c0 c1 c2
  go_wp2_with fail
  go_loopw [3] (fun i wr => ∃ e : Int, i = .int .i64 e ∧ g ≤ e ∧ e ≤ 310 ∧ PLe M P (e - 1) ∧ Below W.heap.size W wr) (fun i _ => (400 - intOf i).toNat)
  case atStart => exact ⟨g, rfl, Int.le_refl _, hg2, H0.out, (Below.refl _ _).drew⟩
  case round =>
    obtain ⟨x, rfl, hx1, hx2, hx3, hbel⟩ := hrel
    have HX3 := Lib.hid hx3
    have hbx := HBX.out.below hbel hlW
    have hbw : Below w.heap.size w wr := HW.out.trans (hbel.mono hsW)
    have hs := hbel.size
    have hbx2 := hbx.alloc (.cells #[.int .u16 1] 81)
    have hone : D (wr.alloc (.cells #[.int .u16 1] 81)) (.slice (some ⟨wr.heap.size, 0, none⟩) 1 1) o := by rw [HO.out]; exact one_D wr
    obtain ⟨c0, c1, c2⟩ := box_cells hbx2
    have HONE := Lib.hid hone
    have HB := Lib.hid hbel
    have HMR := Lib.hid (show D (wr.alloc (.cells #[.int .u16 1] 81)) _ M from HM.out.below (hbw.alloc (by omega) _))
    clear hone hbel hbw hbx hbx2 hx3
    go_wp2_with fail
    refine (against_any _ _ b o M x P _ (by have := HN1.out; omega) (by have := HLM.out; have := HHM.out; omega) (by omega) (by omega) (by omega) (by omega) HONE.out HMR.out).mono ?_
    rintro e w2 ⟨rfl, hbel2⟩
    have hp := HPL.out x
    generalize cmpN (o * tA x * 2 ^ (-P).toNat) (M * tB x * 2 ^ P.toNat) = z at *
    have HB2 := Lib.hid ((HB.out.alloc hs _).trans (hbel2.mono (by simp; omega)))
    clear hbel2 c0 c1 c2
    by_cases hz : z ≤ 0
    · have hx4 := hp.1 hz
      have hx5 : x ≤ 309 := by
        rcases Int.lt_or_le x 310 with h | h
        · omega
        · exact absurd hx4 (H9.out x h)
      have HX4 := Lib.hid hx4
      clear hp hx4
      go_wp2_with fail
      go_roundw
      case rel => exact ⟨x + 1, by go_num, by omega, by omega, by rw [Int.add_sub_cancel]; exact HX4.out, HB2.out⟩
      case measure => simp [intOf]; omega
    · have hx4 : ¬ PLe M P x := fun h => hz (hp.2 h)
      have HX4 := Lib.hid hx4
      clear hp hx4
      go_wp2_with fail
      go_ret
      exact ⟨x, rfl, HX4.out, HX3.out, by omega, hx2, HW.out.trans (HB2.out.mono hsW)⟩

theorem power_any (vm : Value) (b : Bool) (M : Nat) (P : Int) (w : World) (h0 : M ≠ 0) (hL2 : bl M ≤ 64) (hP1 : -1074 ≤ P) (hP2 : (bl M : Int) + P ≤ 1024) (h9 : ∀ e : Int, 310 ≤ e → ¬ PLe M P e)
    (hmono : ∀ e : Int, PLe M P e → PLe M P (e - 1)) (hm : D w vm M) :
    Calls Tryz.prog 52 #[.agg #[.bool b, vm, .int .i64 P]] w (GivesP w M P) := by
  have hb := bl_low h0
  have hM : nd M ≤ 4 := nd_64 (Nat.lt_of_lt_of_le ((bl_le M (bl M)).1 (Nat.le_refl _)) (Nat.pow_le_pow_right (by decide) hL2))
  have hg := guess_le M P h0 (by omega) (by omega)
  have hg1 : -400 ≤ guess ((bl M : Int) + P) ∧ guess ((bl M : Int) + P) ≤ 310 := by
    unfold guess
    rcases Int.lt_or_le ((bl M : Int) + P) 0 with h | h
    · obtain ⟨y, hy⟩ : ∃ y : Int, (bl M : Int) + P = -y := ⟨-((bl M : Int) + P), by omega⟩
      rw [hy, Int.neg_mul, Int.neg_tdiv, Int.tdiv_eq_ediv_of_nonneg (by omega)]
      omega
    · rw [Int.tdiv_eq_ediv_of_nonneg (by omega)]
      omega
  exact power_o vm b M 1 (bl M) P _ w rfl rfl hL2 (by omega) (by omega) (by omega) rfl hg1.1 hg1.2 (hmono _ hg) h9 hm
end Go.Proofs.YtijncfidjjfmiaaGreatDoor
