/- Walks of the library's shortest decimal: unrounded scaling. -/
import Derived.Test.YtijncfidjjfmiaaGreatDoorFloWalkAB
import Derived.Test.YtijncfidjjfmiaaGreatDoorFloBase
import Derived.Test.YtijncfidjjfmiaaGreatDoorFloShort
import Derived.Laws.BitsAllLaws
import Derived.Test.YtijncfidjjfmiaaGreatDoorShelf
import Derived.Deep.QuietTactic
import Derived.BigQuiet
namespace Go.Proofs.YtijncfidjjfmiaaGreatDoor
open Go.RowKit FloM

def mulH (x y : Nat) : Nat := x * y / 18446744073709551616
def mulL (x y : Nat) : Nat := x * y % 18446744073709551616
theorem mul64_any (x y : Nat) (hx : x < 18446744073709551616) (hy : y < 18446744073709551616) (w : World) :
    Calls Tryz.prog 130 #[.int .u64 x, .int .u64 y] w fun e w' => e = .returned (.tuple #[.int .u64 (mulH x y : Nat), .int .u64 (mulL x y : Nat)]) ∧ w = w' :=
  (Tryz.bits_Mul64 x y hx hy w).mono fun _ _ ⟨h1, h2⟩ => ⟨h1, h2.symm⟩

theorem and63 (s : Nat) (h : s < 64) : bits .and .i64 (s : Int) 63 = (s : Int) := by
  have : ∀ t : Fin 64, bits .and .i64 ((t.val : Nat) : Int) 63 = ((t.val : Nat) : Int) := by decide +kernel
  exact this ⟨s, h⟩

def b2 (b : Bool) : Nat := if b then 1 else 0
theorem b2_le (b : Bool) : b2 b ≤ 1 := by cases b <;> decide

set_option maxRecDepth 100000 in
set_option maxHeartbeats 400000 in
theorem bool2_u64 (b : Bool) (w : World) : Calls Tryz.prog 164 #[.bool b] w fun e w' => e = .returned (.int .u64 (b2 b : Nat)) ∧ w = w' := by
  cases b
  · go_enter Tryz.func164, Tryz.ntmps164
    go_wp2
    go_ret
    exact ⟨rfl, rfl⟩
  · go_enter Tryz.func164, Tryz.ntmps164
    go_wp2
    go_ret
    exact ⟨rfl, rfl⟩

set_option maxRecDepth 100000 in
set_option maxHeartbeats 400000 in
theorem usc_one (x hi : Nat) (s : Nat) (b : Nat) (w : World) (h0 : w.cell? ⟨b, 0, none⟩ = some (.int .u64 (hi : Int)))
  (h2 : w.cell? ⟨b, 2, none⟩ = some (.int .i64 (s : Int))) (hs : s < 64) (hx : x < 18446744073709551616) (hhi : hi < 18446744073709551616)
  (hc : (IntKind.u64.wrap (((mulH x hi : Nat) : Int) / 2 ^ s * 2 ^ s) != ((mulH x hi : Nat) : Int)) = true) :
    Calls Tryz.prog 142 #[.int .u64 (x : Int), .pointer (some ⟨b, 0, none⟩)] w fun e w' => e = .returned (.int .u64 (bits .or .u64 ((mulH x hi : Nat) / 2 ^ s) 1)) ∧ w = w' := by
  have hm1 := Lib.hid (fun w => mul64_any x hi hx hhi w)
  generalize mulH x hi = H at *
  generalize mulL x hi = M at *
  have e1 := and63 s hs
  go_enter Tryz.func142, Tryz.ntmps142
  go_wp2_with (go_at_call 130; ((with_reducible refine (hm1.out _).mono ?_); rintro e w1 ⟨rfl, rfl⟩))
  go_ret
  exact ⟨rfl, rfl⟩

set_option maxRecDepth 100000 in
set_option maxHeartbeats 400000 in
theorem usc_two (x hi lo : Nat) (s : Nat) (b : Nat) (w : World) (h0 : w.cell? ⟨b, 0, none⟩ = some (.int .u64 (hi : Int)))
  (h1 : w.cell? ⟨b, 1, none⟩ = some (.int .u64 (lo : Int))) (h2 : w.cell? ⟨b, 2, none⟩ = some (.int .i64 (s : Int))) (hs : s < 64) (hx : x < 18446744073709551616) (hhi : hi < 18446744073709551616) (hlo : lo < 18446744073709551616)
  (hc : (IntKind.u64.wrap (((mulH x hi : Nat) : Int) / 2 ^ s * 2 ^ s) != ((mulH x hi : Nat) : Int)) = false) :
    Calls Tryz.prog 142 #[.int .u64 (x : Int), .pointer (some ⟨b, 0, none⟩)] w fun e w' => e = .returned (.int .u64 (bits .or .u64 (IntKind.u64.wrap ((mulH x hi : Nat) - (b2 (decide (mulL x hi < mulH x lo)) : Nat)) / 2 ^ s) (b2 (decide ((1 : Int) < IntKind.u64.wrap ((mulL x hi : Nat) - (mulH x lo : Nat)))) : Nat))) ∧ ∃ n, w' = w.drewN n := by
  have hm1 := Lib.hid (fun w => mul64_any x hi hx hhi w)
  have hm2 := Lib.hid (fun w => mul64_any x lo hx hlo w)
  generalize mulH x hi = H at *
  generalize mulL x hi = M at *
  generalize mulH x lo = M2 at *
  generalize mulL x lo = L2 at *
  have e1 := and63 s hs
  go_enter Tryz.func142, Tryz.ntmps142
  go_wp2_with (first | (go_at_call 130; ((with_reducible refine (hm1.out _).mono ?_); rintro e w1 ⟨rfl, rfl⟩)) | (go_at_call 130; ((with_reducible refine (hm2.out _).mono ?_); rintro e w1 ⟨rfl, rfl⟩)) | (go_at_call 164; refine (bool2_u64 _ _).mono ?_; rintro e w1 ⟨rfl, rfl⟩))
  go_quiet ((go_at_call 164; exact Calls.quiet_of_same ((bool2_u64 _ _).mono fun _ _ hh => ⟨hh.1, hh.2.symm⟩)))
  go_wp2
  go_ret
  exact ⟨rfl, nq, rfl⟩

theorem mulH_lt (x y : Nat) (hx : x < 18446744073709551616) (hy : y < 18446744073709551616) : mulH x y < 18446744073709551616 := by
  unfold mulH
  apply Nat.div_lt_of_lt_mul
  exact Nat.mul_lt_mul_of_lt_of_le hx (Nat.le_of_lt hy) (by omega)
theorem mulL_lt (x y : Nat) : mulL x y < 18446744073709551616 := Nat.mod_lt _ (by decide)

/-- uscale, as a plain function. -/
theorem usc_any (x hi lo : Nat) (s : Nat) (b : Nat) (w : World) (h0 : w.cell? ⟨b, 0, none⟩ = some (.int .u64 (hi : Int)))
  (h1 : w.cell? ⟨b, 1, none⟩ = some (.int .u64 (lo : Int))) (h2 : w.cell? ⟨b, 2, none⟩ = some (.int .i64 (s : Int))) (hs : s < 64) (hx : x < 18446744073709551616) (hhi : hi < 18446744073709551616) (hlo : lo < 18446744073709551616) :
    Calls Tryz.prog 142 #[.int .u64 (x : Int), .pointer (some ⟨b, 0, none⟩)] w fun e w' => e = .returned (.int .u64 (usc x hi lo s : Nat)) ∧ ∃ n, w' = w.drewN n := by
  have hH := mulH_lt x hi hx hhi
  have hM := mulL_lt x hi
  have hM2 := mulH_lt x lo hx hlo
  have hM64 : M64 = 18446744073709551616 := by decide
  have hw : IntKind.u64.wrap (((mulH x hi : Nat) : Int) / 2 ^ s * 2 ^ s) = ((mulH x hi / 2 ^ s * 2 ^ s : Nat) : Int) := by
    have hle := Nat.div_mul_le_self (mulH x hi) (2 ^ s)
    rw [IntKind.wrap_u64]
    generalize mulH x hi = H at *
    have : ((H : Int) / 2 ^ s * 2 ^ s) = ((H / 2 ^ s * 2 ^ s : Nat) : Int) := by
      rw [Int.natCast_mul, Int.natCast_ediv, Int.natCast_pow]; rfl
    rw [this]
    omega
  have hu : usc x hi lo s = if mulH x hi / 2 ^ s * 2 ^ s ≠ mulH x hi then (mulH x hi / 2 ^ s) ||| 1 else
      ((if mulL x hi < mulH x lo then (mulH x hi + M64 - 1) % M64 else mulH x hi) / 2 ^ s) ||| (if 1 < (mulL x hi + M64 - mulH x lo) % M64 then 1 else 0) := rfl
  rw [hu]
  by_cases hc : mulH x hi / 2 ^ s * 2 ^ s = mulH x hi
  · rw [if_neg (by simpa using hc)]
    refine (usc_two x hi lo s b w h0 h1 h2 hs hx hhi hlo (by rw [hw, hc]; exact bne_self_eq_false _)).mono ?_
    rintro e w' ⟨rfl, hn⟩
    refine ⟨ret_int ?_, hn⟩
    have e1 : IntKind.u64.wrap (((mulH x hi : Nat) : Int) - ((b2 (decide (mulL x hi < mulH x lo)) : Nat) : Int)) = (((if mulL x hi < mulH x lo then (mulH x hi + M64 - 1) % M64 else mulH x hi) : Nat) : Int) := by
      rw [IntKind.wrap_u64, hM64]
      by_cases hl : mulL x hi < mulH x lo
      · rw [if_pos hl, decide_eq_true hl]; show ((mulH x hi : Nat) - (1 : Int)) % _ = _; omega
      · rw [if_neg hl, decide_eq_false hl]; show ((mulH x hi : Nat) - (0 : Int)) % _ = _; omega
    have e2 : b2 (decide ((1 : Int) < IntKind.u64.wrap (((mulL x hi : Nat) : Int) - ((mulH x lo : Nat) : Int)))) = (if 1 < (mulL x hi + M64 - mulH x lo) % M64 then 1 else 0) := by
      rw [IntKind.wrap_u64, hM64]
      have : ((1 : Int) < (((mulL x hi : Nat) : Int) - ((mulH x lo : Nat) : Int)) % 18446744073709551616) ↔ 1 < (mulL x hi + 18446744073709551616 - mulH x lo) % 18446744073709551616 := by omega
      simp only [this, b2, decide_eq_true_eq]
    rw [e1, e2]
    have hlt : (if mulL x hi < mulH x lo then (mulH x hi + M64 - 1) % M64 else mulH x hi) < 18446744073709551616 := by
      rw [hM64]; split
      · exact Nat.mod_lt _ (by decide)
      · exact hH
    generalize (if mulL x hi < mulH x lo then (mulH x hi + M64 - 1) % M64 else mulH x hi) = H' at *
    have hq : H' / 2 ^ s < 18446744073709551616 := Nat.lt_of_le_of_lt (Nat.div_le_self _ _) hlt
    have := u64_or_nat (H' / 2 ^ s) (if 1 < (mulL x hi + M64 - mulH x lo) % M64 then 1 else 0) hq (by split <;> decide)
    rw [← this, Int.natCast_ediv, Int.natCast_pow]
    rfl
  · rw [if_pos hc]
    refine (usc_one x hi s b w h0 h2 hs hx hhi (by rw [hw]; rw [bne_iff_ne]; exact fun h => hc (by exact_mod_cast h))).mono ?_
    rintro e w' ⟨rfl, hn⟩
    refine ⟨ret_int ?_, 0, hn.symm⟩
    have hq : mulH x hi / 2 ^ s < 18446744073709551616 := Nat.lt_of_le_of_lt (Nat.div_le_self _ _) hH
    have := u64_or_nat (mulH x hi / 2 ^ s) 1 hq (by decide)
    rw [← this, Int.natCast_ediv, Int.natCast_pow]
    rfl
end Go.Proofs.YtijncfidjjfmiaaGreatDoor
