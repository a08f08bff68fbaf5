/- The reference's Text. -/
import Derived.Test.YtijncfidjjfmiaaGreatDoorFloTxtI
import Derived.Test.YtijncfidjjfmiaaGreatDoorFloTxtJ
import Derived.Test.YtijncfidjjfmiaaGreatDoorFloWalkN
namespace Go.Proofs.YtijncfidjjfmiaaGreatDoor
open Go.RowKit FloM

theorem txt_a (T : List UInt8) (n : Nat) (h : n ≤ 3) : txt T (-(n : Int)) = [48, 46] ++ List.replicate n 48 ++ T := by
  unfold txt
  rw [if_pos (by omega), if_pos (by omega), Int.neg_neg, Int.toNat_natCast]
theorem txt_b (T : List UInt8) (m : Nat) (h0 : 0 < m) (h : m ≤ 15) (hl : T.length ≤ m) : txt T (m : Int) = T ++ List.replicate (m - T.length) 48 ++ [46, 48] := by
  unfold txt
  rw [if_pos (by omega), if_neg (by omega), Int.toNat_natCast, if_pos hl]
theorem txt_c (T : List UInt8) (m : Nat) (h0 : 0 < m) (h : m ≤ 15) (hl : m < T.length) : txt T (m : Int) = T.take m ++ [46] ++ T.drop m := by
  unfold txt
  rw [if_pos (by omega), if_neg (by omega), Int.toNat_natCast, if_neg (by omega)]
theorem txt_d (c : UInt8) (R : List UInt8) (m : Nat) (h : 15 < m) : txt (c :: R) (m : Int) = [c] ++ [46] ++ (if R = [] then [48] else R) ++ [69] ++ Lib.decDigits (m - 1) := by
  unfold txt
  rw [if_neg (show ¬ ((m : Int) ≤ 15 ∧ -3 ≤ (m : Int)) by omega), if_neg (show ¬ (m : Int) < 1 by omega), show ((m : Int) - 1).toNat = m - 1 by omega]
  rfl
theorem txt_e (c : UInt8) (R : List UInt8) (m : Nat) (h : 3 < m) : txt (c :: R) (-(m : Int)) = [c] ++ [46] ++ (if R = [] then [48] else R) ++ [69] ++ ([126] ++ Lib.decDigits (m + 1)) := by
  unfold txt
  rw [if_neg (show ¬ (-(m : Int) ≤ 15 ∧ -3 ≤ -(m : Int)) by omega), if_pos (show -(m : Int) < 1 by omega), show (1 - -(m : Int)).toNat = m + 1 by omega]
  rfl

theorem retS {s X : ByteArray} (h : s = X) : Ending.returned (.string s) = .returned (.string X) := by rw [h]
theorem bytes_take (T : List UInt8) (m : Nat) : (ByteArray.mk T.toArray).extract 0 m = ByteArray.mk (T.take m).toArray := by
  apply ByteArray.ext
  simp
theorem bytes_drop (T : List UInt8) (m : Nat) : (ByteArray.mk T.toArray).extract m T.length = ByteArray.mk (T.drop m).toArray := by
  apply ByteArray.ext
  simp
  exact List.take_of_length_le (by simp)

abbrev RetT (w : World) (X : List UInt8) (e : Ending) (w' : World) : Prop := e = .returned (.string ⟨X.toArray⟩) ∧ Below w.heap.size w w'
/-- What the walk of a positive real's text meets. -/
structure TxtC (u : Nat) (T : List UInt8) (E : Int) : Prop where
  nan : ∀ w, Calls Tryz.prog 13 #[.int .u64 u] w fun e w' => e = .returned (.bool false) ∧ w = w'
  inf : ∀ w, Calls Tryz.prog 14 #[.int .u64 u] w fun e w' => e = .returned (.bool false) ∧ w = w'
  sho : ∀ w, Calls Tryz.prog 24 #[.int .u64 u] w fun e w' => e = .returned (.tuple #[.string ⟨T.toArray⟩, .int .i64 E]) ∧ Below w.heap.size w w'

set_option maxRecDepth 100000 in
set_option maxHeartbeats 2000000 in
theorem rtext_a (u : Nat) (T : List UInt8) (n : Nat) (hT : T.length ≤ 17) (h : n ≤ 3) (s0 : bits .and .u64 (u : Int) 9223372036854775808 = 0) (z0 : ((u : Int) == 0) = false) (HC : Hid (TxtC u T (-(n : Int)))) (w : World) :
    Calls Tryz.prog 8 #[.int .u64 u] w (RetT w (txt T (-(n : Int)))) := by
  rw [txt_a T n h]
  go_enter Tryz.func8, Tryz.ntmps8
  go_wp2_with (first
    | (go_at_call 13; refine (HC.out.nan _).mono ?_; rintro e w' ⟨rfl, rfl⟩)
    | (go_at_call 14; refine (HC.out.inf _).mono ?_; rintro e w' ⟨rfl, rfl⟩)
    | (go_at_call 24; refine (HC.out.sho _).mono ?_; rintro e w1 ⟨rfl, hb1⟩; have HB1 := Lib.hid hb1; clear hb1)
    | (go_at_call 25; go_simp; refine (noughts_any n _ (by omega)).mono ?_; rintro e w' ⟨rfl, rfl⟩))
  go_ret
  refine ⟨retS (s := _) ?_, HB1.out⟩
  apply ByteArray.ext
  simp

set_option maxRecDepth 100000 in
set_option maxHeartbeats 2000000 in
theorem rtext_b (u : Nat) (T : List UInt8) (m : Nat) (hT : T.length ≤ 17) (h0 : 0 < m) (h : m ≤ 15) (hl : T.length ≤ m) (s0 : bits .and .u64 (u : Int) 9223372036854775808 = 0) (z0 : ((u : Int) == 0) = false) (HC : Hid (TxtC u T (m : Int))) (w : World) :
    Calls Tryz.prog 8 #[.int .u64 u] w (RetT w (txt T (m : Int))) := by
  rw [txt_b T m h0 h hl]
  obtain ⟨d, hd⟩ : ∃ d : Nat, d = m - T.length := ⟨_, rfl⟩
  rw [← hd]
  have hd2 : (m : Int) - (T.length : Int) = (d : Int) := by omega
  have HD := Lib.hid (noughts_any d)
  have hd3 : d ≤ 15 := by omega
  clear hd
  go_enter Tryz.func8, Tryz.ntmps8
  go_wp2_with (first
    | (go_at_call 13; refine (HC.out.nan _).mono ?_; rintro e w' ⟨rfl, rfl⟩)
    | (go_at_call 14; refine (HC.out.inf _).mono ?_; rintro e w' ⟨rfl, rfl⟩)
    | (go_at_call 24; refine (HC.out.sho _).mono ?_; rintro e w1 ⟨rfl, hb1⟩; have HB1 := Lib.hid hb1; clear hb1)
    | (go_at_call 25; go_simp; refine (HD.out _ (by omega)).mono ?_; rintro e w' ⟨rfl, rfl⟩))
  go_ret
  refine ⟨retS (s := _) ?_, HB1.out⟩
  apply ByteArray.ext
  simp

set_option maxRecDepth 100000 in
set_option maxHeartbeats 2000000 in
theorem rtext_c (u : Nat) (T : List UInt8) (m : Nat) (hT : T.length ≤ 17) (h0 : 0 < m) (h : m ≤ 15) (hl : m < T.length) (s0 : bits .and .u64 (u : Int) 9223372036854775808 = 0) (z0 : ((u : Int) == 0) = false) (HC : Hid (TxtC u T (m : Int))) (w : World) :
    Calls Tryz.prog 8 #[.int .u64 u] w (RetT w (txt T (m : Int))) := by
  rw [txt_c T m h0 h hl]
  go_enter Tryz.func8, Tryz.ntmps8
  go_wp2_with (first
    | (go_at_call 13; refine (HC.out.nan _).mono ?_; rintro e w' ⟨rfl, rfl⟩)
    | (go_at_call 14; refine (HC.out.inf _).mono ?_; rintro e w' ⟨rfl, rfl⟩)
    | (go_at_call 24; refine (HC.out.sho _).mono ?_; rintro e w1 ⟨rfl, hb1⟩; have HB1 := Lib.hid hb1; clear hb1))
  go_region
  go_wp2
  go_ret
  refine ⟨retS (s := _) ?_, HB1.out.drew⟩
  rw [bytes_take, bytes_drop]
  apply ByteArray.ext
  simp
end Go.Proofs.YtijncfidjjfmiaaGreatDoor
