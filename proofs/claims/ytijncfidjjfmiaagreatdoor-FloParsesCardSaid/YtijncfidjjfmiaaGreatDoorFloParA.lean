/- The program's digits: how many digits a text begins with. The program's form: is a text a real's? The program's form, as a plain function. The library's TrimLeft, at noughts. -/
import Derived.Test.YtijncfidjjfmiaaGreatDoorFloTxtG
import Derived.Test.YtijncfidjjfmiaaGreatDoorFloWalkN
import Derived.Test.YtijncfidjjfmiaaGreatDoorFloEnv
import Derived.Test.YtijncfidjjfmiaaGreatDoorShelf
import Derived.Deep.LoopGhost
namespace Go.Proofs.YtijncfidjjfmiaaGreatDoor
open Go.RowKit FloM

def isD (c : UInt8) : Bool := decide (48 ≤ c.toNat) && decide (c.toNat ≤ 57)
theorem isD_iff {c : UInt8} : isD c = true ↔ 48 ≤ c.toNat ∧ c.toNat ≤ 57 := by unfold isD; simp
/-- How many digits a text begins with. -/
def lead (s : List UInt8) : Nat := (s.takeWhile isD).length

theorem lead_le (s : List UInt8) : lead s ≤ s.length := (List.takeWhile_prefix isD).length_le
theorem lead_is : ∀ {s : List UInt8} {k : Nat}, k < lead s → ∃ c, s[k]? = some c ∧ isD c = true
  | [], k, h => by simp [lead] at h
  | x :: s, k, h => by
    unfold lead at h
    rw [List.takeWhile_cons] at h
    split at h
    · rename_i hx
      cases k with
      | zero => exact ⟨x, rfl, hx⟩
      | succ k =>
        obtain ⟨c, h1, h2⟩ := lead_is (s := s) (k := k) (by rw [List.length_cons] at h; exact Nat.lt_of_succ_lt_succ h)
        exact ⟨c, h1, h2⟩
    · simp at h
theorem lead_end : ∀ {s : List UInt8}, lead s < s.length → ∃ c, s[lead s]? = some c ∧ isD c = false
  | [], h => by simp at h
  | x :: s, h => by
    by_cases hx : isD x = true
    · have e : lead (x :: s) = lead s + 1 := by unfold lead; rw [List.takeWhile_cons, if_pos hx]; rfl
      rw [e] at h ⊢
      obtain ⟨c, h1, h2⟩ := lead_end (s := s) (by simpa using h)
      exact ⟨c, h1, h2⟩
    · have e : lead (x :: s) = 0 := by unfold lead; rw [List.takeWhile_cons, if_neg hx]; rfl
      rw [e]
      exact ⟨x, rfl, by simpa using hx⟩

theorem str_get {s : List UInt8} {k : Nat} {c : UInt8} (h : s[k]? = some c) (hk : k < (ByteArray.mk s.toArray).size) : (ByteArray.mk s.toArray)[k] = c := by
  obtain ⟨h1, h2⟩ := List.getElem?_eq_some_iff.1 h
  exact h2

set_option maxRecDepth 100000 in
set_option maxHeartbeats 1000000 in
theorem fdigits_any (s : List UInt8) (hs : s.length ≤ 5000) (w : World) :
    Calls Tryz.prog 60 #[.string ⟨s.toArray⟩] w fun e w' => e = .returned (.int .i64 (lead s : Nat)) ∧ w = w' := by
  have hsz : (ByteArray.mk s.toArray).size = s.length := by simp [ByteArray.size]
  go_enter Tryz.func60, Tryz.ntmps60
  go_wp2
  go_loop [3] (fun i => ∃ k : Nat, k ≤ lead s ∧ i = .int .i64 k) (fun i => s.length - (intOf i).toNat)
  case atStart => exact ⟨0, Nat.zero_le _, rfl⟩
  case round =>
    obtain ⟨k, hk, rfl⟩ := hrel
    have hl := lead_le s
    have HL := Lib.hid hl
    by_cases hlt : k < lead s
    · obtain ⟨c, hc, hd⟩ := lead_is hlt
      have hk2 : k < s.length := by omega
      have hg := str_get hc (by rw [hsz]; exact hk2)
      obtain ⟨d1, d2⟩ := isD_iff.1 hd
      clear hc hd
      go_wp2
      go_round
      case rel => exact ⟨k + 1, by omega, by go_num⟩
      case measure => simp [intOf]; omega
    · have e : k = lead s := by omega
      rcases Nat.lt_or_ge (lead s) s.length with h2 | h2
      · obtain ⟨c, hc, hd⟩ := lead_end h2
        rw [← e] at hc
        have hk2 : k < s.length := by omega
        have hg := str_get hc (by rw [hsz]; exact hk2)
        have HE := Lib.hid e
        have hd2 : ¬ (48 ≤ c.toNat ∧ c.toNat ≤ 57) := fun h => by rw [isD_iff.2 h] at hd; cases hd
        clear hc hd e hlt hk hl h2
        by_cases d1 : 48 ≤ c.toNat
        · have d3 : 57 < c.toNat := by omega
          clear hd2
          go_wp2
          go_ret
          exact ⟨ret_int (by rw [HE.out]), rfl⟩
        · clear hd2
          have d3 : c.toNat < 48 := by omega
          go_wp2
          go_ret
          exact ⟨ret_int (by rw [HE.out]), rfl⟩
      · have HE := Lib.hid e
        have hk2 : k = s.length := by omega
        clear e hlt hk hl h2
        go_wp2
        go_ret
        exact ⟨ret_int (by have := HE.out; omega), rfl⟩
end Go.Proofs.YtijncfidjjfmiaaGreatDoor

namespace Go.Proofs.YtijncfidjjfmiaaGreatDoor
open Go.RowKit FloM

set_option maxRecDepth 100000 in
set_option maxHeartbeats 1000000 in
theorem form_a (S0 S1 : ByteArray) (n1 : Nat)
    (HT0 : Hid (∀ w, Calls Tryz.prog 59 #[.string S0, .string ⟨#[126]⟩] w fun e w' => e = .returned (.string S1) ∧ w = w'))
    (HD1 : Hid (∀ w, Calls Tryz.prog 60 #[.string S1] w fun e w' => e = .returned (.int .i64 (n1 : Nat)) ∧ w = w'))
    (q1 : ((n1 : Int) == 0) = true) (w : World) :
    Calls Tryz.prog 29 #[.string S0] w fun e w' => e = .returned (.bool false) ∧ w = w' := by
  go_enter Tryz.func29, Tryz.ntmps29
  go_wp2_with (first
    | (go_at_call 59; ((with_reducible refine (HT0.out _).mono ?_); rintro e w' ⟨rfl, rfl⟩))
    | (go_at_call 60; ((with_reducible refine (HD1.out _).mono ?_); rintro e w' ⟨rfl, rfl⟩)))
  go_ret
  exact ⟨rfl, rfl⟩

set_option maxRecDepth 100000 in
set_option maxHeartbeats 1000000 in
theorem form_b (S0 S1 : ByteArray) (n1 : Nat)
    (HT0 : Hid (∀ w, Calls Tryz.prog 59 #[.string S0, .string ⟨#[126]⟩] w fun e w' => e = .returned (.string S1) ∧ w = w'))
    (HD1 : Hid (∀ w, Calls Tryz.prog 60 #[.string S1] w fun e w' => e = .returned (.int .i64 (n1 : Nat)) ∧ w = w'))
    (q1 : ((n1 : Int) == 0) = false)
    (q2 : ((n1 : Int) == (S1.size : Int)) = true) (w : World) :
    Calls Tryz.prog 29 #[.string S0] w fun e w' => e = .returned (.bool false) ∧ w = w' := by
  go_enter Tryz.func29, Tryz.ntmps29
  go_wp2_with (first
    | (go_at_call 59; ((with_reducible refine (HT0.out _).mono ?_); rintro e w' ⟨rfl, rfl⟩))
    | (go_at_call 60; ((with_reducible refine (HD1.out _).mono ?_); rintro e w' ⟨rfl, rfl⟩)))
  go_ret
  exact ⟨rfl, rfl⟩

set_option maxRecDepth 100000 in
set_option maxHeartbeats 1000000 in
theorem form_c (S0 S1 S2 S3 : ByteArray) (n1 n3 : Nat) (c2 : UInt8)
    (HT0 : Hid (∀ w, Calls Tryz.prog 59 #[.string S0, .string ⟨#[126]⟩] w fun e w' => e = .returned (.string S1) ∧ w = w'))
    (HD1 : Hid (∀ w, Calls Tryz.prog 60 #[.string S1] w fun e w' => e = .returned (.int .i64 (n1 : Nat)) ∧ w = w'))
    (q1 : ((n1 : Int) == 0) = false)
    (q2 : ((n1 : Int) == (S1.size : Int)) = false) (r1 : (n1 : Int) ≤ (S1.size : Int)) (x2 : S1.extract n1 S1.size = S2) (z2 : 0 < S2.size) (_z2i : (0 : Int) < (S2.size : Int)) (z2j : (1 : Int) ≤ (S2.size : Int)) (y2 : S2[0] = c2)
    (q3 : ((c2.toNat : Int) == 46) = true) (x3 : S2.extract 1 S2.size = S3)
    (HD3 : Hid (∀ w, Calls Tryz.prog 60 #[.string S3] w fun e w' => e = .returned (.int .i64 (n3 : Nat)) ∧ w = w'))
    (q4 : ((n3 : Int) == 0) = true) (w : World) :
    Calls Tryz.prog 29 #[.string S0] w fun e w' => e = .returned (.bool false) ∧ w = w' := by
  go_enter Tryz.func29, Tryz.ntmps29
  go_wp2_with (first
    | (go_at_call 59; ((with_reducible refine (HT0.out _).mono ?_); rintro e w' ⟨rfl, rfl⟩))
    | (go_at_call 60; ((with_reducible refine (HD1.out _).mono ?_); rintro e w' ⟨rfl, rfl⟩))
    | (go_at_call 60; ((with_reducible refine (HD3.out _).mono ?_); rintro e w' ⟨rfl, rfl⟩)))
  go_ret
  exact ⟨rfl, rfl⟩

set_option maxRecDepth 100000 in
set_option maxHeartbeats 1000000 in
theorem form_d_t1 (S0 S1 S2 S3 S4 : ByteArray) (n1 n3 : Nat) (c2 : UInt8)
    (HT0 : Hid (∀ w, Calls Tryz.prog 59 #[.string S0, .string ⟨#[126]⟩] w fun e w' => e = .returned (.string S1) ∧ w = w'))
    (HD1 : Hid (∀ w, Calls Tryz.prog 60 #[.string S1] w fun e w' => e = .returned (.int .i64 (n1 : Nat)) ∧ w = w'))
    (q1 : ((n1 : Int) == 0) = false)
    (q2 : ((n1 : Int) == (S1.size : Int)) = false) (r1 : (n1 : Int) ≤ (S1.size : Int)) (x2 : S1.extract n1 S1.size = S2) (z2 : 0 < S2.size) (_z2i : (0 : Int) < (S2.size : Int)) (z2j : (1 : Int) ≤ (S2.size : Int)) (y2 : S2[0] = c2)
    (q3 : ((c2.toNat : Int) == 46) = true) (x3 : S2.extract 1 S2.size = S3)
    (HD3 : Hid (∀ w, Calls Tryz.prog 60 #[.string S3] w fun e w' => e = .returned (.int .i64 (n3 : Nat)) ∧ w = w'))
    (q4 : ((n3 : Int) == 0) = false) (b3 : n3 ≤ 5000) (r3 : (1 : Int) + (n3 : Int) ≤ (S2.size : Int)) (x4 : S2.extract (1 + n3) S2.size = S4)
    (q5 : S4.toList.isEmpty = true) (w : World) :
    Calls Tryz.prog 29 #[.string S0] w fun e w' => e = .returned (.bool true) ∧ w = w' := by
  go_enter Tryz.func29, Tryz.ntmps29
  go_wp2_with (first
    | (go_at_call 59; ((with_reducible refine (HT0.out _).mono ?_); rintro e w' ⟨rfl, rfl⟩))
    | (go_at_call 60; ((with_reducible refine (HD1.out _).mono ?_); rintro e w' ⟨rfl, rfl⟩))
    | (go_at_call 60; ((with_reducible refine (HD3.out _).mono ?_); rintro e w' ⟨rfl, rfl⟩)))
  go_ret
  exact ⟨rfl, rfl⟩

set_option maxRecDepth 100000 in
set_option maxHeartbeats 1000000 in
theorem form_d_t2 (S0 S1 S2 S3 S4 : ByteArray) (n1 n3 : Nat) (c2 c4 : UInt8)
    (HT0 : Hid (∀ w, Calls Tryz.prog 59 #[.string S0, .string ⟨#[126]⟩] w fun e w' => e = .returned (.string S1) ∧ w = w'))
    (HD1 : Hid (∀ w, Calls Tryz.prog 60 #[.string S1] w fun e w' => e = .returned (.int .i64 (n1 : Nat)) ∧ w = w'))
    (q1 : ((n1 : Int) == 0) = false)
    (q2 : ((n1 : Int) == (S1.size : Int)) = false) (r1 : (n1 : Int) ≤ (S1.size : Int)) (x2 : S1.extract n1 S1.size = S2) (z2 : 0 < S2.size) (_z2i : (0 : Int) < (S2.size : Int)) (z2j : (1 : Int) ≤ (S2.size : Int)) (y2 : S2[0] = c2)
    (q3 : ((c2.toNat : Int) == 46) = true) (x3 : S2.extract 1 S2.size = S3)
    (HD3 : Hid (∀ w, Calls Tryz.prog 60 #[.string S3] w fun e w' => e = .returned (.int .i64 (n3 : Nat)) ∧ w = w'))
    (q4 : ((n3 : Int) == 0) = false) (b3 : n3 ≤ 5000) (r3 : (1 : Int) + (n3 : Int) ≤ (S2.size : Int)) (x4 : S2.extract (1 + n3) S2.size = S4)
    (q5 : S4.toList.isEmpty = false)
    (z4 : 0 < S4.size) (_z4i : (0 : Int) < (S4.size : Int)) (_z4j : (1 : Int) ≤ (S4.size : Int)) (y4 : S4[0] = c4)
    (q6 : ((c4.toNat : Int) != 69) = true) (q7 : ((c4.toNat : Int) != 101) = true) (w : World) :
    Calls Tryz.prog 29 #[.string S0] w fun e w' => e = .returned (.bool false) ∧ w = w' := by
  go_enter Tryz.func29, Tryz.ntmps29
  go_wp2_with (first
    | (go_at_call 59; ((with_reducible refine (HT0.out _).mono ?_); rintro e w' ⟨rfl, rfl⟩))
    | (go_at_call 60; ((with_reducible refine (HD1.out _).mono ?_); rintro e w' ⟨rfl, rfl⟩))
    | (go_at_call 60; ((with_reducible refine (HD3.out _).mono ?_); rintro e w' ⟨rfl, rfl⟩)))
  go_ret
  exact ⟨rfl, rfl⟩

set_option maxRecDepth 100000 in
set_option maxHeartbeats 1000000 in
theorem form_d_t3E0 (S0 S1 S2 S3 S4 S5 S6 : ByteArray) (n1 n3 : Nat) (c2 c4 : UInt8)
    (HT0 : Hid (∀ w, Calls Tryz.prog 59 #[.string S0, .string ⟨#[126]⟩] w fun e w' => e = .returned (.string S1) ∧ w = w'))
    (HD1 : Hid (∀ w, Calls Tryz.prog 60 #[.string S1] w fun e w' => e = .returned (.int .i64 (n1 : Nat)) ∧ w = w'))
    (q1 : ((n1 : Int) == 0) = false)
    (q2 : ((n1 : Int) == (S1.size : Int)) = false) (r1 : (n1 : Int) ≤ (S1.size : Int)) (x2 : S1.extract n1 S1.size = S2) (z2 : 0 < S2.size) (_z2i : (0 : Int) < (S2.size : Int)) (z2j : (1 : Int) ≤ (S2.size : Int)) (y2 : S2[0] = c2)
    (q3 : ((c2.toNat : Int) == 46) = true) (x3 : S2.extract 1 S2.size = S3)
    (HD3 : Hid (∀ w, Calls Tryz.prog 60 #[.string S3] w fun e w' => e = .returned (.int .i64 (n3 : Nat)) ∧ w = w'))
    (q4 : ((n3 : Int) == 0) = false) (b3 : n3 ≤ 5000) (r3 : (1 : Int) + (n3 : Int) ≤ (S2.size : Int)) (x4 : S2.extract (1 + n3) S2.size = S4)
    (q5 : S4.toList.isEmpty = false)
    (z4 : 0 < S4.size) (_z4i : (0 : Int) < (S4.size : Int)) (z4j : (1 : Int) ≤ (S4.size : Int)) (y4 : S4[0] = c4)
    (q6 : ((c4.toNat : Int) != 69) = false)
    (x5 : S4.extract 1 S4.size = S5)
    (HT5 : Hid (∀ w, Calls Tryz.prog 59 #[.string S5, .string ⟨#[126]⟩] w fun e w' => e = .returned (.string S6) ∧ w = w'))
    (q8 : S6.toList.isEmpty = true) (w : World) :
    Calls Tryz.prog 29 #[.string S0] w fun e w' => e = .returned (.bool false) ∧ w = w' := by
  go_enter Tryz.func29, Tryz.ntmps29
  go_wp2_with (first
    | (go_at_call 59; ((with_reducible refine (HT0.out _).mono ?_); rintro e w' ⟨rfl, rfl⟩))
    | (go_at_call 60; ((with_reducible refine (HD1.out _).mono ?_); rintro e w' ⟨rfl, rfl⟩))
    | (go_at_call 60; ((with_reducible refine (HD3.out _).mono ?_); rintro e w' ⟨rfl, rfl⟩))
    | (go_at_call 59; ((with_reducible refine (HT5.out _).mono ?_); rintro e w' ⟨rfl, rfl⟩)))
  go_ret
  exact ⟨rfl, rfl⟩

set_option maxRecDepth 100000 in
set_option maxHeartbeats 1000000 in
theorem form_d_t3E1 (S0 S1 S2 S3 S4 S5 S6 : ByteArray) (n1 n3 n6 : Nat) (c2 c4 : UInt8) (R : Bool)
    (HT0 : Hid (∀ w, Calls Tryz.prog 59 #[.string S0, .string ⟨#[126]⟩] w fun e w' => e = .returned (.string S1) ∧ w = w'))
    (HD1 : Hid (∀ w, Calls Tryz.prog 60 #[.string S1] w fun e w' => e = .returned (.int .i64 (n1 : Nat)) ∧ w = w'))
    (q1 : ((n1 : Int) == 0) = false)
    (q2 : ((n1 : Int) == (S1.size : Int)) = false) (r1 : (n1 : Int) ≤ (S1.size : Int)) (x2 : S1.extract n1 S1.size = S2) (z2 : 0 < S2.size) (_z2i : (0 : Int) < (S2.size : Int)) (z2j : (1 : Int) ≤ (S2.size : Int)) (y2 : S2[0] = c2)
    (q3 : ((c2.toNat : Int) == 46) = true) (x3 : S2.extract 1 S2.size = S3)
    (HD3 : Hid (∀ w, Calls Tryz.prog 60 #[.string S3] w fun e w' => e = .returned (.int .i64 (n3 : Nat)) ∧ w = w'))
    (q4 : ((n3 : Int) == 0) = false) (b3 : n3 ≤ 5000) (r3 : (1 : Int) + (n3 : Int) ≤ (S2.size : Int)) (x4 : S2.extract (1 + n3) S2.size = S4)
    (q5 : S4.toList.isEmpty = false)
    (z4 : 0 < S4.size) (_z4i : (0 : Int) < (S4.size : Int)) (z4j : (1 : Int) ≤ (S4.size : Int)) (y4 : S4[0] = c4)
    (q6 : ((c4.toNat : Int) != 69) = false)
    (x5 : S4.extract 1 S4.size = S5)
    (HT5 : Hid (∀ w, Calls Tryz.prog 59 #[.string S5, .string ⟨#[126]⟩] w fun e w' => e = .returned (.string S6) ∧ w = w'))
    (q8 : S6.toList.isEmpty = false)
    (HD6 : Hid (∀ w, Calls Tryz.prog 60 #[.string S6] w fun e w' => e = .returned (.int .i64 (n6 : Nat)) ∧ w = w'))
    (q9 : ((n6 : Int) == (S6.size : Int)) = R) (w : World) :
    Calls Tryz.prog 29 #[.string S0] w fun e w' => e = .returned (.bool R) ∧ w = w' := by
  cases R
  all_goals
    go_enter Tryz.func29, Tryz.ntmps29
    go_wp2_with (first
      | (go_at_call 59; ((with_reducible refine (HT0.out _).mono ?_); rintro e w' ⟨rfl, rfl⟩))
      | (go_at_call 60; ((with_reducible refine (HD1.out _).mono ?_); rintro e w' ⟨rfl, rfl⟩))
      | (go_at_call 60; ((with_reducible refine (HD3.out _).mono ?_); rintro e w' ⟨rfl, rfl⟩))
      | (go_at_call 59; ((with_reducible refine (HT5.out _).mono ?_); rintro e w' ⟨rfl, rfl⟩))
      | (go_at_call 60; ((with_reducible refine (HD6.out _).mono ?_); rintro e w' ⟨rfl, rfl⟩)))
    go_ret
    exact ⟨rfl, rfl⟩

set_option maxRecDepth 100000 in
set_option maxHeartbeats 1000000 in
theorem form_d_t3e0 (S0 S1 S2 S3 S4 S5 S6 : ByteArray) (n1 n3 : Nat) (c2 c4 : UInt8)
    (HT0 : Hid (∀ w, Calls Tryz.prog 59 #[.string S0, .string ⟨#[126]⟩] w fun e w' => e = .returned (.string S1) ∧ w = w'))
    (HD1 : Hid (∀ w, Calls Tryz.prog 60 #[.string S1] w fun e w' => e = .returned (.int .i64 (n1 : Nat)) ∧ w = w'))
    (q1 : ((n1 : Int) == 0) = false)
    (q2 : ((n1 : Int) == (S1.size : Int)) = false) (r1 : (n1 : Int) ≤ (S1.size : Int)) (x2 : S1.extract n1 S1.size = S2) (z2 : 0 < S2.size) (_z2i : (0 : Int) < (S2.size : Int)) (z2j : (1 : Int) ≤ (S2.size : Int)) (y2 : S2[0] = c2)
    (q3 : ((c2.toNat : Int) == 46) = true) (x3 : S2.extract 1 S2.size = S3)
    (HD3 : Hid (∀ w, Calls Tryz.prog 60 #[.string S3] w fun e w' => e = .returned (.int .i64 (n3 : Nat)) ∧ w = w'))
    (q4 : ((n3 : Int) == 0) = false) (b3 : n3 ≤ 5000) (r3 : (1 : Int) + (n3 : Int) ≤ (S2.size : Int)) (x4 : S2.extract (1 + n3) S2.size = S4)
    (q5 : S4.toList.isEmpty = false)
    (z4 : 0 < S4.size) (_z4i : (0 : Int) < (S4.size : Int)) (z4j : (1 : Int) ≤ (S4.size : Int)) (y4 : S4[0] = c4)
    (q6 : ((c4.toNat : Int) != 69) = true) (q7 : ((c4.toNat : Int) != 101) = false)
    (x5 : S4.extract 1 S4.size = S5)
    (HT5 : Hid (∀ w, Calls Tryz.prog 59 #[.string S5, .string ⟨#[126]⟩] w fun e w' => e = .returned (.string S6) ∧ w = w'))
    (q8 : S6.toList.isEmpty = true) (w : World) :
    Calls Tryz.prog 29 #[.string S0] w fun e w' => e = .returned (.bool false) ∧ w = w' := by
  go_enter Tryz.func29, Tryz.ntmps29
  go_wp2_with (first
    | (go_at_call 59; ((with_reducible refine (HT0.out _).mono ?_); rintro e w' ⟨rfl, rfl⟩))
    | (go_at_call 60; ((with_reducible refine (HD1.out _).mono ?_); rintro e w' ⟨rfl, rfl⟩))
    | (go_at_call 60; ((with_reducible refine (HD3.out _).mono ?_); rintro e w' ⟨rfl, rfl⟩))
    | (go_at_call 59; ((with_reducible refine (HT5.out _).mono ?_); rintro e w' ⟨rfl, rfl⟩)))
  go_ret
  exact ⟨rfl, rfl⟩

set_option maxRecDepth 100000 in
set_option maxHeartbeats 1000000 in
theorem form_d_t3e1 (S0 S1 S2 S3 S4 S5 S6 : ByteArray) (n1 n3 n6 : Nat) (c2 c4 : UInt8) (R : Bool)
    (HT0 : Hid (∀ w, Calls Tryz.prog 59 #[.string S0, .string ⟨#[126]⟩] w fun e w' => e = .returned (.string S1) ∧ w = w'))
    (HD1 : Hid (∀ w, Calls Tryz.prog 60 #[.string S1] w fun e w' => e = .returned (.int .i64 (n1 : Nat)) ∧ w = w'))
    (q1 : ((n1 : Int) == 0) = false)
    (q2 : ((n1 : Int) == (S1.size : Int)) = false) (r1 : (n1 : Int) ≤ (S1.size : Int)) (x2 : S1.extract n1 S1.size = S2) (z2 : 0 < S2.size) (_z2i : (0 : Int) < (S2.size : Int)) (z2j : (1 : Int) ≤ (S2.size : Int)) (y2 : S2[0] = c2)
    (q3 : ((c2.toNat : Int) == 46) = true) (x3 : S2.extract 1 S2.size = S3)
    (HD3 : Hid (∀ w, Calls Tryz.prog 60 #[.string S3] w fun e w' => e = .returned (.int .i64 (n3 : Nat)) ∧ w = w'))
    (q4 : ((n3 : Int) == 0) = false) (b3 : n3 ≤ 5000) (r3 : (1 : Int) + (n3 : Int) ≤ (S2.size : Int)) (x4 : S2.extract (1 + n3) S2.size = S4)
    (q5 : S4.toList.isEmpty = false)
    (z4 : 0 < S4.size) (_z4i : (0 : Int) < (S4.size : Int)) (z4j : (1 : Int) ≤ (S4.size : Int)) (y4 : S4[0] = c4)
    (q6 : ((c4.toNat : Int) != 69) = true) (q7 : ((c4.toNat : Int) != 101) = false)
    (x5 : S4.extract 1 S4.size = S5)
    (HT5 : Hid (∀ w, Calls Tryz.prog 59 #[.string S5, .string ⟨#[126]⟩] w fun e w' => e = .returned (.string S6) ∧ w = w'))
    (q8 : S6.toList.isEmpty = false)
    (HD6 : Hid (∀ w, Calls Tryz.prog 60 #[.string S6] w fun e w' => e = .returned (.int .i64 (n6 : Nat)) ∧ w = w'))
    (q9 : ((n6 : Int) == (S6.size : Int)) = R) (w : World) :
    Calls Tryz.prog 29 #[.string S0] w fun e w' => e = .returned (.bool R) ∧ w = w' := by
  cases R
  all_goals
    go_enter Tryz.func29, Tryz.ntmps29
    go_wp2_with (first
      | (go_at_call 59; ((with_reducible refine (HT0.out _).mono ?_); rintro e w' ⟨rfl, rfl⟩))
      | (go_at_call 60; ((with_reducible refine (HD1.out _).mono ?_); rintro e w' ⟨rfl, rfl⟩))
      | (go_at_call 60; ((with_reducible refine (HD3.out _).mono ?_); rintro e w' ⟨rfl, rfl⟩))
      | (go_at_call 59; ((with_reducible refine (HT5.out _).mono ?_); rintro e w' ⟨rfl, rfl⟩))
      | (go_at_call 60; ((with_reducible refine (HD6.out _).mono ?_); rintro e w' ⟨rfl, rfl⟩)))
    go_ret
    exact ⟨rfl, rfl⟩

set_option maxRecDepth 100000 in
set_option maxHeartbeats 1000000 in
theorem form_e_t2 (S0 S1 S2 : ByteArray) (n1 : Nat) (c2 : UInt8)
    (HT0 : Hid (∀ w, Calls Tryz.prog 59 #[.string S0, .string ⟨#[126]⟩] w fun e w' => e = .returned (.string S1) ∧ w = w'))
    (HD1 : Hid (∀ w, Calls Tryz.prog 60 #[.string S1] w fun e w' => e = .returned (.int .i64 (n1 : Nat)) ∧ w = w'))
    (q1 : ((n1 : Int) == 0) = false)
    (q2 : ((n1 : Int) == (S1.size : Int)) = false) (r1 : (n1 : Int) ≤ (S1.size : Int)) (x2 : S1.extract n1 S1.size = S2) (z2 : 0 < S2.size) (_z2i : (0 : Int) < (S2.size : Int)) (_z2j : (1 : Int) ≤ (S2.size : Int)) (y2 : S2[0] = c2)
    (q3 : ((c2.toNat : Int) == 46) = false)
    (q5 : S2.toList.isEmpty = false)
    (q6 : ((c2.toNat : Int) != 69) = true) (q7 : ((c2.toNat : Int) != 101) = true) (w : World) :
    Calls Tryz.prog 29 #[.string S0] w fun e w' => e = .returned (.bool false) ∧ w = w' := by
  go_enter Tryz.func29, Tryz.ntmps29
  go_wp2_with (first
    | (go_at_call 59; ((with_reducible refine (HT0.out _).mono ?_); rintro e w' ⟨rfl, rfl⟩))
    | (go_at_call 60; ((with_reducible refine (HD1.out _).mono ?_); rintro e w' ⟨rfl, rfl⟩)))
  go_ret
  exact ⟨rfl, rfl⟩

set_option maxRecDepth 100000 in
set_option maxHeartbeats 1000000 in
theorem form_e_t3E0 (S0 S1 S2 S5 S6 : ByteArray) (n1 : Nat) (c2 : UInt8)
    (HT0 : Hid (∀ w, Calls Tryz.prog 59 #[.string S0, .string ⟨#[126]⟩] w fun e w' => e = .returned (.string S1) ∧ w = w'))
    (HD1 : Hid (∀ w, Calls Tryz.prog 60 #[.string S1] w fun e w' => e = .returned (.int .i64 (n1 : Nat)) ∧ w = w'))
    (q1 : ((n1 : Int) == 0) = false)
    (q2 : ((n1 : Int) == (S1.size : Int)) = false) (r1 : (n1 : Int) ≤ (S1.size : Int)) (x2 : S1.extract n1 S1.size = S2) (z2 : 0 < S2.size) (_z2i : (0 : Int) < (S2.size : Int)) (z2j : (1 : Int) ≤ (S2.size : Int)) (y2 : S2[0] = c2)
    (q3 : ((c2.toNat : Int) == 46) = false)
    (q5 : S2.toList.isEmpty = false)
    (q6 : ((c2.toNat : Int) != 69) = false)
    (x5 : S2.extract 1 S2.size = S5)
    (HT5 : Hid (∀ w, Calls Tryz.prog 59 #[.string S5, .string ⟨#[126]⟩] w fun e w' => e = .returned (.string S6) ∧ w = w'))
    (q8 : S6.toList.isEmpty = true) (w : World) :
    Calls Tryz.prog 29 #[.string S0] w fun e w' => e = .returned (.bool false) ∧ w = w' := by
  go_enter Tryz.func29, Tryz.ntmps29
  go_wp2_with (first
    | (go_at_call 59; ((with_reducible refine (HT0.out _).mono ?_); rintro e w' ⟨rfl, rfl⟩))
    | (go_at_call 60; ((with_reducible refine (HD1.out _).mono ?_); rintro e w' ⟨rfl, rfl⟩))
    | (go_at_call 59; ((with_reducible refine (HT5.out _).mono ?_); rintro e w' ⟨rfl, rfl⟩)))
  go_ret
  exact ⟨rfl, rfl⟩

set_option maxRecDepth 100000 in
set_option maxHeartbeats 1000000 in
theorem form_e_t3E1 (S0 S1 S2 S5 S6 : ByteArray) (n1 n6 : Nat) (c2 : UInt8) (R : Bool)
    (HT0 : Hid (∀ w, Calls Tryz.prog 59 #[.string S0, .string ⟨#[126]⟩] w fun e w' => e = .returned (.string S1) ∧ w = w'))
    (HD1 : Hid (∀ w, Calls Tryz.prog 60 #[.string S1] w fun e w' => e = .returned (.int .i64 (n1 : Nat)) ∧ w = w'))
    (q1 : ((n1 : Int) == 0) = false)
    (q2 : ((n1 : Int) == (S1.size : Int)) = false) (r1 : (n1 : Int) ≤ (S1.size : Int)) (x2 : S1.extract n1 S1.size = S2) (z2 : 0 < S2.size) (_z2i : (0 : Int) < (S2.size : Int)) (z2j : (1 : Int) ≤ (S2.size : Int)) (y2 : S2[0] = c2)
    (q3 : ((c2.toNat : Int) == 46) = false)
    (q5 : S2.toList.isEmpty = false)
    (q6 : ((c2.toNat : Int) != 69) = false)
    (x5 : S2.extract 1 S2.size = S5)
    (HT5 : Hid (∀ w, Calls Tryz.prog 59 #[.string S5, .string ⟨#[126]⟩] w fun e w' => e = .returned (.string S6) ∧ w = w'))
    (q8 : S6.toList.isEmpty = false)
    (HD6 : Hid (∀ w, Calls Tryz.prog 60 #[.string S6] w fun e w' => e = .returned (.int .i64 (n6 : Nat)) ∧ w = w'))
    (q9 : ((n6 : Int) == (S6.size : Int)) = R) (w : World) :
    Calls Tryz.prog 29 #[.string S0] w fun e w' => e = .returned (.bool R) ∧ w = w' := by
  cases R
  all_goals
    go_enter Tryz.func29, Tryz.ntmps29
    go_wp2_with (first
      | (go_at_call 59; ((with_reducible refine (HT0.out _).mono ?_); rintro e w' ⟨rfl, rfl⟩))
      | (go_at_call 60; ((with_reducible refine (HD1.out _).mono ?_); rintro e w' ⟨rfl, rfl⟩))
      | (go_at_call 59; ((with_reducible refine (HT5.out _).mono ?_); rintro e w' ⟨rfl, rfl⟩))
      | (go_at_call 60; ((with_reducible refine (HD6.out _).mono ?_); rintro e w' ⟨rfl, rfl⟩)))
    go_ret
    exact ⟨rfl, rfl⟩

set_option maxRecDepth 100000 in
set_option maxHeartbeats 1000000 in
theorem form_e_t3e0 (S0 S1 S2 S5 S6 : ByteArray) (n1 : Nat) (c2 : UInt8)
    (HT0 : Hid (∀ w, Calls Tryz.prog 59 #[.string S0, .string ⟨#[126]⟩] w fun e w' => e = .returned (.string S1) ∧ w = w'))
    (HD1 : Hid (∀ w, Calls Tryz.prog 60 #[.string S1] w fun e w' => e = .returned (.int .i64 (n1 : Nat)) ∧ w = w'))
    (q1 : ((n1 : Int) == 0) = false)
    (q2 : ((n1 : Int) == (S1.size : Int)) = false) (r1 : (n1 : Int) ≤ (S1.size : Int)) (x2 : S1.extract n1 S1.size = S2) (z2 : 0 < S2.size) (_z2i : (0 : Int) < (S2.size : Int)) (z2j : (1 : Int) ≤ (S2.size : Int)) (y2 : S2[0] = c2)
    (q3 : ((c2.toNat : Int) == 46) = false)
    (q5 : S2.toList.isEmpty = false)
    (q6 : ((c2.toNat : Int) != 69) = true) (q7 : ((c2.toNat : Int) != 101) = false)
    (x5 : S2.extract 1 S2.size = S5)
    (HT5 : Hid (∀ w, Calls Tryz.prog 59 #[.string S5, .string ⟨#[126]⟩] w fun e w' => e = .returned (.string S6) ∧ w = w'))
    (q8 : S6.toList.isEmpty = true) (w : World) :
    Calls Tryz.prog 29 #[.string S0] w fun e w' => e = .returned (.bool false) ∧ w = w' := by
  go_enter Tryz.func29, Tryz.ntmps29
  go_wp2_with (first
    | (go_at_call 59; ((with_reducible refine (HT0.out _).mono ?_); rintro e w' ⟨rfl, rfl⟩))
    | (go_at_call 60; ((with_reducible refine (HD1.out _).mono ?_); rintro e w' ⟨rfl, rfl⟩))
    | (go_at_call 59; ((with_reducible refine (HT5.out _).mono ?_); rintro e w' ⟨rfl, rfl⟩)))
  go_ret
  exact ⟨rfl, rfl⟩

set_option maxRecDepth 100000 in
set_option maxHeartbeats 1000000 in
theorem form_e_t3e1 (S0 S1 S2 S5 S6 : ByteArray) (n1 n6 : Nat) (c2 : UInt8) (R : Bool)
    (HT0 : Hid (∀ w, Calls Tryz.prog 59 #[.string S0, .string ⟨#[126]⟩] w fun e w' => e = .returned (.string S1) ∧ w = w'))
    (HD1 : Hid (∀ w, Calls Tryz.prog 60 #[.string S1] w fun e w' => e = .returned (.int .i64 (n1 : Nat)) ∧ w = w'))
    (q1 : ((n1 : Int) == 0) = false)
    (q2 : ((n1 : Int) == (S1.size : Int)) = false) (r1 : (n1 : Int) ≤ (S1.size : Int)) (x2 : S1.extract n1 S1.size = S2) (z2 : 0 < S2.size) (_z2i : (0 : Int) < (S2.size : Int)) (z2j : (1 : Int) ≤ (S2.size : Int)) (y2 : S2[0] = c2)
    (q3 : ((c2.toNat : Int) == 46) = false)
    (q5 : S2.toList.isEmpty = false)
    (q6 : ((c2.toNat : Int) != 69) = true) (q7 : ((c2.toNat : Int) != 101) = false)
    (x5 : S2.extract 1 S2.size = S5)
    (HT5 : Hid (∀ w, Calls Tryz.prog 59 #[.string S5, .string ⟨#[126]⟩] w fun e w' => e = .returned (.string S6) ∧ w = w'))
    (q8 : S6.toList.isEmpty = false)
    (HD6 : Hid (∀ w, Calls Tryz.prog 60 #[.string S6] w fun e w' => e = .returned (.int .i64 (n6 : Nat)) ∧ w = w'))
    (q9 : ((n6 : Int) == (S6.size : Int)) = R) (w : World) :
    Calls Tryz.prog 29 #[.string S0] w fun e w' => e = .returned (.bool R) ∧ w = w' := by
  cases R
  all_goals
    go_enter Tryz.func29, Tryz.ntmps29
    go_wp2_with (first
      | (go_at_call 59; ((with_reducible refine (HT0.out _).mono ?_); rintro e w' ⟨rfl, rfl⟩))
      | (go_at_call 60; ((with_reducible refine (HD1.out _).mono ?_); rintro e w' ⟨rfl, rfl⟩))
      | (go_at_call 59; ((with_reducible refine (HT5.out _).mono ?_); rintro e w' ⟨rfl, rfl⟩))
      | (go_at_call 60; ((with_reducible refine (HD6.out _).mono ?_); rintro e w' ⟨rfl, rfl⟩)))
    go_ret
    exact ⟨rfl, rfl⟩
end Go.Proofs.YtijncfidjjfmiaaGreatDoor

namespace Go.Proofs.YtijncfidjjfmiaaGreatDoor
open Go.RowKit FloM

def trimT (s : List UInt8) : List UInt8 := Lib.trimPrefix s [126]
/-- Behind the digits: nothing, or an exponent. -/
def tailL (s : List UInt8) : Bool :=
  match s with
  | [] => true
  | c :: t => if c = 69 ∨ c = 101 then !(trimT t).isEmpty && (lead (trimT t) == (trimT t).length) else false
def formL (s0 : List UInt8) : Bool :=
  if lead (trimT s0) = 0 ∨ lead (trimT s0) = (trimT s0).length then false
  else match (trimT s0).drop (lead (trimT s0)) with
    | [] => false
    | c :: t => if c = 46 then (if lead t = 0 then false else tailL (t.drop (lead t))) else tailL (c :: t)

theorem size_mk (s : List UInt8) : (ByteArray.mk s.toArray).size = s.length := by simp [ByteArray.size]
theorem emp_mk (s : List UInt8) : (ByteArray.mk s.toArray).toList.isEmpty = s.isEmpty := by rw [Lib.toList_data]
theorem trim_len (s : List UInt8) : (trimT s).length ≤ s.length := by
  unfold trimT Lib.trimPrefix
  split
  · rw [List.length_drop]; omega
  · exact Nat.le_refl _

theorem trimT_any (s : List UInt8) (w : World) : Calls Tryz.prog 59 #[.string ⟨s.toArray⟩, .string ⟨#[126]⟩] w fun e w' => e = .returned (.string ⟨(trimT s).toArray⟩) ∧ w = w' :=
  (Tryz.strings_TrimPrefix ⟨s.toArray⟩ ⟨#[126]⟩ w).mono fun _ _ ⟨h, h2⟩ => ⟨h, h2.symm⟩

theorem b_true {a b : Int} (h : a = b) : (a == b) = true := beq_iff_eq.2 h
theorem b_false {a b : Int} (h : a ≠ b) : (a == b) = false := beq_eq_false_iff_ne.2 h
theorem n_true {a b : Int} (h : a ≠ b) : (a != b) = true := by unfold bne; rw [b_false h]; rfl
theorem n_false {a b : Int} (h : a = b) : (a != b) = false := by unfold bne; rw [b_true h]; rfl
theorem byte_int {c : UInt8} {k : Nat} {d : UInt8} (hd : d.toNat = k) : ((c.toNat : Int) = (k : Int)) ↔ c = d := by
  constructor
  · intro h
    have h2 : c.toNat = d.toNat := by rw [hd]; exact_mod_cast h
    exact UInt8.toNat_inj.1 h2
  · intro h; rw [h, hd]

theorem lead_lt {c : UInt8} {t : List UInt8} : lead (c :: t) ≤ lead t + 1 := by
  unfold lead
  rw [List.takeWhile_cons]
  split
  · simp
  · simp

set_option maxRecDepth 100000 in
theorem fform_any (s0 : List UInt8) (hs : s0.length ≤ 4096) (w : World) :
    Calls Tryz.prog 29 #[.string ⟨s0.toArray⟩] w fun e w' => e = .returned (.bool (formL s0)) ∧ w = w' := by
  have hl1 := trim_len s0
  have HT0 := fun w => trimT_any s0 w
  have HD1 := fun w => fdigits_any (trimT s0) (by omega) w
  unfold formL
  generalize trimT s0 = s1 at *
  have hle := lead_le s1
  generalize hn : lead s1 = n1 at *
  by_cases h1 : n1 = 0
  · rw [if_pos (.inl h1)]
    exact form_a _ _ n1 HT0 HD1 (b_true (by omega)) w
  by_cases h2 : n1 = s1.length
  · rw [if_pos (.inr h2)]
    exact form_b _ _ n1 HT0 HD1 (b_false (by omega)) (b_true (by rw [size_mk]; omega)) w
  rw [if_neg (by omega)]
  rcases hs2 : s1.drop n1 with _ | ⟨c, t⟩
  · have := congrArg List.length hs2
    rw [List.length_drop] at this
    simp at this
    omega
  have hlen : (c :: t).length = s1.length - n1 := by rw [← hs2, List.length_drop]
  have htl : t.length ≤ 4096 := by rw [List.length_cons] at hlen; omega
  have x2 : (ByteArray.mk s1.toArray).extract n1 (ByteArray.mk s1.toArray).size = ByteArray.mk (c :: t).toArray := by rw [size_mk, bytes_drop, hs2]
  have z2 : 0 < (ByteArray.mk (c :: t).toArray).size := by rw [size_mk]; simp
  have y2 : (ByteArray.mk (c :: t).toArray)[0] = c := str_get rfl z2
  have q1 : ((n1 : Int) == 0) = false := b_false (by omega)
  have q2 : ((n1 : Int) == ((ByteArray.mk s1.toArray).size : Int)) = false := b_false (by rw [size_mk]; omega)
  have r1 : (n1 : Int) ≤ ((ByteArray.mk s1.toArray).size : Int) := by rw [size_mk]; omega
  have z2i : (0 : Int) < ((ByteArray.mk (c :: t).toArray).size : Int) := by omega
  have z2j : (1 : Int) ≤ ((ByteArray.mk (c :: t).toArray).size : Int) := by omega
  have x3 : (ByteArray.mk (c :: t).toArray).extract 1 (ByteArray.mk (c :: t).toArray).size = ByteArray.mk t.toArray := by rw [size_mk, bytes_drop]; rfl
  show Calls Tryz.prog 29 #[.string ⟨s0.toArray⟩] w fun e w' => e = .returned (.bool (if c = 46 then (if lead t = 0 then false else tailL (t.drop (lead t))) else tailL (c :: t))) ∧ w = w'
  by_cases hc : c = 46
  · have q3 : ((c.toNat : Int) == 46) = true := b_true ((byte_int (d := 46) rfl).2 hc)
    rw [if_pos hc]
    have HD3 := fun w => fdigits_any t (by omega) w
    have hle3 := lead_le t
    generalize hn3 : lead t = n3 at *
    by_cases h4 : n3 = 0
    · rw [if_pos h4]
      exact form_c _ _ _ _ n1 n3 c HT0 HD1 q1 q2 r1 x2 z2 z2i z2j y2 q3 x3 HD3 (b_true (by omega)) w
    rw [if_neg h4]
    have q4 : ((n3 : Int) == 0) = false := b_false (by omega)
    have r3 : (1 : Int) + (n3 : Int) ≤ ((ByteArray.mk (c :: t).toArray).size : Int) := by rw [size_mk, List.length_cons]; omega
    have x4 : (ByteArray.mk (c :: t).toArray).extract (1 + n3) (ByteArray.mk (c :: t).toArray).size = ByteArray.mk (t.drop n3).toArray := by rw [size_mk, bytes_drop, Nat.add_comm]; rfl
    rcases hs4 : t.drop n3 with _ | ⟨c4, t4⟩
    · rw [hs4] at x4
      exact form_d_t1 _ _ _ _ _ n1 n3 c HT0 HD1 q1 q2 r1 x2 z2 z2i z2j y2 q3 x3 HD3 q4 (by omega) r3 x4 (by rw [emp_mk]; rfl) w
    rw [hs4] at x4
    have hl4 : (c4 :: t4).length ≤ t.length := by rw [← hs4, List.length_drop]; omega
    have hl5 : t4.length ≤ 4096 := by rw [List.length_cons] at hl4; omega
    have z4 : 0 < (ByteArray.mk (c4 :: t4).toArray).size := by rw [size_mk]; simp
    have y4 : (ByteArray.mk (c4 :: t4).toArray)[0] = c4 := str_get rfl z4
    have q5 : (ByteArray.mk (c4 :: t4).toArray).toList.isEmpty = false := by rw [emp_mk]; rfl
    have x5 : (ByteArray.mk (c4 :: t4).toArray).extract 1 (ByteArray.mk (c4 :: t4).toArray).size = ByteArray.mk t4.toArray := by rw [size_mk, bytes_drop]; rfl
    have HT5 := fun w => trimT_any t4 w
    have hl6 := trim_len t4
    have HD6 := fun w => fdigits_any (trimT t4) (by omega) w
    have hR : (((lead (trimT t4) : Nat) : Int) == ((ByteArray.mk (trimT t4).toArray).size : Int)) = (lead (trimT t4) == (trimT t4).length) := by
      rw [size_mk, Bool.eq_iff_iff, beq_iff_eq, beq_iff_eq]; omega
    unfold tailL
    dsimp only
    generalize trimT t4 = s6 at *
    by_cases hE : c4 = 69
    · have q6 : ((c4.toNat : Int) != 69) = false := n_false ((byte_int (d := 69) rfl).2 hE)
      rw [if_pos (.inl hE)]
      rcases s6 with _ | ⟨c6, t6⟩
      · exact form_d_t3E0 _ _ _ _ _ _ _ n1 n3 c c4 HT0 HD1 q1 q2 r1 x2 z2 z2i z2j y2 q3 x3 HD3 q4 (by omega) r3 x4 q5 z4 (by omega) (by omega) y4 q6 x5 HT5 (by rw [emp_mk]; rfl) w
      · exact form_d_t3E1 _ _ _ _ _ _ _ n1 n3 _ c c4 _ HT0 HD1 q1 q2 r1 x2 z2 z2i z2j y2 q3 x3 HD3 q4 (by omega) r3 x4 q5 z4 (by omega) (by omega) y4 q6 x5 HT5 (by rw [emp_mk]; rfl) HD6 hR w
    have q6 : ((c4.toNat : Int) != 69) = true := n_true (fun h => hE ((byte_int (d := 69) rfl).1 h))
    by_cases he : c4 = 101
    · have q7 : ((c4.toNat : Int) != 101) = false := n_false ((byte_int (d := 101) rfl).2 he)
      rw [if_pos (.inr he)]
      rcases s6 with _ | ⟨c6, t6⟩
      · exact form_d_t3e0 _ _ _ _ _ _ _ n1 n3 c c4 HT0 HD1 q1 q2 r1 x2 z2 z2i z2j y2 q3 x3 HD3 q4 (by omega) r3 x4 q5 z4 (by omega) (by omega) y4 q6 q7 x5 HT5 (by rw [emp_mk]; rfl) w
      · exact form_d_t3e1 _ _ _ _ _ _ _ n1 n3 _ c c4 _ HT0 HD1 q1 q2 r1 x2 z2 z2i z2j y2 q3 x3 HD3 q4 (by omega) r3 x4 q5 z4 (by omega) (by omega) y4 q6 q7 x5 HT5 (by rw [emp_mk]; rfl) HD6 hR w
    · have q7 : ((c4.toNat : Int) != 101) = true := n_true (fun h => he ((byte_int (d := 101) rfl).1 h))
      rw [if_neg (fun h => h.elim hE he)]
      exact form_d_t2 _ _ _ _ _ n1 n3 c c4 HT0 HD1 q1 q2 r1 x2 z2 z2i z2j y2 q3 x3 HD3 q4 (by omega) r3 x4 q5 z4 (by omega) (by omega) y4 q6 q7 w
  · have q3 : ((c.toNat : Int) == 46) = false := b_false (fun h => hc ((byte_int (d := 46) rfl).1 h))
    rw [if_neg hc]
    have q5 : (ByteArray.mk (c :: t).toArray).toList.isEmpty = false := by rw [emp_mk]; rfl
    have HT5 := fun w => trimT_any t w
    have hl6 := trim_len t
    have HD6 := fun w => fdigits_any (trimT t) (by omega) w
    have hR : (((lead (trimT t) : Nat) : Int) == ((ByteArray.mk (trimT t).toArray).size : Int)) = (lead (trimT t) == (trimT t).length) := by
      rw [size_mk, Bool.eq_iff_iff, beq_iff_eq, beq_iff_eq]; omega
    unfold tailL
    dsimp only
    generalize trimT t = s6 at *
    by_cases hE : c = 69
    · have q6 : ((c.toNat : Int) != 69) = false := n_false ((byte_int (d := 69) rfl).2 hE)
      rw [if_pos (.inl hE)]
      rcases s6 with _ | ⟨c6, t6⟩
      · exact form_e_t3E0 _ _ _ _ _ n1 c HT0 HD1 q1 q2 r1 x2 z2 z2i z2j y2 q3 q5 q6 x3 HT5 (by rw [emp_mk]; rfl) w
      · exact form_e_t3E1 _ _ _ _ _ n1 _ c _ HT0 HD1 q1 q2 r1 x2 z2 z2i z2j y2 q3 q5 q6 x3 HT5 (by rw [emp_mk]; rfl) HD6 hR w
    have q6 : ((c.toNat : Int) != 69) = true := n_true (fun h => hE ((byte_int (d := 69) rfl).1 h))
    by_cases he : c = 101
    · have q7 : ((c.toNat : Int) != 101) = false := n_false ((byte_int (d := 101) rfl).2 he)
      rw [if_pos (.inr he)]
      rcases s6 with _ | ⟨c6, t6⟩
      · exact form_e_t3e0 _ _ _ _ _ n1 c HT0 HD1 q1 q2 r1 x2 z2 z2i z2j y2 q3 q5 q6 q7 x3 HT5 (by rw [emp_mk]; rfl) w
      · exact form_e_t3e1 _ _ _ _ _ n1 _ c _ HT0 HD1 q1 q2 r1 x2 z2 z2i z2j y2 q3 q5 q6 q7 x3 HT5 (by rw [emp_mk]; rfl) HD6 hR w
    · have q7 : ((c.toNat : Int) != 101) = true := n_true (fun h => he ((byte_int (d := 101) rfl).1 h))
      rw [if_neg (fun h => h.elim hE he)]
      exact form_e_t2 _ _ _ n1 c HT0 HD1 q1 q2 r1 x2 z2 z2i z2j y2 q3 q5 q6 q7 w
end Go.Proofs.YtijncfidjjfmiaaGreatDoor

namespace Go.Proofs.YtijncfidjjfmiaaGreatDoor
open Go.RowKit FloM

def dropZ (s : List UInt8) : List UInt8 := s.dropWhile (· == 48)
theorem dropZ_len (s : List UInt8) : (dropZ s).length ≤ s.length := (List.dropWhile_suffix _).length_le
theorem dropZ_cons (t : List UInt8) : dropZ (48 :: t) = dropZ t := by unfold dropZ; rw [List.dropWhile_cons]; rfl
theorem dropZ_stop {c : UInt8} {t : List UInt8} (h : c ≠ 48) : dropZ (c :: t) = c :: t := by
  unfold dropZ; rw [List.dropWhile_cons, if_neg (by simpa using h)]

set_option maxRecDepth 100000 in
set_option maxHeartbeats 1000000 in
theorem trimB_any (s : List UInt8) (hs : s.length ≤ 5000) (w : World) :
    Calls Tryz.prog 97 #[.string ⟨s.toArray⟩, .int .u8 48] w fun e w' => e = .returned (.string ⟨(dropZ s).toArray⟩) ∧ w = w' := by
  go_enter Tryz.func97, Tryz.ntmps97
  go_wp2
  go_loopg [0] s.length (fun g v wr => w = wr ∧ ∃ t : List UInt8, v = .string ⟨t.toArray⟩ ∧ t.length = g ∧ g ≤ s.length ∧ dropZ s = dropZ t)
  case atStart => exact ⟨rfl, s, rfl, rfl, Nat.le_refl _, rfl⟩
  case round =>
    obtain ⟨rfl, t, rfl, hl, hg, he⟩ := hrel
    have HE := Lib.hid he
    clear he
    rcases t with _ | ⟨c, t⟩
    · clear hl
      go_wp2
      go_ret
      exact ⟨by rw [HE.out]; rfl, rfl⟩
    · have hlt : t.length + 1 = gk := by rw [← hl]; rfl
      have z2 : 0 < (ByteArray.mk (c :: t).toArray).size := by rw [size_mk]; simp
      have y2 : (ByteArray.mk (c :: t).toArray)[0] = c := str_get rfl z2
      have x3 : (ByteArray.mk (c :: t).toArray).extract 1 gk = ByteArray.mk t.toArray := by
        have := bytes_drop (c :: t) 1
        rw [List.length_cons, hlt] at this
        rw [this]; rfl
      have hb : t.length ≤ 5000 := by omega
      by_cases hc : c = 48
      · have q : ((c.toNat : Int) == 48) = true := b_true ((byte_int (d := 48) rfl).2 hc)
        have HE2 := Lib.hid (show dropZ s = dropZ t by rw [HE.out, hc, dropZ_cons])
        clear hc hl
        go_wp2
        go_roundg t.length
        case rel => exact ⟨rfl, t, rfl, rfl, by omega, HE2.out⟩
        case measure => omega
      · have q : ((c.toNat : Int) == 48) = false := b_false (fun h => hc ((byte_int (d := 48) rfl).1 h))
        have HE2 := Lib.hid (show dropZ s = c :: t by rw [HE.out, dropZ_stop hc])
        clear hc hl
        go_wp2
        go_ret
        exact ⟨by rw [HE2.out]; rfl, rfl⟩

set_option maxRecDepth 100000 in
set_option maxHeartbeats 1000000 in
theorem trimL_any (s : List UInt8) (hs : s.length ≤ 5000) (w : World) :
    Calls Tryz.prog 63 #[.string ⟨s.toArray⟩, .string ⟨#[48]⟩] w fun e w' => e = .returned (.string ⟨(dropZ s).toArray⟩) ∧ w = w' := by
  have HB := Lib.hid (fun w => trimB_any s hs w)
  rcases s with _ | ⟨c, t⟩
  · go_enter Tryz.func63, Tryz.ntmps63
    go_wp2_with fail
    go_ret
    exact ⟨rfl, rfl⟩
  · have q : (ByteArray.mk (c :: t).toArray).toList.isEmpty = false := by rw [emp_mk]; rfl
    generalize dropZ (c :: t) = D at *
    go_enter Tryz.func63, Tryz.ntmps63
    go_wp2_with (go_at_call 97; refine (HB.out _).mono ?_; rintro e w' ⟨rfl, rfl⟩)
    go_ret
    exact ⟨rfl, rfl⟩
end Go.Proofs.YtijncfidjjfmiaaGreatDoor
