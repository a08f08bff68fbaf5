/- The reference's noughts and Digits. -/
import Derived.Test.YtijncfidjjfmiaaGreatDoorFloTxtDF
import Derived.Test.YtijncfidjjfmiaaGreatDoorFloTxtQ
import Derived.Laws.IdiomStrings
import Derived.Deep.LoopGhost
namespace Go.Proofs.YtijncfidjjfmiaaGreatDoor
open Go.RowKit FloM

theorem cat_bytes (a b : List UInt8) : (ByteArray.mk a.toArray ++ ByteArray.mk b.toArray) = ByteArray.mk (a ++ b).toArray := by
  apply ByteArray.ext
  simp [ByteArray.data_append]

set_option maxRecDepth 100000 in
set_option maxHeartbeats 1000000 in
theorem noughts_any (n : Nat) (w : World) (hn : n ≤ 1000) :
    Calls Tryz.prog 25 #[.int .i64 (n : Int)] w fun e w' => e = .returned (.string ⟨(List.replicate n 48).toArray⟩) ∧ w = w' := by
  go_enter Tryz.func25, Tryz.ntmps25
  go_wp2
  go_loop [3, 4] (fun s i => ∃ k : Nat, k ≤ n ∧ i = .int .i64 k ∧ s = .string ⟨(List.replicate k 48).toArray⟩) (fun _ i => n - (intOf i).toNat)
  case atStart => exact ⟨0, Nat.zero_le _, rfl, rfl⟩
  case round =>
    obtain ⟨k, hk, rfl, rfl⟩ := hrel
    have HC := Lib.hid (cat_bytes (List.replicate k 48) [48])
    by_cases hlt : k < n
    · go_wp2
      go_round
      case rel => exact ⟨k + 1, by omega, by go_num, by rw [List.replicate_succ', ← HC.out]; rfl⟩
      case measure => simp [intOf]; omega
    · have e : k = n := by omega
      subst e
      go_wp2
      go_ret
      exact ⟨rfl, rfl⟩

/-- A number's digits; none of 0. -/
def decZ (k : Nat) : List UInt8 := if k = 0 then [] else Lib.decDigits k
theorem decZ_step {k : Nat} (h : 0 < k) : decZ k = decZ (k / 10) ++ [UInt8.ofNat (48 + k % 10)] := by
  unfold decZ
  rw [if_neg (by omega), Lib.decDigits]
  split
  · rw [if_pos (by omega), Nat.mod_eq_of_lt ‹_›]; rfl
  · rw [if_neg (by omega)]

theorem lit_D (x : Nat) (h0 : 0 < x) (h1 : x < 65536) (w : World) : D (w.alloc (.cells #[.int .u16 (x : Int)] 81)) (.slice (some ⟨w.heap.size, 0, none⟩) 1 1) x := by
  have e : nd x = 1 := by
    have h2 := (nd_le x 1).2 (by omega)
    have h3 := (nd_lt x 0).2 (by omega)
    omega
  have hf : vals (fd 1 x) = [Value.int .u16 (x : Int)] := by
    unfold vals fd dg
    simp [Nat.mod_eq_of_lt h1]
  have h : Own w.heap.size (w.alloc (.cells #[.int .u16 (x : Int)] 81)) (.slice (some ⟨w.heap.size, 0, none⟩) 1 1) 1 x := by
    unfold Own
    rw [hf]
    exact World.ownsRow_lit w #[.int .u16 (x : Int)] 1 (Nat.le_refl _) (by unfold maxLen; omega) rfl
  unfold D
  rw [e]
  exact h.DS (by omega)

theorem conv_one (w : World) (m : Nat) (hm : m < 10) :
    (convert 67 9 (.slice (some ⟨w.heap.size, 0, none⟩) 1 1)).run Tryz.prog (w.alloc (.cells #[.int .u8 (48 + (m : Int))] 5)) = .ok (.string ⟨[UInt8.ofNat (48 + m)].toArray⟩) (w.alloc (.cells #[.int .u8 (48 + (m : Int))] 5)) := by
  refine run_convert_bytes_back _ 67 9 5 ⟨w.heap.size, 0, none⟩ 1 [UInt8.ofNat (48 + m)] Tryz.underlying67 Tryz.underlying5 Tryz.underlying9 (fun j hj => ?_)
  obtain rfl : j = 0 := by simp at hj; omega
  have h := (Blk.new w 5 #[.int .u8 (48 + (m : Int))]).cell 0
  refine h.trans ?_
  show some (Value.int .u8 (48 + (m : Int))) = some (Value.int .u8 ((UInt8.ofNat (48 + m)).toNat : Int))
  rw [UInt8.toNat_ofNat', Nat.mod_eq_of_lt (by omega)]
  congr 2

set_option maxRecDepth 100000 in
set_option maxHeartbeats 2000000 in
theorem digits_big (va : Value) (N : Nat) (w : World) (hN : nd N ≤ 1000) (hD : (decZ N).length ≤ 5000) (ha : D w va N) :
    Calls Tryz.prog 26 #[va] w fun e w' => e = .returned (.string ⟨(decZ N).toArray⟩) ∧ Below w.heap.size w w' := by
  obtain ⟨t, ht⟩ : ∃ t : Nat, t = 10 := ⟨10, rfl⟩
  have HT := Lib.hid ht
  have HNT := Lib.hid (show nd t ≤ 1 by rw [ht]; decide)
  have HL : Hid (∀ w : World, D (w.alloc (.cells #[.int .u16 10] 81)) (.slice (some ⟨w.heap.size, 0, none⟩) 1 1) t) := fun w => by rw [ht]; exact lit_D 10 (by decide) (by decide) w
  clear ht
  go_enter Tryz.func26, Tryz.ntmps26
  go_wp2
  go_loopg [0, 3, 4, 5] N (fun g a s q r wr => ∃ T, D wr a g ∧ s = .string ⟨T.toArray⟩ ∧ decZ N = decZ g ++ T ∧ g ≤ N ∧ Below w.heap.size w wr)
  case atStart => exact ⟨[], ha, rfl, by rw [List.append_nil], Nat.le_refl _, Below.refl _ _⟩
  case round =>
    obtain ⟨T, hv, rfl, he, hle, hbel⟩ := hrel
    have hTl : T.length ≤ 5000 := by rw [he, List.length_append] at hD; omega
    obtain ⟨A, c, rfl⟩ := hv.shape
    have hs := hbel.size
    have HV := Lib.hid hv
    have HE := Lib.hid he
    have HB := Lib.hid hbel
    have HND := Lib.hid (Nat.le_trans (nd_mono hle) hN)
    clear he hbel hv
    by_cases h0 : gk = 0
    · subst h0
      rw [nd_zero] at *
      go_wp2_with fail
      go_ret
      refine ⟨?_, HB.out⟩
      rw [HE.out]; rfl
    · have hp := nd_pos h0
      have HP := Lib.hid (decZ_step (k := gk) (by omega))
      generalize hl : nd gk = l at *
      have HLL := Lib.hid hl
      clear hl
      go_wp2_with fail
      have HB1 := Lib.hid (HB.out.alloc hs (.cells #[.int .u16 10] 81))
      have HV1 := Lib.hid (HV.out.below ((Below.refl wr.heap.size wr).alloc (Nat.le_refl _) (.cells #[.int .u16 10] 81)))
      refine (div_D _ _ gk t _ (by have := HLL.out; have := HND.out; omega) (by have := HNT.out; omega) (by have := HT.out; omega) HV1.out (HL.out wr)).mono ?_
      rintro e w3 ⟨v3, u3, rfl, hv3, hu3, _, _, hbel3⟩
      rw [HT.out] at hv3 hu3
      have hm := Nat.mod_lt gk (show 10 > 0 by decide)
      generalize gk % 10 = m at *
      have HV3 := Lib.hid hv3
      have HU3 := Lib.hid hu3
      have HB3 := Lib.hid (HB1.out.trans (hbel3.mono (by simp; omega)))
      clear hv3 hu3 hbel3
      have hs3 := HB3.out.size
      have HCV := Lib.hid (conv_one w3 m hm)
      have hcv := HCV.out
      go_wp2_with (go_at_call 57; refine (value_D _ m _ (by omega) HU3.out).mono ?_; rintro e w' ⟨rfl, rfl⟩)
      go_roundg (gk / 10)
      case rel => exact ⟨[UInt8.ofNat (48 + m)] ++ T, HV3.out.below ((Below.refl _ _).alloc (Nat.le_refl _) _), by rw [← cat_bytes, UInt8.ofNat_add]; rfl, by rw [HE.out, HP.out, List.append_assoc], by omega, HB3.out.alloc hs3 _⟩
      case measure => omega
theorem digits_any (va : Value) (N : Nat) (w : World) (hN : nd N ≤ 1000) (hD : (decZ N).length ≤ 1000) (ha : D w va N) :
    Calls Tryz.prog 26 #[va] w fun e w' => e = .returned (.string ⟨(decZ N).toArray⟩) ∧ Below w.heap.size w w' := digits_big va N w hN (Nat.le_trans hD (by decide)) ha
end Go.Proofs.YtijncfidjjfmiaaGreatDoor
