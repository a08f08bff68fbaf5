/- The program's placed. -/
import Derived.Test.YtijncfidjjfmiaaGreatDoorFloTxtS
namespace Go.Proofs.YtijncfidjjfmiaaGreatDoor
open Go.RowKit FloM

set_option maxRecDepth 100000 in
set_option maxHeartbeats 2000000 in
theorem placed_a (T : List UInt8) (n : Nat) (hT : T.length ≤ 17) (h : n ≤ 3) (w : World) :
    Calls Tryz.prog 22 #[.string ⟨T.toArray⟩, .int .i64 (-(n : Int))] w (RetT w (txt T (-(n : Int)))) := by
  rw [txt_a T n h]
  go_enter Tryz.func22, Tryz.ntmps22
  go_wp2_with (go_at_call 49; go_simp; refine (rep0_any n (by omega) _).mono ?_; rintro e w1 ⟨rfl, hb1⟩; have HB1 := Lib.hid hb1; clear hb1)
  go_ret
  refine ⟨retS (s := _) ?_, HB1.out⟩
  apply ByteArray.ext
  simp

set_option maxRecDepth 100000 in
set_option maxHeartbeats 2000000 in
theorem placed_b (T : List UInt8) (m : Nat) (hT : T.length ≤ 17) (h0 : 0 < m) (h : m ≤ 15) (hl : T.length ≤ m) (w : World) :
    Calls Tryz.prog 22 #[.string ⟨T.toArray⟩, .int .i64 (m : Int)] w (RetT w (txt T (m : Int))) := by
  rw [txt_b T m h0 h hl]
  obtain ⟨d, hd⟩ : ∃ d : Nat, d = m - T.length := ⟨_, rfl⟩
  rw [← hd]
  have hd2 : (m : Int) - (T.length : Int) = (d : Int) := by omega
  have hd3 : d ≤ 15 := by omega
  clear hd
  go_enter Tryz.func22, Tryz.ntmps22
  go_wp2_with (go_at_call 49; go_simp; refine (rep0_any d (by omega) _).mono ?_; rintro e w1 ⟨rfl, hb1⟩; have HB1 := Lib.hid hb1; clear hb1)
  go_ret
  refine ⟨retS (s := _) ?_, HB1.out⟩
  apply ByteArray.ext
  simp

set_option maxRecDepth 100000 in
set_option maxHeartbeats 2000000 in
theorem placed_c (T : List UInt8) (m : Nat) (hT : T.length ≤ 17) (h0 : 0 < m) (h : m ≤ 15) (hl : m < T.length) (w : World) :
    Calls Tryz.prog 22 #[.string ⟨T.toArray⟩, .int .i64 (m : Int)] w (RetT w (txt T (m : Int))) := by
  rw [txt_c T m h0 h hl]
  go_enter Tryz.func22, Tryz.ntmps22
  go_wp2_with fail
  go_region
  go_wp2
  go_ret
  refine ⟨retS (s := _) ?_, (Below.refl _ _).drew⟩
  rw [bytes_take, bytes_drop]
  apply ByteArray.ext
  simp

set_option maxRecDepth 100000 in
set_option maxHeartbeats 2000000 in
theorem placed_d0 (E : Int) (S A B DD X1 X2 X3 X4 PS : ByteArray) (h : 15 < E) (h2 : E ≤ 400) (_hS1 : 1 ≤ S.size) (hS2 : (1 : Int) ≤ (S.size : Int)) (e1 : S.extract 0 1 = A) (e2 : S.extract 1 S.size = B)
    (k1 : ∀ w, (Op.stringOp .add A ⟨#[46]⟩).run Tryz.prog w = .ok (.string X1) w) (k2 : ∀ w, (Op.stringOp .add X1 ⟨#[48]⟩).run Tryz.prog w = .ok (.string X2) w) (k3 : ∀ w, (Op.stringOp .add X2 ⟨#[69]⟩).run Tryz.prog w = .ok (.string X3) w) (k4 : ∀ w, (Op.stringOp .add X3 DD).run Tryz.prog w = .ok (.string X4) w)
    (hE : B.toList.isEmpty = true)
    (HI : Hid (∀ w, Env w → Calls Tryz.prog 48 #[.int .i64 (E - 1)] w fun e w' => e = .returned (.string PS) ∧ Below w.heap.size w w'))
    (HR : Hid (∀ w, Env w → Calls Tryz.prog 20 #[.string PS, .string ⟨#[45]⟩, .string ⟨#[126]⟩, .int .i64 1] w fun e w' => e = .returned (.string DD) ∧ Below w.heap.size w w')) (w : World) (ht : Env w) :
    Calls Tryz.prog 22 #[.string S, .int .i64 E] w fun e w' => e = .returned (.string X4) ∧ Below w.heap.size w w' := by
  have HT := Lib.hid ht
  clear ht
  go_enter Tryz.func22, Tryz.ntmps22
  go_wp2_with (go_at_call 48; refine (HI.out _ HT.out).mono ?_; rintro e w1 ⟨rfl, hb1⟩; have HB1 := Lib.hid hb1; clear hb1)
  go_region_held3 (fun _ => True) (first | trivial)
    (first
      | (go_at_call 20; refine (HR.out _ (show Env w1.drew from (HT.out.below HB1.out (Nat.le_refl _)).drewN 1)).mono ?_; rintro e w2 ⟨rfl, hb2⟩; have HB2 := Lib.hid hb2; clear hb2))
  go_wp2_with fail
  go_ret
  exact ⟨rfl, HB1.out.drew.trans (HB2.out.mono HB1.out.drew.size)⟩

set_option maxRecDepth 100000 in
set_option maxHeartbeats 2000000 in
theorem placed_e0 (E : Int) (S A B DD X1 X2 X3 X4 PS : ByteArray) (h : E < -3) (h2 : -400 ≤ E) (_hS1 : 1 ≤ S.size) (hS2 : (1 : Int) ≤ (S.size : Int)) (e1 : S.extract 0 1 = A) (e2 : S.extract 1 S.size = B)
    (k1 : ∀ w, (Op.stringOp .add A ⟨#[46]⟩).run Tryz.prog w = .ok (.string X1) w) (k2 : ∀ w, (Op.stringOp .add X1 ⟨#[48]⟩).run Tryz.prog w = .ok (.string X2) w) (k3 : ∀ w, (Op.stringOp .add X2 ⟨#[69]⟩).run Tryz.prog w = .ok (.string X3) w) (k4 : ∀ w, (Op.stringOp .add X3 DD).run Tryz.prog w = .ok (.string X4) w)
    (hE : B.toList.isEmpty = true)
    (HI : Hid (∀ w, Env w → Calls Tryz.prog 48 #[.int .i64 (E - 1)] w fun e w' => e = .returned (.string PS) ∧ Below w.heap.size w w'))
    (HR : Hid (∀ w, Env w → Calls Tryz.prog 20 #[.string PS, .string ⟨#[45]⟩, .string ⟨#[126]⟩, .int .i64 1] w fun e w' => e = .returned (.string DD) ∧ Below w.heap.size w w')) (w : World) (ht : Env w) :
    Calls Tryz.prog 22 #[.string S, .int .i64 E] w fun e w' => e = .returned (.string X4) ∧ Below w.heap.size w w' := by
  have HT := Lib.hid ht
  clear ht
  go_enter Tryz.func22, Tryz.ntmps22
  go_wp2_with (go_at_call 48; refine (HI.out _ HT.out).mono ?_; rintro e w1 ⟨rfl, hb1⟩; have HB1 := Lib.hid hb1; clear hb1)
  go_region_held3 (fun _ => True) (first | trivial)
    (first
      | (go_at_call 20; refine (HR.out _ (show Env w1.drew from (HT.out.below HB1.out (Nat.le_refl _)).drewN 1)).mono ?_; rintro e w2 ⟨rfl, hb2⟩; have HB2 := Lib.hid hb2; clear hb2))
  go_wp2_with fail
  go_ret
  exact ⟨rfl, HB1.out.drew.trans (HB2.out.mono HB1.out.drew.size)⟩

set_option maxRecDepth 100000 in
set_option maxHeartbeats 2000000 in
theorem placed_d1 (E : Int) (S A B DD X1 X2 X3 X4 PS : ByteArray) (h : 15 < E) (h2 : E ≤ 400) (_hS1 : 1 ≤ S.size) (hS2 : (1 : Int) ≤ (S.size : Int)) (e1 : S.extract 0 1 = A) (e2 : S.extract 1 S.size = B)
    (k1 : ∀ w, (Op.stringOp .add A ⟨#[46]⟩).run Tryz.prog w = .ok (.string X1) w) (k2 : ∀ w, (Op.stringOp .add X1 B).run Tryz.prog w = .ok (.string X2) w) (k3 : ∀ w, (Op.stringOp .add X2 ⟨#[69]⟩).run Tryz.prog w = .ok (.string X3) w) (k4 : ∀ w, (Op.stringOp .add X3 DD).run Tryz.prog w = .ok (.string X4) w)
    (hE : B.toList.isEmpty = false)
    (HI : Hid (∀ w, Env w → Calls Tryz.prog 48 #[.int .i64 (E - 1)] w fun e w' => e = .returned (.string PS) ∧ Below w.heap.size w w'))
    (HR : Hid (∀ w, Env w → Calls Tryz.prog 20 #[.string PS, .string ⟨#[45]⟩, .string ⟨#[126]⟩, .int .i64 1] w fun e w' => e = .returned (.string DD) ∧ Below w.heap.size w w')) (w : World) (ht : Env w) :
    Calls Tryz.prog 22 #[.string S, .int .i64 E] w fun e w' => e = .returned (.string X4) ∧ Below w.heap.size w w' := by
  have HT := Lib.hid ht
  clear ht
  go_enter Tryz.func22, Tryz.ntmps22
  go_wp2_with (go_at_call 48; refine (HI.out _ HT.out).mono ?_; rintro e w1 ⟨rfl, hb1⟩; have HB1 := Lib.hid hb1; clear hb1)
  go_region_held3 (fun _ => True) (first | trivial)
    (first
      | (go_at_call 20; refine (HR.out _ (show Env w1.drew from (HT.out.below HB1.out (Nat.le_refl _)).drewN 1)).mono ?_; rintro e w2 ⟨rfl, hb2⟩; have HB2 := Lib.hid hb2; clear hb2))
  go_wp2_with fail
  go_ret
  exact ⟨rfl, HB1.out.drew.trans (HB2.out.mono HB1.out.drew.size)⟩

set_option maxRecDepth 100000 in
set_option maxHeartbeats 2000000 in
theorem placed_e1 (E : Int) (S A B DD X1 X2 X3 X4 PS : ByteArray) (h : E < -3) (h2 : -400 ≤ E) (_hS1 : 1 ≤ S.size) (hS2 : (1 : Int) ≤ (S.size : Int)) (e1 : S.extract 0 1 = A) (e2 : S.extract 1 S.size = B)
    (k1 : ∀ w, (Op.stringOp .add A ⟨#[46]⟩).run Tryz.prog w = .ok (.string X1) w) (k2 : ∀ w, (Op.stringOp .add X1 B).run Tryz.prog w = .ok (.string X2) w) (k3 : ∀ w, (Op.stringOp .add X2 ⟨#[69]⟩).run Tryz.prog w = .ok (.string X3) w) (k4 : ∀ w, (Op.stringOp .add X3 DD).run Tryz.prog w = .ok (.string X4) w)
    (hE : B.toList.isEmpty = false)
    (HI : Hid (∀ w, Env w → Calls Tryz.prog 48 #[.int .i64 (E - 1)] w fun e w' => e = .returned (.string PS) ∧ Below w.heap.size w w'))
    (HR : Hid (∀ w, Env w → Calls Tryz.prog 20 #[.string PS, .string ⟨#[45]⟩, .string ⟨#[126]⟩, .int .i64 1] w fun e w' => e = .returned (.string DD) ∧ Below w.heap.size w w')) (w : World) (ht : Env w) :
    Calls Tryz.prog 22 #[.string S, .int .i64 E] w fun e w' => e = .returned (.string X4) ∧ Below w.heap.size w w' := by
  have HT := Lib.hid ht
  clear ht
  go_enter Tryz.func22, Tryz.ntmps22
  go_wp2_with (go_at_call 48; refine (HI.out _ HT.out).mono ?_; rintro e w1 ⟨rfl, hb1⟩; have HB1 := Lib.hid hb1; clear hb1)
  go_region_held3 (fun _ => True) (first | trivial)
    (first
      | (go_at_call 20; refine (HR.out _ (show Env w1.drew from (HT.out.below HB1.out (Nat.le_refl _)).drewN 1)).mono ?_; rintro e w2 ⟨rfl, hb2⟩; have HB2 := Lib.hid hb2; clear hb2))
  go_wp2_with fail
  go_ret
  exact ⟨rfl, HB1.out.drew.trans (HB2.out.mono HB1.out.drew.size)⟩

theorem cat4' {P : Program} (a b : List UInt8) (ha : a.length ≤ 2000) (hb : b.length ≤ 2000) (w : World) :
    (Op.stringOp .add ⟨a.toArray⟩ ⟨b.toArray⟩).run P w = .ok (.string ⟨(a ++ b).toArray⟩) w := run_string_add_lists w a b (by omega) (by omega)
theorem exT_d (m : Nat) (h : 15 < m) : exT ((m : Int) - 1) = Lib.decDigits (m - 1) := by
  unfold exT
  rw [if_neg (by omega), show ((m : Int) - 1).toNat = m - 1 by omega]
theorem exT_e (m : Nat) : exT (-(m : Int) - 1) = [126] ++ Lib.decDigits (m + 1) := by
  unfold exT
  rw [if_pos (by omega), show (-(m : Int) - 1).natAbs = m + 1 by omega]

theorem placed_any (T : List UInt8) (E : Int) (f1 : 1 ≤ T.length) (f2 : T.length ≤ 17) (f3 : -400 ≤ E) (f4 : E ≤ 311) (w : World) (ht : Env w) :
    Calls Tryz.prog 22 #[.string ⟨T.toArray⟩, .int .i64 E] w (RetT w (txt T E)) := by
  rcases Int.lt_or_le E 1 with h1 | h1
  · obtain ⟨m, rfl⟩ : ∃ m : Nat, E = -(m : Int) := ⟨(-E).toNat, by omega⟩
    rcases Nat.lt_or_ge m 4 with h2 | h2
    · exact placed_a T m f2 (by omega) w
    · rcases T with _ | ⟨c, R⟩
      · simp at f1
      have hl : R.length ≤ 16 := by rw [List.length_cons] at f2; omega
      have hsz : (ByteArray.mk (c :: R).toArray).size = (c :: R).length := by simp [ByteArray.size]
      have hdl := (itoa_len (-(m : Int) - 1) (by omega) (by omega)).2
      rw [txt_e c R m (by omega), ← exT_e m]
      by_cases hR : R = []
      · subst hR
        rw [if_pos rfl]
        refine (placed_e0 (-(m : Int)) ⟨[c].toArray⟩ ⟨[c].toArray⟩ ⟨([] : List UInt8).toArray⟩ ⟨(exT (-(m : Int) - 1)).toArray⟩ ⟨([c] ++ [46]).toArray⟩ ⟨([c] ++ [46] ++ [48]).toArray⟩ ⟨([c] ++ [46] ++ [48] ++ [69]).toArray⟩ ⟨([c] ++ [46] ++ [48] ++ [69] ++ exT (-(m : Int) - 1)).toArray⟩ ⟨(Lib.itoa (-(m : Int) - 1)).toArray⟩
          (by omega) (by omega) (by rw [hsz]; simp) (by rw [hsz]; simp) (bytes_take [c] 1) (by rw [hsz]; exact bytes_drop [c] 1)
          (cat4' _ _ (by simp) (by simp)) (cat4' _ _ (by simp) (by simp)) (cat4' _ _ (by simp) (by simp)) (cat4' _ _ (by simp) (by omega)) (by rw [Lib.toList_data]; rfl)
          (fun w ht => itoa_any _ (by omega) (by omega) w ht) (fun w ht => repl_ex _ (by omega) (by omega) w ht) w ht).mono ?_
        rintro e w' ⟨rfl, hb⟩
        exact ⟨by simp, hb⟩
      · rw [if_neg hR]
        refine (placed_e1 (-(m : Int)) ⟨(c :: R).toArray⟩ ⟨[c].toArray⟩ ⟨R.toArray⟩ ⟨(exT (-(m : Int) - 1)).toArray⟩ ⟨([c] ++ [46]).toArray⟩ ⟨([c] ++ [46] ++ R).toArray⟩ ⟨([c] ++ [46] ++ R ++ [69]).toArray⟩ ⟨([c] ++ [46] ++ R ++ [69] ++ exT (-(m : Int) - 1)).toArray⟩ ⟨(Lib.itoa (-(m : Int) - 1)).toArray⟩
          (by omega) (by omega) (by rw [hsz]; simp) (by rw [hsz]; simp; omega) (bytes_take (c :: R) 1) (by rw [hsz]; exact bytes_drop (c :: R) 1)
          (cat4' _ _ (by simp) (by simp)) (cat4' _ _ (by simp) (by omega)) (cat4' _ _ (by simp; omega) (by simp)) (cat4' _ _ (by simp; omega) (by omega)) (by rw [Lib.toList_data]; cases R with | nil => exact absurd rfl hR | cons a b => rfl)
          (fun w ht => itoa_any _ (by omega) (by omega) w ht) (fun w ht => repl_ex _ (by omega) (by omega) w ht) w ht).mono ?_
        rintro e w' ⟨rfl, hb⟩
        exact ⟨by simp, hb⟩
  · obtain ⟨m, rfl⟩ : ∃ m : Nat, E = (m : Int) := ⟨E.toNat, by omega⟩
    rcases Nat.lt_or_ge m 16 with h2 | h2
    · rcases Nat.lt_or_ge m T.length with h3 | h3
      · exact placed_c T m f2 (by omega) (by omega) h3 w
      · exact placed_b T m f2 (by omega) (by omega) h3 w
    · rcases T with _ | ⟨c, R⟩
      · simp at f1
      have hl : R.length ≤ 16 := by rw [List.length_cons] at f2; omega
      have hsz : (ByteArray.mk (c :: R).toArray).size = (c :: R).length := by simp [ByteArray.size]
      have hdl := (itoa_len ((m : Int) - 1) (by omega) (by omega)).2
      rw [txt_d c R m (by omega), ← exT_d m (by omega)]
      by_cases hR : R = []
      · subst hR
        rw [if_pos rfl]
        refine (placed_d0 (m : Int) ⟨[c].toArray⟩ ⟨[c].toArray⟩ ⟨([] : List UInt8).toArray⟩ ⟨(exT ((m : Int) - 1)).toArray⟩ ⟨([c] ++ [46]).toArray⟩ ⟨([c] ++ [46] ++ [48]).toArray⟩ ⟨([c] ++ [46] ++ [48] ++ [69]).toArray⟩ ⟨([c] ++ [46] ++ [48] ++ [69] ++ exT ((m : Int) - 1)).toArray⟩ ⟨(Lib.itoa ((m : Int) - 1)).toArray⟩
          (by omega) (by omega) (by rw [hsz]; simp) (by rw [hsz]; simp) (bytes_take [c] 1) (by rw [hsz]; exact bytes_drop [c] 1)
          (cat4' _ _ (by simp) (by simp)) (cat4' _ _ (by simp) (by simp)) (cat4' _ _ (by simp) (by simp)) (cat4' _ _ (by simp) (by omega)) (by rw [Lib.toList_data]; rfl)
          (fun w ht => itoa_any _ (by omega) (by omega) w ht) (fun w ht => repl_ex _ (by omega) (by omega) w ht) w ht).mono ?_
        rintro e w' ⟨rfl, hb⟩
        exact ⟨by simp, hb⟩
      · rw [if_neg hR]
        refine (placed_d1 (m : Int) ⟨(c :: R).toArray⟩ ⟨[c].toArray⟩ ⟨R.toArray⟩ ⟨(exT ((m : Int) - 1)).toArray⟩ ⟨([c] ++ [46]).toArray⟩ ⟨([c] ++ [46] ++ R).toArray⟩ ⟨([c] ++ [46] ++ R ++ [69]).toArray⟩ ⟨([c] ++ [46] ++ R ++ [69] ++ exT ((m : Int) - 1)).toArray⟩ ⟨(Lib.itoa ((m : Int) - 1)).toArray⟩
          (by omega) (by omega) (by rw [hsz]; simp) (by rw [hsz]; simp; omega) (bytes_take (c :: R) 1) (by rw [hsz]; exact bytes_drop (c :: R) 1)
          (cat4' _ _ (by simp) (by simp)) (cat4' _ _ (by simp) (by omega)) (cat4' _ _ (by simp; omega) (by simp)) (cat4' _ _ (by simp; omega) (by omega)) (by rw [Lib.toList_data]; cases R with | nil => exact absurd rfl hR | cons a b => rfl)
          (fun w ht => itoa_any _ (by omega) (by omega) w ht) (fun w ht => repl_ex _ (by omega) (by omega) w ht) w ht).mono ?_
        rintro e w' ⟨rfl, hb⟩
        exact ⟨by simp, hb⟩
end Go.Proofs.YtijncfidjjfmiaaGreatDoor
