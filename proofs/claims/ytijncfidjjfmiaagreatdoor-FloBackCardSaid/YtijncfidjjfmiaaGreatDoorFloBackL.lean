/- The law FloBack: what is written of a finite real is read as that real. -/
import Derived.Test.YtijncfidjjfmiaaGreatDoorFloParC
import Derived.Test.YtijncfidjjfmiaaGreatDoorFloTexts
namespace Go.Proofs.YtijncfidjjfmiaaGreatDoor
open Go.RowKit FloM

abbrev RetP (r : Nat) (n : Int) : Ending := .returned (.tuple #[.float .f64 r, .int .i64 n])

set_option maxRecDepth 100000 in
set_option maxHeartbeats 1000000 in
theorem fparse_no (S : ByteArray) (hs : S.size ≤ 4096)
    (HF : Hid (∀ w, Calls Tryz.prog 29 #[.string S] w fun e w' => e = .returned (.bool false) ∧ w = w')) (w : World) :
    Calls Tryz.prog 10 #[.string S] w fun e w' => e = RetP 0 21 ∧ w = w' := by
  go_enter Tryz.func10, Tryz.ntmps10
  go_wp2_with (go_at_call 29; ((with_reducible refine (HF.out _).mono ?_); rintro e w' ⟨rfl, rfl⟩))
  go_ret2
  exact ⟨rfl, rfl⟩
set_option maxRecDepth 100000 in
set_option maxHeartbeats 1000000 in
theorem fparse_yes (S : ByteArray) (R : Nat) (hs : S.size ≤ 4096)
    (HF : Hid (∀ w, Calls Tryz.prog 29 #[.string S] w fun e w' => e = .returned (.bool true) ∧ w = w'))
    (HD : Hid (∀ w, PEnv w → Calls Tryz.prog 30 #[.string S] w fun e w' => e = .returned (.float .f64 R) ∧ Below w.heap.size w w')) (w : World) (ht : PEnv w) :
    Calls Tryz.prog 10 #[.string S] w fun e w' => e = RetP R 0 ∧ Below w.heap.size w w' := by
  have HT := Lib.hid ht
  clear ht
  go_enter Tryz.func10, Tryz.ntmps10
  go_wp2_with (first
    | (go_at_call 29; ((with_reducible refine (HF.out _).mono ?_); rintro e w' ⟨rfl, rfl⟩))
    | (go_at_call 30; ((with_reducible refine (HD.out _ HT.out).mono ?_); rintro e w' ⟨rfl, hb⟩; have HB := Lib.hid hb; clear hb)))
  go_ret2
  exact ⟨rfl, HB.out⟩

/-- What Parse tells of a real's text. -/
def backE (u : Nat) : Int := if rg u < cap then 0 else 21
def backV (u : Nat) : Nat := if rg u < cap then u else 0
theorem txtU_len (u : Nat) : (txtU u).length ≤ 4096 := by
  unfold txtU
  split
  · decide
  · next h =>
    have := txtL_len (rg u) (by omega)
    split
    · omega
    · rw [List.length_cons]; omega
theorem fparse_back (u : Nat) (hu : u < 2 ^ 64) (w : World) (ht : PEnv w) :
    Calls Tryz.prog 10 #[.string ⟨(txtU u).toArray⟩] w fun e w' => e = RetP (backV u) (backE u) ∧ Below w.heap.size w w' := by
  have hl := txtU_len u
  by_cases hf : rg u < cap
  · obtain ⟨k1, k2, k3⟩ := partsU_ok u hf
    have hp := partsU_text u hf
    have hF := fun w => fform_any (txtU u) hl w
    rw [show formL (txtU u) = true by rw [← hp]; exact k1.form] at hF
    have hD := fun w (hw : PEnv w) => decimal_any (partsU u) k1 (by rw [hp]; exact hl) (rg u) (rg_lt u) k2 w hw
    have hv : sgF (partsU u).neg (decV (partsU u) (rg u)) = u := by rw [k3, partsU_neg]; exact sgF_u u hu
    unfold DecP at hD
    rw [hp, hv] at hD
    have h := fparse_yes ⟨(txtU u).toArray⟩ u (by rw [size_mk]; exact hl) hF hD w ht
    rw [show backV u = u from if_pos hf, show backE u = 0 from if_pos hf]
    exact h
  · have hF := fun w => fform_any (txtU u) hl w
    have hno : formL (txtU u) = false := by
      unfold txtU txtL
      by_cases h1 : cap < rg u
      · rw [if_pos h1]; decide
      · rw [if_neg h1, if_pos (show rg u = cap by omega)]
        split <;> decide
    rw [hno] at hF
    rw [show backV u = 0 from if_neg hf, show backE u = 21 from if_neg hf]
    exact (fparse_no ⟨(txtU u).toArray⟩ (by rw [size_mk]; exact hl) hF w).mono fun e w' ⟨h1, h2⟩ => ⟨h1, h2 ▸ Below.refl _ _⟩

set_option maxRecDepth 100000 in
set_option maxHeartbeats 2000000 in
theorem back_nan (u V : Nat) (E : Int) (T : List UInt8) (n1 n2 : Bool)
    (HTX : Hid (∀ w, Env w → Calls Tryz.prog 6 #[.float .f64 u] w (RetT w T)))
    (HPA : Hid (∀ w, PEnv w → Calls Tryz.prog 10 #[.string ⟨T.toArray⟩] w fun e w' => e = RetP V E ∧ Below w.heap.size w w'))
    (HN : Hid (∀ w, Calls Tryz.prog 13 #[.int .u64 u] w fun e w' => e = .returned (.bool n1) ∧ w = w'))
    (HI : Hid (∀ w, Calls Tryz.prog 14 #[.int .u64 u] w fun e w' => e = .returned (.bool n2) ∧ w = w'))
    (hn : n1 = true ∨ n1 = false ∧ n2 = true) (qE : (E == 21) = true) (w : World) (ht : PEnv w) :
    Calls Tryz.prog 5 #[.int .u64 u] w (LawPost w) := by
  have HW := Lib.hid (fun w ht => awake_true w ht)
  have HT := Lib.hid ht
  clear ht
  rcases hn with rfl | ⟨rfl, rfl⟩
  all_goals
    go_enter Tryz.func5, Tryz.ntmps5
    go_wp2_with (first
      | (go_at_call 7; refine (of_any _ _).mono ?_; rintro e w' ⟨rfl, rfl⟩)
      | (go_at_call 6; ((with_reducible refine (HTX.out _ HT.out.env).mono ?_); rintro e w1 ⟨rfl, hb1⟩; have HB1 := Lib.hid hb1; have HT1 := Lib.hid (HT.out.below hb1 (Nat.le_refl _)); clear hb1))
      | (go_at_call 10; ((with_reducible refine (HPA.out _ HT1.out).mono ?_); rintro e w2 ⟨rfl, hb2⟩; have HB2 := Lib.hid (HB1.out.trans (hb2.mono HB1.out.size)); have HT2 := Lib.hid (HT1.out.below hb2 (Nat.le_refl _)); clear hb2))
      | (go_at_call 13; ((with_reducible refine (HN.out _).mono ?_); rintro e w' ⟨rfl, rfl⟩))
      | (go_at_call 14; ((with_reducible refine (HI.out _).mono ?_); rintro e w' ⟨rfl, rfl⟩))
      | (go_at_call 9; refine (HW.out _ HT2.out.env).mono ?_; rintro e w3 ⟨rfl, hb3⟩; have HB3 := Lib.hid (HB2.out.trans (hb3.mono HB2.out.size)); clear hb3))
    go_ret
    exact ⟨rfl, HB3.out⟩
set_option maxRecDepth 100000 in
set_option maxHeartbeats 2000000 in
theorem back_fin (u V : Nat) (E : Int) (T : List UInt8)
    (HTX : Hid (∀ w, Env w → Calls Tryz.prog 6 #[.float .f64 u] w (RetT w T)))
    (HPA : Hid (∀ w, PEnv w → Calls Tryz.prog 10 #[.string ⟨T.toArray⟩] w fun e w' => e = RetP V E ∧ Below w.heap.size w w'))
    (HN : Hid (∀ w, Calls Tryz.prog 13 #[.int .u64 u] w fun e w' => e = .returned (.bool false) ∧ w = w'))
    (HI : Hid (∀ w, Calls Tryz.prog 14 #[.int .u64 u] w fun e w' => e = .returned (.bool false) ∧ w = w'))
    (HS : Hid (∀ w, Calls Tryz.prog 12 #[.float .f64 V, .int .u64 u] w fun e w' => e = .returned (.bool true) ∧ w = w'))
    (qE : (E == 0) = true) (w : World) (ht : PEnv w) :
    Calls Tryz.prog 5 #[.int .u64 u] w (LawPost w) := by
  have HW := Lib.hid (fun w ht => awake_true w ht)
  have HT := Lib.hid ht
  clear ht
  go_enter Tryz.func5, Tryz.ntmps5
  go_wp2_with (first
    | (go_at_call 7; refine (of_any _ _).mono ?_; rintro e w' ⟨rfl, rfl⟩)
    | (go_at_call 6; ((with_reducible refine (HTX.out _ HT.out.env).mono ?_); rintro e w1 ⟨rfl, hb1⟩; have HB1 := Lib.hid hb1; have HT1 := Lib.hid (HT.out.below hb1 (Nat.le_refl _)); clear hb1))
    | (go_at_call 10; ((with_reducible refine (HPA.out _ HT1.out).mono ?_); rintro e w2 ⟨rfl, hb2⟩; have HB2 := Lib.hid (HB1.out.trans (hb2.mono HB1.out.size)); have HT2 := Lib.hid (HT1.out.below hb2 (Nat.le_refl _)); clear hb2))
    | (go_at_call 13; ((with_reducible refine (HN.out _).mono ?_); rintro e w' ⟨rfl, rfl⟩))
    | (go_at_call 14; ((with_reducible refine (HI.out _).mono ?_); rintro e w' ⟨rfl, rfl⟩))
    | (go_at_call 12; ((with_reducible refine (HS.out _).mono ?_); rintro e w' ⟨rfl, rfl⟩))
    | (go_at_call 9; refine (HW.out _ HT2.out.env).mono ?_; rintro e w3 ⟨rfl, hb3⟩; have HB3 := Lib.hid (HB2.out.trans (hb3.mono HB2.out.size)); clear hb3))
  go_ret
  exact ⟨rfl, HB3.out⟩

theorem law_back (u : Nat) (hu : u < 2 ^ 64) (w : World) (ht : PEnv w) :
    Calls Tryz.prog 5 #[.int .u64 u] w (LawPost w) := by
  have HTX := fun w ht => text_any u hu w ht
  have HPA := fun w ht => fparse_back u hu w ht
  have HN := fun w => rnan_any u hu w
  have HI := fun w => rinf_any u hu w
  by_cases hf : rg u < cap
  · rw [decide_eq_false (show ¬ cap < rg u by omega)] at HN
    rw [decide_eq_false (show ¬ rg u = cap by omega)] at HI
    have hv : backV u = u := if_pos hf
    have he : backE u = 0 := if_pos hf
    rw [hv, he] at HPA
    have HS := fun w => is_any u u hu w
    rw [decide_eq_true rfl] at HS
    exact back_fin u u 0 _ HTX HPA HN HI HS rfl w ht
  · have he : backE u = 21 := if_neg hf
    rw [he] at HPA
    refine back_nan u _ 21 _ _ _ HTX HPA HN HI ?_ rfl w ht
    by_cases h1 : cap < rg u
    · exact .inl (decide_eq_true h1)
    · exact .inr ⟨decide_eq_false h1, decide_eq_true (by omega)⟩
end Go.Proofs.YtijncfidjjfmiaaGreatDoor
