/- The law FloParses: which texts are reals, and which real each is. -/
import Derived.Test.YtijncfidjjfmiaaGreatDoorFloRdC
import Derived.Test.YtijncfidjjfmiaaGreatDoorFloWalkKM
import Derived.Test.YtijncfidjjfmiaaGreatDoorFloWalkN
namespace Go.Proofs.YtijncfidjjfmiaaGreatDoor
open Go.RowKit FloM

abbrev RetP (r : Nat) (n : Int) : Ending := .returned (.tuple #[.float .f64 r, .int .i64 n])
def FpPost (V : Nat) (E : Int) (w : World) (e : Ending) (w' : World) : Prop := e = RetP V E ∧ Below w.heap.size w w'
def RpPost (U : Nat) (E : Int) (w : World) (e : Ending) (w' : World) : Prop := e = RetU2 U E ∧ Below w.heap.size w w'

set_option maxRecDepth 100000 in
set_option maxHeartbeats 1000000 in
theorem fparse_long (S : ByteArray) (hs : 4096 < S.size) (w : World) :
    Calls Tryz.prog 10 #[.string S] w fun e w' => e = RetP 0 2 ∧ w = w' := by
  have q := decide_eq_true hs
  go_enter Tryz.func10, Tryz.ntmps10
  go_wp2_with fail
  go_ret2
  exact ⟨rfl, rfl⟩
set_option maxRecDepth 100000 in
set_option maxHeartbeats 1000000 in
theorem fparse_no (S : ByteArray) (hs : S.size ≤ 4096)
    (HF : Hid (∀ w, Calls Tryz.prog 29 #[.string S] w fun e w' => e = .returned (.bool false) ∧ w = w')) (w : World) :
    Calls Tryz.prog 10 #[.string S] w fun e w' => e = RetP 0 21 ∧ w = w' := by
  go_enter Tryz.func10, Tryz.ntmps10
  go_wp2_with (go_at_call 29; ((with_reducible refine (HF.out _).mono ?_); rintro e w' ⟨rfl, rfl⟩))
  go_ret2
  exact ⟨rfl, rfl⟩
set_option maxRecDepth 100000 in
set_option maxHeartbeats 1000000 in
theorem fparse_yes (S : ByteArray) (R : Nat) (hs : S.size ≤ 4096)
    (HF : Hid (∀ w, Calls Tryz.prog 29 #[.string S] w fun e w' => e = .returned (.bool true) ∧ w = w'))
    (HD : Hid (∀ w, PEnv w → Calls Tryz.prog 30 #[.string S] w fun e w' => e = .returned (.float .f64 R) ∧ Below w.heap.size w w')) (w : World) (ht : PEnv w) :
    Calls Tryz.prog 10 #[.string S] w fun e w' => e = RetP R 0 ∧ Below w.heap.size w w' := by
  have HT := Lib.hid ht
  clear ht
  go_enter Tryz.func10, Tryz.ntmps10
  go_wp2_with (first
    | (go_at_call 29; ((with_reducible refine (HF.out _).mono ?_); rintro e w' ⟨rfl, rfl⟩))
    | (go_at_call 30; ((with_reducible refine (HD.out _ HT.out).mono ?_); rintro e w' ⟨rfl, hb⟩; have HB := Lib.hid hb; clear hb)))
  go_ret2
  exact ⟨rfl, HB.out⟩

/-- The law's walk, from what both Parses tell. -/
def LawPost (w : World) (e : Ending) (w' : World) : Prop := e = .returned (.bool true) ∧ Below w.heap.size w w'
set_option maxRecDepth 100000 in
set_option maxHeartbeats 2000000 in
theorem law_prs (S : ByteArray) (V U : Nat) (E : Int)
    (HP : Hid (∀ w, PEnv w → Calls Tryz.prog 10 #[.string S] w (FpPost V E w)))
    (HR : Hid (∀ w, Calls Tryz.prog 11 #[.string S] w (RpPost U E w)))
    (HS : Hid (∀ w, Calls Tryz.prog 12 #[.float .f64 V, .int .u64 U] w fun e w' => e = .returned (.bool true) ∧ w = w'))
    (w : World) (ht : PEnv w) :
    Calls Tryz.prog 4 #[.string S] w (LawPost w) := by
  have HW := Lib.hid (fun w ht => awake_true w ht)
  have HT := Lib.hid ht
  clear ht
  go_enter Tryz.func4, Tryz.ntmps4
  go_wp2_with (first
    | (go_at_call 10; ((with_reducible refine (HP.out _ HT.out).mono ?_); rintro e w1 ⟨rfl, hb1⟩; have HB1 := Lib.hid hb1; have HT1 := Lib.hid (HT.out.below hb1 (Nat.le_refl _)); clear hb1))
    | (go_at_call 11; ((with_reducible refine (HR.out _).mono ?_); rintro e w2 ⟨rfl, hb2⟩; have HB2 := Lib.hid (HB1.out.trans (hb2.mono HB1.out.size)); have HT2 := Lib.hid (HT1.out.below hb2 (Nat.le_refl _)); clear hb2))
    | (go_at_call 12; ((with_reducible refine (HS.out _).mono ?_); rintro e w' ⟨rfl, rfl⟩))
    | (go_at_call 9; refine (HW.out _ HT2.out.env).mono ?_; rintro e w3 ⟨rfl, hb3⟩; have HB3 := Lib.hid (HB2.out.trans (hb3.mono HB2.out.size)); clear hb3))
  go_ret
  exact ⟨rfl, HB3.out⟩

theorem law_parses (S : ByteArray) (w : World) (ht : PEnv w) : Calls Tryz.prog 4 #[.string S] w (LawPost w) := by
  have HS0 : ∀ w, Calls Tryz.prog 12 #[.float .f64 0, .int .u64 ((0 : Nat) : Int)] w fun e w' => e = .returned (.bool true) ∧ w = w' := fun w => by
    have h := is_any 0 0 (by decide) w
    rw [decide_eq_true rfl] at h
    exact h
  rcases Nat.lt_or_ge 4096 S.size with hl | hl
  · have h1 := fun w (_ : PEnv w) => (fparse_long S hl w).mono (R' := FpPost 0 2 w) fun e w' ⟨h1, h2⟩ => ⟨h1, h2 ▸ Below.refl _ _⟩
    have h2 := fun w => (rparse_long S hl w).mono (R' := RpPost 0 2 w) fun e w' ⟨h1, h2⟩ => ⟨h1, h2 ▸ Below.refl _ _⟩
    exact law_prs S 0 0 2 h1 h2 HS0 w ht
  · obtain ⟨s, rfl⟩ : ∃ s : List UInt8, S = ⟨s.toArray⟩ := ⟨S.data.toList, by cases S; simp⟩
    rw [size_mk] at hl
    have hF := fun w => fform_any s hl w
    cases hf : formL s
    · rw [hf] at hF
      have h1 := fun w (_ : PEnv w) => (fparse_no ⟨s.toArray⟩ (by rw [size_mk]; exact hl) hF w).mono (R' := FpPost 0 21 w) fun e w' ⟨h1, h2⟩ => ⟨h1, h2 ▸ Below.refl _ _⟩
      have h2 := fun w => rparse_no s hl hf w
      exact law_prs ⟨s.toArray⟩ 0 0 21 h1 h2 HS0 w ht
    · rw [hf] at hF
      obtain ⟨p, hp, rfl⟩ := form_parts s hf
      have hcap := cap_lt
      have hle := parR_le p
      have hD := fun w (hw : PEnv w) => decimal_any p hp hl _ (Nat.lt_of_le_of_lt (rq_le _ _) cap_lt) (fun hd => pf_ok p.d p.at_ (dropZ_digs hp.hD) (dropZ_head _) (List.length_pos_iff.2 hd) (by
        have h := dropZ_len p.D
        have := hp.len2.1
        have hDl : p.D.length = p.W.length + p.Pt.length := List.length_append
        exact Nat.le_trans h (by omega)) (by unfold Parts.at_; omega) (by unfold Parts.at_; omega)) w hw
      unfold DecP at hD
      rw [par_dec p hp hl, sgF_wd _ (by omega)] at hD
      have h1 := fun w (hw : PEnv w) => (fparse_yes ⟨p.text.toArray⟩ _ (by rw [size_mk]; exact hl) hF hD w hw)
      have hw64 : wd p.neg (parR p) < 2 ^ 64 := by unfold wd; split <;> omega
      have hS := fun w => is_any (wd p.neg (parR p)) (wd p.neg (parR p)) hw64 w
      rw [decide_eq_true rfl] at hS
      have h2 := fun w => rparse_at p hp hl w
      exact law_prs ⟨p.text.toArray⟩ _ _ 0 h1 h2 hS w ht
end Go.Proofs.YtijncfidjjfmiaaGreatDoor
