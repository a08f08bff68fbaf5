/- The program's Text at every real. -/
import Derived.Test.YtijncfidjjfmiaaGreatDoorFloTxtT
import Derived.Test.YtijncfidjjfmiaaGreatDoorFloTxtO
namespace Go.Proofs.YtijncfidjjfmiaaGreatDoor
open Go.RowKit FloM

set_option maxRecDepth 100000 in
set_option maxHeartbeats 2000000 in
theorem text_pos (u r : Nat) (k z : Int) (Fs MS XS DS PS RS : ByteArray) (k0 : (k == 0) = false) (k1 : (k == 1) = false) (s0 : bits .and .u64 (u : Int) 9223372036854775808 = 0)
    (hq : (FloatKind.f64.format.order u 0 == some Ordering.eq) = false) (hz : -1000 ≤ z ∧ z ≤ 1000)
    (HCL : Hid (∀ w, Calls Tryz.prog 15 #[.float .f64 u] w fun e w' => e = .returned (.int .i64 k) ∧ w = w'))
    (HBI : Hid (∀ w, Calls Tryz.prog 16 #[.float .f64 u] w fun e w' => e = .returned (.int .u64 (u : Int)) ∧ w = w'))
    (HAB : Hid (∀ w, Calls Tryz.prog 18 #[.float .f64 u] w fun e w' => e = .returned (.float .f64 r) ∧ w = w'))
    (HF : Hid (∀ w, Env w → Calls Tryz.prog 17 #[.float .f64 r, .int .u8 101, .int .i64 (-1), .int .i64 64] w fun e w' => e = .returned (.string Fs) ∧ Below w.heap.size w w'))
    (HC : Hid (∀ w, Env w → Calls Tryz.prog 19 #[.string Fs, .string ⟨#[101]⟩] w fun e w' => e = .returned (.tuple #[.string MS, .string XS, .bool true]) ∧ Below w.heap.size w w'))
    (HR : Hid (∀ w, Env w → Calls Tryz.prog 20 #[.string MS, .string ⟨#[46]⟩, .string ⟨#[]⟩, .int .i64 1] w fun e w' => e = .returned (.string DS) ∧ Below w.heap.size w w'))
    (HA : Hid (∀ w, Calls Tryz.prog 21 #[.string XS] w fun e w' => e = .returned (.tuple #[.int .i64 z, .nilIface]) ∧ Below w.heap.size w w'))
    (HP : Hid (∀ w, Env w → Calls Tryz.prog 22 #[.string DS, .int .i64 (z + 1)] w fun e w' => e = .returned (.string PS) ∧ Below w.heap.size w w'))
    (k4 : ∀ w, (Op.stringOp .add ⟨#[]⟩ PS).run Tryz.prog w = .ok (.string RS) w) (w : World) (ht : Env w) :
    Calls Tryz.prog 6 #[.float .f64 u] w fun e w' => e = .returned (.string RS) ∧ Below w.heap.size w w' := by
  have HT := Lib.hid ht
  clear ht
  go_enter Tryz.func6, Tryz.ntmps6
  go_wp2_with (first
    | (go_at_call 15; refine (HCL.out _).mono ?_; rintro e w' ⟨rfl, rfl⟩)
    | (go_at_call 16; refine (HBI.out _).mono ?_; rintro e w' ⟨rfl, rfl⟩)
    | (go_at_call 18; refine (HAB.out _).mono ?_; rintro e w' ⟨rfl, rfl⟩)
    | (go_at_call 17; refine (HF.out _ HT.out).mono ?_; rintro e w1 ⟨rfl, hb1⟩; have HB1 := Lib.hid hb1; have HT1 := Lib.hid (HT.out.below hb1 (Nat.le_refl _)); clear hb1)
    | (go_at_call 19; refine (HC.out _ HT1.out).mono ?_; rintro e w2 ⟨rfl, hb2⟩; have HB2 := Lib.hid (HB1.out.trans (hb2.mono HB1.out.size)); have HT2 := Lib.hid (HT1.out.below hb2 (Nat.le_refl _)); clear hb2)
    | (go_at_call 20; refine (HR.out _ HT2.out).mono ?_; rintro e w3 ⟨rfl, hb3⟩; have HB3 := Lib.hid (HB2.out.trans (hb3.mono HB2.out.size)); have HT3 := Lib.hid (HT2.out.below hb3 (Nat.le_refl _)); clear hb3)
    | (go_at_call 21; refine (HA.out _).mono ?_; rintro e w4 ⟨rfl, hb4⟩; have HB4 := Lib.hid (HB3.out.trans (hb4.mono HB3.out.size)); have HT4 := Lib.hid (HT3.out.below hb4 (Nat.le_refl _)); clear hb4)
    | (go_at_call 22; refine (HP.out _ HT4.out).mono ?_; rintro e w5 ⟨rfl, hb5⟩; have HB5 := Lib.hid (HB4.out.trans (hb5.mono HB4.out.size)); clear hb5))
  go_ret
  exact ⟨rfl, HB5.out⟩

set_option maxRecDepth 100000 in
set_option maxHeartbeats 2000000 in
theorem text_neg (u r : Nat) (k z : Int) (Fs MS XS DS PS RS : ByteArray) (k0 : (k == 0) = false) (k1 : (k == 1) = false) (s0 : bits .and .u64 (u : Int) 9223372036854775808 = 9223372036854775808)
    (hq : (FloatKind.f64.format.order u 0 == some Ordering.eq) = false) (hz : -1000 ≤ z ∧ z ≤ 1000)
    (HCL : Hid (∀ w, Calls Tryz.prog 15 #[.float .f64 u] w fun e w' => e = .returned (.int .i64 k) ∧ w = w'))
    (HBI : Hid (∀ w, Calls Tryz.prog 16 #[.float .f64 u] w fun e w' => e = .returned (.int .u64 (u : Int)) ∧ w = w'))
    (HAB : Hid (∀ w, Calls Tryz.prog 18 #[.float .f64 u] w fun e w' => e = .returned (.float .f64 r) ∧ w = w'))
    (HF : Hid (∀ w, Env w → Calls Tryz.prog 17 #[.float .f64 r, .int .u8 101, .int .i64 (-1), .int .i64 64] w fun e w' => e = .returned (.string Fs) ∧ Below w.heap.size w w'))
    (HC : Hid (∀ w, Env w → Calls Tryz.prog 19 #[.string Fs, .string ⟨#[101]⟩] w fun e w' => e = .returned (.tuple #[.string MS, .string XS, .bool true]) ∧ Below w.heap.size w w'))
    (HR : Hid (∀ w, Env w → Calls Tryz.prog 20 #[.string MS, .string ⟨#[46]⟩, .string ⟨#[]⟩, .int .i64 1] w fun e w' => e = .returned (.string DS) ∧ Below w.heap.size w w'))
    (HA : Hid (∀ w, Calls Tryz.prog 21 #[.string XS] w fun e w' => e = .returned (.tuple #[.int .i64 z, .nilIface]) ∧ Below w.heap.size w w'))
    (HP : Hid (∀ w, Env w → Calls Tryz.prog 22 #[.string DS, .int .i64 (z + 1)] w fun e w' => e = .returned (.string PS) ∧ Below w.heap.size w w'))
    (k4 : ∀ w, (Op.stringOp .add ⟨#[126]⟩ PS).run Tryz.prog w = .ok (.string RS) w) (w : World) (ht : Env w) :
    Calls Tryz.prog 6 #[.float .f64 u] w fun e w' => e = .returned (.string RS) ∧ Below w.heap.size w w' := by
  have HT := Lib.hid ht
  clear ht
  go_enter Tryz.func6, Tryz.ntmps6
  go_wp2_with (first
    | (go_at_call 15; refine (HCL.out _).mono ?_; rintro e w' ⟨rfl, rfl⟩)
    | (go_at_call 16; refine (HBI.out _).mono ?_; rintro e w' ⟨rfl, rfl⟩)
    | (go_at_call 18; refine (HAB.out _).mono ?_; rintro e w' ⟨rfl, rfl⟩)
    | (go_at_call 17; refine (HF.out _ HT.out).mono ?_; rintro e w1 ⟨rfl, hb1⟩; have HB1 := Lib.hid hb1; have HT1 := Lib.hid (HT.out.below hb1 (Nat.le_refl _)); clear hb1)
    | (go_at_call 19; refine (HC.out _ HT1.out).mono ?_; rintro e w2 ⟨rfl, hb2⟩; have HB2 := Lib.hid (HB1.out.trans (hb2.mono HB1.out.size)); have HT2 := Lib.hid (HT1.out.below hb2 (Nat.le_refl _)); clear hb2)
    | (go_at_call 20; refine (HR.out _ HT2.out).mono ?_; rintro e w3 ⟨rfl, hb3⟩; have HB3 := Lib.hid (HB2.out.trans (hb3.mono HB2.out.size)); have HT3 := Lib.hid (HT2.out.below hb3 (Nat.le_refl _)); clear hb3)
    | (go_at_call 21; refine (HA.out _).mono ?_; rintro e w4 ⟨rfl, hb4⟩; have HB4 := Lib.hid (HB3.out.trans (hb4.mono HB3.out.size)); have HT4 := Lib.hid (HT3.out.below hb4 (Nat.le_refl _)); clear hb4)
    | (go_at_call 22; refine (HP.out _ HT4.out).mono ?_; rintro e w5 ⟨rfl, hb5⟩; have HB5 := Lib.hid (HB4.out.trans (hb5.mono HB4.out.size)); clear hb5))
  go_ret
  exact ⟨rfl, HB5.out⟩

theorem eOf_txt (r : Nat) (c : UInt8) (T : List UInt8) (h : shT r = c :: T) : eOfQ (shortBits r) = eText c T (decide (shE r - 1 < 0)) (shE r - 1).natAbs := by
  unfold shT at h
  unfold eOfQ shE
  rw [h]

theorem svz {u : Nat} : sv u = 0 ↔ rg u = 0 := by
  rw [← Int.natAbs_eq_zero, sv_natAbs, val_eq_zero]
theorem sv_p {u : Nat} (h : u < 2 ^ 63) : sv u = val (rg u) := by
  unfold sv sgn
  rw [show u / 2 ^ 63 = 0 by omega]
  rfl
theorem sv_n {u : Nat} (h : ¬ u < 2 ^ 63) (hu : u < 2 ^ 64) : sv u = -(val (rg u) : Int) := by
  unfold sv sgn
  rw [show u / 2 ^ 63 = 1 by omega]
  rfl
theorem order_zero (u : Nat) (h : rg u ≤ cap) : FloatKind.f64.format.order u 0 = some (compare (sv u) 0) := by
  rw [dbl, order_all h (by decide)]
  rfl

theorem text_fin (u : Nat) (hu : u < 2 ^ 64) (h0 : rg u ≠ 0) (hf : rg u < cap) (w : World) (ht : Env w) : Calls Tryz.prog 6 #[.float .f64 u] w (RetT w (txtU u)) := by
  have hcap : cap = 2047 * 2 ^ 52 := rfl
  have hcan : canon u = u := by unfold canon; rw [if_neg (by omega)]
  have hcl := fun w => class_any u hu w
  have hbi := fun w => bits_any u w
  have hab := fun w => abs_any u hu w
  have hlow : lowN u = rg u := rfl
  have habs : absF u = rg u := by unfold absF; rw [hcan, hlow]
  rw [habs] at hab
  rw [hcan] at hbi
  have hk : (classN u == 0) = false ∧ (classN u == 1) = false := by
    unfold classN
    rw [if_neg (by omega), if_neg (by omega), if_neg h0]
    split <;> exact ⟨rfl, rfl⟩
  obtain ⟨f1, f2, f3, f4, _⟩ := sh_facts (rg u) (by omega) hf
  have hd : Digs (shT (rg u)) := (decDigits_digs _).strip
  have HPL := fun w ht => placed_any (shT (rg u)) (shE (rg u)) f1 f2 f3 f4 w ht
  have hfm := fun w ht => fmtS_all (rg u) w (by omega) hf ht
  have heo := eOf_txt (rg u)
  have hq : (FloatKind.f64.format.order u 0 == some Ordering.eq) = false := by
    rw [order_zero u (by omega)]
    have : sv u ≠ 0 := fun h => h0 (svz.1 h)
    rw [beq_eq_false_iff_ne]
    intro h
    exact this (Int.compare_eq_eq.1 (Option.some.inj h))
  have hT : txtU u = (if u < 2 ^ 63 then [] else [126]) ++ txt (shT (rg u)) (shE (rg u)) := by
    unfold txtU txtL
    by_cases h : u < 2 ^ 63
    · rw [if_neg (by omega), if_pos h, if_pos h, if_neg (by omega), if_neg h0]; rfl
    · rw [if_neg (by omega), if_neg h, if_neg h, if_neg (by omega), if_neg h0]; rfl
  have hl := txt_len (shT (rg u)) (shE (rg u)) f2 f3 f4
  rw [hT]
  rcases hs : shT (rg u) with _ | ⟨c, T⟩
  · rw [hs] at f1; simp at f1
  rw [heo c T hs] at hfm
  rw [hs] at hd HPL hl f2
  generalize hE : shE (rg u) = E at *
  have hTl : T.length ≤ 20 := by rw [List.length_cons] at f2; omega
  have hx : (E - 1).natAbs < 500 := by omega
  have hat := fun w => atoi_txt (decide (E - 1 < 0)) (E - 1).natAbs hx w
  have hz : (if decide (E - 1 < 0) = true then -((E - 1).natAbs : Int) else ((E - 1).natAbs : Int)) = E - 1 := by
    by_cases h : E - 1 < 0
    · rw [decide_eq_true h, if_pos rfl]; omega
    · rw [decide_eq_false h, if_neg (by decide)]; omega
  rw [hz] at hat
  have hpl : ∀ w, Env w → Calls Tryz.prog 22 #[.string ⟨(c :: T).toArray⟩, .int .i64 (E - 1 + 1)] w (RetT w (txt (c :: T) E)) := fun w ht => by
    rw [Int.sub_add_cancel]; exact HPL w ht
  by_cases hu3 : u < 2 ^ 63
  · rw [if_pos hu3]
    exact text_pos u (rg u) (classN u) (E - 1) _ _ _ ⟨(c :: T).toArray⟩ ⟨(txt (c :: T) E).toArray⟩ _ hk.1 hk.2 (sgn_zero u hu3) hq (by omega) hcl hbi hab hfm (fun w ht => cut_txt hd hTl _ _ hx w ht) (fun w ht => repl_pt hd hTl w ht) hat hpl (cat4 [] _ (by simp) hl) w ht
  · rw [if_neg hu3]
    have b1 : bits .and .u64 (u : Int) 9223372036854775808 = 9223372036854775808 := by
      rw [bits_sign u hu]; unfold sgnN; rw [if_neg hu3]; rfl
    exact text_neg u (rg u) (classN u) (E - 1) _ _ _ ⟨(c :: T).toArray⟩ ⟨(txt (c :: T) E).toArray⟩ _ hk.1 hk.2 b1 hq (by omega) hcl hbi hab hfm (fun w ht => cut_txt hd hTl _ _ hx w ht) (fun w ht => repl_pt hd hTl w ht) hat hpl (cat4 [126] _ (by simp) hl) w ht

set_option maxRecDepth 100000 in
set_option maxHeartbeats 1000000 in
theorem text_flat (u : Nat) (hu : u < 2 ^ 64) (h : cap ≤ rg u ∨ rg u = 0) (w : World) : Calls Tryz.prog 6 #[.float .f64 u] w (RetT w (txtU u)) := by
  have hcap : cap = 2047 * 2 ^ 52 := rfl
  have hcl := fun w => class_any u hu w
  have hbi := fun w => bits_any u w
  by_cases hn : cap < rg u
  · have e : txtU u = [110, 97, 110] := if_pos hn
    have ek : classN u = 0 := if_pos hn
    rw [e]
    rw [ek] at hcl
    clear hn e ek h hcap hu hbi
    go_enter Tryz.func6, Tryz.ntmps6
    go_wp2_with (go_at_call 15; refine (hcl _).mono ?_; rintro e w' ⟨rfl, rfl⟩)
    go_ret
    exact ⟨rfl, Below.refl _ _⟩
  have hcan : canon u = u := by unfold canon; rw [if_neg (by omega)]
  rw [hcan] at hbi
  have ho := order_zero u (by omega)
  by_cases hi : rg u = cap
  · have ek : classN u = 1 := by unfold classN; rw [if_neg hn, if_pos hi]
    rw [ek] at hcl
    have hcp : 0 < val cap := val_cap_pos
    by_cases hs : u < 2 ^ 63
    · have e : txtU u = [105, 110, 102] := by unfold txtU txtL; rw [if_neg hn, if_pos hs, if_pos hi]
      have hlt : (FloatKind.f64.format.order u 0 == some Ordering.lt) = false := by
        rw [ho, beq_eq_false_iff_ne]
        intro h9
        have h8 := Int.compare_eq_lt.1 (Option.some.inj h9)
        rw [sv_p hs, hi] at h8
        omega
      rw [e]
      clear hn e ek h hcap hu hbi hi hs hcan ho hcp
      go_enter Tryz.func6, Tryz.ntmps6
      go_wp2_with (go_at_call 15; refine (hcl _).mono ?_; rintro e w' ⟨rfl, rfl⟩)
      go_ret
      exact ⟨rfl, Below.refl _ _⟩
    · have e : txtU u = [126, 105, 110, 102] := by unfold txtU txtL; rw [if_neg hn, if_neg hs, if_pos hi]
      have hlt : (FloatKind.f64.format.order u 0 == some Ordering.lt) = true := by
        rw [ho, beq_iff_eq]
        have : sv u < 0 := by rw [sv_n hs hu, hi]; omega
        rw [Int.compare_eq_lt.2 this]
      rw [e]
      clear hn e ek h hcap hu hbi hi hs hcan ho hcp
      go_enter Tryz.func6, Tryz.ntmps6
      go_wp2_with (go_at_call 15; refine (hcl _).mono ?_; rintro e w' ⟨rfl, rfl⟩)
      go_ret
      exact ⟨rfl, Below.refl _ _⟩
  · have hz : rg u = 0 := by omega
    have hk : classN u = 2 := by unfold classN; rw [if_neg hn, if_neg hi, if_pos hz]
    rw [hk] at hcl
    have heq : (FloatKind.f64.format.order u 0 == some Ordering.eq) = true := by
      rw [ho, beq_iff_eq, svz.2 hz]
      rfl
    by_cases hs : u < 2 ^ 63
    · have e : txtU u = [48, 46, 48] := by unfold txtU txtL; rw [if_neg hn, if_pos hs, if_neg (by omega), if_pos hz]
      have s0 := sgn_zero u hs
      rw [e]
      clear hn e hk h hcap hu hi hs hcan ho hz
      go_enter Tryz.func6, Tryz.ntmps6
      go_wp2_with (first
        | (go_at_call 15; refine (hcl _).mono ?_; rintro e w' ⟨rfl, rfl⟩)
        | (go_at_call 16; refine (hbi _).mono ?_; rintro e w' ⟨rfl, rfl⟩))
      go_ret
      exact ⟨rfl, Below.refl _ _⟩
    · have e : txtU u = [126, 48, 46, 48] := by unfold txtU txtL; rw [if_neg hn, if_neg hs, if_neg (by omega), if_pos hz]
      have b1 : bits .and .u64 (u : Int) 9223372036854775808 = 9223372036854775808 := by
        rw [bits_sign u hu]; unfold sgnN; rw [if_neg hs]; rfl
      rw [e]
      clear hn e hk h hcap hu hi hs hcan ho hz
      go_enter Tryz.func6, Tryz.ntmps6
      go_wp2_with (first
        | (go_at_call 15; refine (hcl _).mono ?_; rintro e w' ⟨rfl, rfl⟩)
        | (go_at_call 16; refine (hbi _).mono ?_; rintro e w' ⟨rfl, rfl⟩))
      go_ret
      exact ⟨rfl, Below.refl _ _⟩

theorem text_any (u : Nat) (hu : u < 2 ^ 64) (w : World) (ht : Env w) : Calls Tryz.prog 6 #[.float .f64 u] w (RetT w (txtU u)) := by
  by_cases h : cap ≤ rg u ∨ rg u = 0
  · exact text_flat u hu h w
  · exact text_fin u hu (by omega) (by omega) w ht
end Go.Proofs.YtijncfidjjfmiaaGreatDoor
