/- The program's decimal. -/
import Derived.Test.YtijncfidjjfmiaaGreatDoorFloParA
import Derived.Test.YtijncfidjjfmiaaGreatDoorFloFastB
import Derived.Laws.RangeString
import Derived.Laws.RangeAny
namespace Go.Proofs.YtijncfidjjfmiaaGreatDoor
open Go.RowKit FloM

theorem xor_or63 (x : Nat) (hx : x < 2 ^ 63) : 2 ^ 63 ^^^ x = 2 ^ 63 ||| x := by
  apply Nat.eq_of_testBit_eq
  intro i
  rw [Nat.testBit_xor, Nat.testBit_or, Nat.testBit_two_pow]
  by_cases h : 63 = i
  · subst h
    rw [Nat.testBit_lt_two_pow hx]; simp
  · simp [h]
theorem neg_float {P : Program} (x : Nat) (hx : x < 2 ^ 63) (w : World) : (Op.unary .neg (.float .f64 x)).run P w = .ok (.float .f64 (turnN x)) w := by
  have e : Op.negFloat .f64 x = turnN x := by
    show x ^^^ 2 ^ 63 = turnN x
    unfold turnN
    rw [if_pos hx, Nat.xor_comm]
    have h := Nat.two_pow_add_eq_or_of_lt (i := 63) (b := x) hx 1
    rw [Nat.mul_one] at h
    rw [h]
    exact xor_or63 x hx
  show Result.ok (Value.float .f64 (Op.negFloat .f64 x)) w = _
  rw [e]
/-- The number of digits, at most 2 to the 40. -/
def capN (n : Nat) : List UInt8 → Nat
  | [] => n
  | c :: t => capN (min (10 * n + (c.toNat - 48)) 1099511627776) t
theorem capN_step {C : List UInt8} {pos m : Nat} {c : UInt8} (h : C[pos]? = some c) : capN m (C.drop pos) = capN (min (10 * m + (c.toNat - 48)) 1099511627776) (C.drop (pos + 1)) := by
  obtain ⟨h1, h2⟩ := List.getElem?_eq_some_iff.1 h
  rw [List.drop_eq_getElem_cons h1, h2]
  rfl

set_option maxRecDepth 100000 in
set_option maxHeartbeats 2000000 in
theorem fdec_n00 (S0 S1 _AM _EX WH PT X1 D _X2 _X3 _IT _PF : ByteArray) (C : List UInt8) (k _at_ : Int) (_kn N R : Nat) (bb : Bool) (_hR : R < 2 ^ 63)
    (hN : capN 0 C = N)
    (HCP : Hid (∀ w, Calls Tryz.prog 61 #[.string S0, .string ⟨#[126]⟩] w fun e w' => e = .returned (.tuple #[.string S1, .bool false]) ∧ w = w'))
    (HIA : Hid (∀ w, Calls Tryz.prog 62 #[.string S1, .string ⟨#[101, 69]⟩] w fun e w' => e = .returned (.int .i64 k) ∧ Below w.heap.size w w'))
    (qk : k = -1)
    (HCU : Hid (∀ w, PEnv w → Calls Tryz.prog 19 #[.string S1, .string ⟨#[46]⟩] w fun e w' => e = .returned (.tuple #[.string WH, .string PT, .bool bb]) ∧ Below w.heap.size w w'))
    (k1 : ∀ w, (Op.stringOp .add WH PT).run Tryz.prog w = .ok (.string X1) w)
    (HTL : Hid (∀ w, Calls Tryz.prog 63 #[.string X1, .string ⟨#[48]⟩] w fun e w' => e = .returned (.string D) ∧ w = w'))
    (HTP : Hid (∀ w, Calls Tryz.prog 59 #[.string ⟨#[]⟩, .string ⟨#[126]⟩] w fun e w' => e = .returned (.string ⟨C.toArray⟩) ∧ w = w')) (hC : Digs C) (hCl : C.length ≤ 4096)
    (HHP : Hid (∀ w, Calls Tryz.prog 64 #[.string ⟨#[]⟩, .string ⟨#[126]⟩] w fun e w' => e = .returned (.bool false) ∧ w = w'))
    (qD : D.toList.isEmpty = true) (w : World) (ht : PEnv w) :
    Calls Tryz.prog 30 #[.string S0] w fun e w' => e = .returned (.float .f64 0) ∧ Below w.heap.size w w' := by
  have HT := Lib.hid ht
  have HCL := Lib.hid hCl
  have HCD := Lib.hid hC
  have HN := Lib.hid hN
  clear ht hC hN
  subst qk
  go_enter Tryz.func30, Tryz.ntmps30
  go_wp2_with (first
    | (go_at_call 61; ((with_reducible refine (HCP.out _).mono ?_); rintro e w' ⟨rfl, rfl⟩))
    | (go_at_call 62; ((with_reducible refine (HIA.out _).mono ?_); rintro e w1 ⟨rfl, hb1⟩; have HB1 := Lib.hid hb1; have HT1 := Lib.hid (HT.out.below hb1 (Nat.le_refl _)); clear hb1))
    | (go_at_call 19; ((refine (HCU.out _ HT1.out).mono ?_); rintro e w2 ⟨rfl, hb2⟩; have HB2 := Lib.hid (HB1.out.trans (hb2.mono HB1.out.size)); have HT2 := Lib.hid (HT1.out.below hb2 (Nat.le_refl _)); clear hb2))
    | (go_at_call 63; ((with_reducible refine (HTL.out _).mono ?_); rintro e w' ⟨rfl, rfl⟩))
    | (go_at_call 59; ((with_reducible refine (HTP.out _).mono ?_); rintro e w' ⟨rfl, rfl⟩)))
  go_loopw [11] (fun n wr => ∃ pos m : Nat, pos ≤ C.length ∧ wr = w2.iter ⟨C.toArray⟩ pos ∧ n = .int .i64 (m : Int) ∧ m ≤ 1099511627776 ∧ capN m (C.drop pos) = N) (fun _ wr => C.length - wr.iterPos w2.heap.size)
  case atStart => exact ⟨0, 0, Nat.zero_le _, rfl, rfl, by omega, HN.out⟩
  case round =>
    obtain ⟨pos, m, hp0, rfl, rfl, hm, hc⟩ := hrel
    have HC := Lib.hid hc
    clear hc
    by_cases hp : pos < C.length
    · obtain ⟨c, hcc⟩ : ∃ c, C[pos]? = some c := ⟨C[pos], List.getElem?_eq_getElem hp⟩
      have hps : pos < (ByteArray.mk C.toArray).size := by rw [size_mk]; exact hp
      have hg : (ByteArray.mk C.toArray)[pos]'hps = c := str_get hcc hps
      obtain ⟨c1, c2⟩ := HCD.out c (List.mem_of_getElem? hcc)
      have hnx : ∀ ty, (Instr.next (.pointer (some ⟨w2.heap.size, 0, none⟩)) true ty).run Tryz.prog (w2.iter ⟨C.toArray⟩ pos) = _ := fun ty => run_next_ascii w2 ⟨C.toArray⟩ pos ty hps (by rw [hg]; omega)
      rw [hg] at hnx
      have HST := Lib.hid (show capN (min (10 * m + (c.toNat - 48)) 1099511627776) (C.drop (pos + 1)) = N by
        rw [← HC.out, ← capN_step hcc])
      clear hg hcc
      go_wp2_with fail
      go_roundw
      case rel => exact ⟨pos + 1, min (10 * m + (c.toNat - 48)) 1099511627776, by omega, rfl, by go_num, by omega, HST.out⟩
      case measure => simp; omega
    · have hps : ¬ pos < (ByteArray.mk C.toArray).size := by rw [size_mk]; exact hp
      have hnx : ∀ ty, (Instr.next (.pointer (some ⟨w2.heap.size, 0, none⟩)) true ty).run Tryz.prog (w2.iter ⟨C.toArray⟩ pos) = _ := fun ty => run_next_end w2 ⟨C.toArray⟩ pos ty hps
      have hmN : m = N := by
        have := HC.out
        rw [List.drop_eq_nil_of_le (by omega)] at this
        exact this
      subst hmN
      have HT3 := Lib.hid (show PEnv (w2.iter ⟨C.toArray⟩ pos) from HT2.out.alloc _)
      have HB3 := Lib.hid (show Below w.heap.size w (w2.iter ⟨C.toArray⟩ pos) from HB2.out.alloc HB2.out.size _)
      go_wp2_with (first
        | (go_at_call 64; ((with_reducible refine (HHP.out _).mono ?_); rintro e w' ⟨rfl, rfl⟩)))
      go_ret
      exact ⟨rfl, HB3.out⟩

set_option maxRecDepth 100000 in
set_option maxHeartbeats 2000000 in
theorem fdec_n01 (S0 S1 _AM _EX WH PT X1 D _X2 _X3 _IT _PF : ByteArray) (C : List UInt8) (k _at_ : Int) (_kn N R : Nat) (bb : Bool) (_hR : R < 2 ^ 63)
    (hN : capN 0 C = N)
    (HCP : Hid (∀ w, Calls Tryz.prog 61 #[.string S0, .string ⟨#[126]⟩] w fun e w' => e = .returned (.tuple #[.string S1, .bool true]) ∧ w = w'))
    (HIA : Hid (∀ w, Calls Tryz.prog 62 #[.string S1, .string ⟨#[101, 69]⟩] w fun e w' => e = .returned (.int .i64 k) ∧ Below w.heap.size w w'))
    (qk : k = -1)
    (HCU : Hid (∀ w, PEnv w → Calls Tryz.prog 19 #[.string S1, .string ⟨#[46]⟩] w fun e w' => e = .returned (.tuple #[.string WH, .string PT, .bool bb]) ∧ Below w.heap.size w w'))
    (k1 : ∀ w, (Op.stringOp .add WH PT).run Tryz.prog w = .ok (.string X1) w)
    (HTL : Hid (∀ w, Calls Tryz.prog 63 #[.string X1, .string ⟨#[48]⟩] w fun e w' => e = .returned (.string D) ∧ w = w'))
    (HTP : Hid (∀ w, Calls Tryz.prog 59 #[.string ⟨#[]⟩, .string ⟨#[126]⟩] w fun e w' => e = .returned (.string ⟨C.toArray⟩) ∧ w = w')) (hC : Digs C) (hCl : C.length ≤ 4096)
    (HHP : Hid (∀ w, Calls Tryz.prog 64 #[.string ⟨#[]⟩, .string ⟨#[126]⟩] w fun e w' => e = .returned (.bool false) ∧ w = w'))
    (qD : D.toList.isEmpty = true) (w : World) (ht : PEnv w) :
    Calls Tryz.prog 30 #[.string S0] w fun e w' => e = .returned (.float .f64 (turnN 0)) ∧ Below w.heap.size w w' := by
  have HT := Lib.hid ht
  have HCL := Lib.hid hCl
  have HCD := Lib.hid hC
  have HN := Lib.hid hN
  have hng := fun w => neg_float (P := Tryz.prog) 0 (by decide) w
  generalize turnN 0 = RN at *
  clear ht hC hN
  subst qk
  go_enter Tryz.func30, Tryz.ntmps30
  go_wp2_with (first
    | (go_at_call 61; ((with_reducible refine (HCP.out _).mono ?_); rintro e w' ⟨rfl, rfl⟩))
    | (go_at_call 62; ((with_reducible refine (HIA.out _).mono ?_); rintro e w1 ⟨rfl, hb1⟩; have HB1 := Lib.hid hb1; have HT1 := Lib.hid (HT.out.below hb1 (Nat.le_refl _)); clear hb1))
    | (go_at_call 19; ((refine (HCU.out _ HT1.out).mono ?_); rintro e w2 ⟨rfl, hb2⟩; have HB2 := Lib.hid (HB1.out.trans (hb2.mono HB1.out.size)); have HT2 := Lib.hid (HT1.out.below hb2 (Nat.le_refl _)); clear hb2))
    | (go_at_call 63; ((with_reducible refine (HTL.out _).mono ?_); rintro e w' ⟨rfl, rfl⟩))
    | (go_at_call 59; ((with_reducible refine (HTP.out _).mono ?_); rintro e w' ⟨rfl, rfl⟩)))
  go_loopw [11] (fun n wr => ∃ pos m : Nat, pos ≤ C.length ∧ wr = w2.iter ⟨C.toArray⟩ pos ∧ n = .int .i64 (m : Int) ∧ m ≤ 1099511627776 ∧ capN m (C.drop pos) = N) (fun _ wr => C.length - wr.iterPos w2.heap.size)
  case atStart => exact ⟨0, 0, Nat.zero_le _, rfl, rfl, by omega, HN.out⟩
  case round =>
    obtain ⟨pos, m, hp0, rfl, rfl, hm, hc⟩ := hrel
    have HC := Lib.hid hc
    clear hc
    by_cases hp : pos < C.length
    · obtain ⟨c, hcc⟩ : ∃ c, C[pos]? = some c := ⟨C[pos], List.getElem?_eq_getElem hp⟩
      have hps : pos < (ByteArray.mk C.toArray).size := by rw [size_mk]; exact hp
      have hg : (ByteArray.mk C.toArray)[pos]'hps = c := str_get hcc hps
      obtain ⟨c1, c2⟩ := HCD.out c (List.mem_of_getElem? hcc)
      have hnx : ∀ ty, (Instr.next (.pointer (some ⟨w2.heap.size, 0, none⟩)) true ty).run Tryz.prog (w2.iter ⟨C.toArray⟩ pos) = _ := fun ty => run_next_ascii w2 ⟨C.toArray⟩ pos ty hps (by rw [hg]; omega)
      rw [hg] at hnx
      have HST := Lib.hid (show capN (min (10 * m + (c.toNat - 48)) 1099511627776) (C.drop (pos + 1)) = N by
        rw [← HC.out, ← capN_step hcc])
      clear hg hcc
      go_wp2_with fail
      go_roundw
      case rel => exact ⟨pos + 1, min (10 * m + (c.toNat - 48)) 1099511627776, by omega, rfl, by go_num, by omega, HST.out⟩
      case measure => simp; omega
    · have hps : ¬ pos < (ByteArray.mk C.toArray).size := by rw [size_mk]; exact hp
      have hnx : ∀ ty, (Instr.next (.pointer (some ⟨w2.heap.size, 0, none⟩)) true ty).run Tryz.prog (w2.iter ⟨C.toArray⟩ pos) = _ := fun ty => run_next_end w2 ⟨C.toArray⟩ pos ty hps
      have hmN : m = N := by
        have := HC.out
        rw [List.drop_eq_nil_of_le (by omega)] at this
        exact this
      subst hmN
      have HT3 := Lib.hid (show PEnv (w2.iter ⟨C.toArray⟩ pos) from HT2.out.alloc _)
      have HB3 := Lib.hid (show Below w.heap.size w (w2.iter ⟨C.toArray⟩ pos) from HB2.out.alloc HB2.out.size _)
      go_wp2_with (first
        | (go_at_call 64; ((with_reducible refine (HHP.out _).mono ?_); rintro e w' ⟨rfl, rfl⟩)))
      go_ret
      exact ⟨rfl, HB3.out⟩

set_option maxRecDepth 100000 in
set_option maxHeartbeats 2000000 in
theorem fdec_n10 (S0 S1 _AM _EX WH PT X1 D X2 X3 IT PF : ByteArray) (C : List UInt8) (k at_ : Int) (_kn N R : Nat) (bb : Bool) (_hR : R < 2 ^ 63)
    (hN : capN 0 C = N)
    (HCP : Hid (∀ w, Calls Tryz.prog 61 #[.string S0, .string ⟨#[126]⟩] w fun e w' => e = .returned (.tuple #[.string S1, .bool false]) ∧ w = w'))
    (HIA : Hid (∀ w, Calls Tryz.prog 62 #[.string S1, .string ⟨#[101, 69]⟩] w fun e w' => e = .returned (.int .i64 k) ∧ Below w.heap.size w w'))
    (qk : k = -1)
    (HCU : Hid (∀ w, PEnv w → Calls Tryz.prog 19 #[.string S1, .string ⟨#[46]⟩] w fun e w' => e = .returned (.tuple #[.string WH, .string PT, .bool bb]) ∧ Below w.heap.size w w'))
    (k1 : ∀ w, (Op.stringOp .add WH PT).run Tryz.prog w = .ok (.string X1) w)
    (HTL : Hid (∀ w, Calls Tryz.prog 63 #[.string X1, .string ⟨#[48]⟩] w fun e w' => e = .returned (.string D) ∧ w = w'))
    (HTP : Hid (∀ w, Calls Tryz.prog 59 #[.string ⟨#[]⟩, .string ⟨#[126]⟩] w fun e w' => e = .returned (.string ⟨C.toArray⟩) ∧ w = w')) (hC : Digs C) (hCl : C.length ≤ 4096)
    (HHP : Hid (∀ w, Calls Tryz.prog 64 #[.string ⟨#[]⟩, .string ⟨#[126]⟩] w fun e w' => e = .returned (.bool false) ∧ w = w'))
    (qD : D.toList.isEmpty = false) (lD : D.size ≤ 9000) (lP : PT.size ≤ 9000) (hat : min (max ((D.size : Int) - (PT.size : Int) + ((N : Int))) (-1000)) 1000 = at_) (k2 : ∀ w, (Op.stringOp .add ⟨#[48, 46]⟩ D).run Tryz.prog w = .ok (.string X2) w) (k3 : ∀ w, (Op.stringOp .add X2 ⟨#[101]⟩).run Tryz.prog w = .ok (.string X3) w) (k4 : ∀ w, (Op.stringOp .add X3 IT).run Tryz.prog w = .ok (.string PF) w)
    (HIT : Hid (∀ w, PEnv w → Calls Tryz.prog 48 #[.int .i64 at_] w fun e w' => e = .returned (.string IT) ∧ Below w.heap.size w w'))
    (HPF : Hid (∀ w, PEnv w → Calls Tryz.prog 65 #[.string PF, .int .i64 64] w fun e w' => ∃ er, e = .returned (.tuple #[.float .f64 R, er]) ∧ Below w.heap.size w w')) (w : World) (ht : PEnv w) :
    Calls Tryz.prog 30 #[.string S0] w fun e w' => e = .returned (.float .f64 R) ∧ Below w.heap.size w w' := by
  have HT := Lib.hid ht
  have HCL := Lib.hid hCl
  have HCD := Lib.hid hC
  have HN := Lib.hid hN
  clear ht hC hN
  subst qk
  go_enter Tryz.func30, Tryz.ntmps30
  go_wp2_with (first
    | (go_at_call 61; ((with_reducible refine (HCP.out _).mono ?_); rintro e w' ⟨rfl, rfl⟩))
    | (go_at_call 62; ((with_reducible refine (HIA.out _).mono ?_); rintro e w1 ⟨rfl, hb1⟩; have HB1 := Lib.hid hb1; have HT1 := Lib.hid (HT.out.below hb1 (Nat.le_refl _)); clear hb1))
    | (go_at_call 19; ((refine (HCU.out _ HT1.out).mono ?_); rintro e w2 ⟨rfl, hb2⟩; have HB2 := Lib.hid (HB1.out.trans (hb2.mono HB1.out.size)); have HT2 := Lib.hid (HT1.out.below hb2 (Nat.le_refl _)); clear hb2))
    | (go_at_call 63; ((with_reducible refine (HTL.out _).mono ?_); rintro e w' ⟨rfl, rfl⟩))
    | (go_at_call 59; ((with_reducible refine (HTP.out _).mono ?_); rintro e w' ⟨rfl, rfl⟩)))
  go_loopw [11] (fun n wr => ∃ pos m : Nat, pos ≤ C.length ∧ wr = w2.iter ⟨C.toArray⟩ pos ∧ n = .int .i64 (m : Int) ∧ m ≤ 1099511627776 ∧ capN m (C.drop pos) = N) (fun _ wr => C.length - wr.iterPos w2.heap.size)
  case atStart => exact ⟨0, 0, Nat.zero_le _, rfl, rfl, by omega, HN.out⟩
  case round =>
    obtain ⟨pos, m, hp0, rfl, rfl, hm, hc⟩ := hrel
    have HC := Lib.hid hc
    clear hc
    by_cases hp : pos < C.length
    · obtain ⟨c, hcc⟩ : ∃ c, C[pos]? = some c := ⟨C[pos], List.getElem?_eq_getElem hp⟩
      have hps : pos < (ByteArray.mk C.toArray).size := by rw [size_mk]; exact hp
      have hg : (ByteArray.mk C.toArray)[pos]'hps = c := str_get hcc hps
      obtain ⟨c1, c2⟩ := HCD.out c (List.mem_of_getElem? hcc)
      have hnx : ∀ ty, (Instr.next (.pointer (some ⟨w2.heap.size, 0, none⟩)) true ty).run Tryz.prog (w2.iter ⟨C.toArray⟩ pos) = _ := fun ty => run_next_ascii w2 ⟨C.toArray⟩ pos ty hps (by rw [hg]; omega)
      rw [hg] at hnx
      have HST := Lib.hid (show capN (min (10 * m + (c.toNat - 48)) 1099511627776) (C.drop (pos + 1)) = N by
        rw [← HC.out, ← capN_step hcc])
      clear hg hcc
      go_wp2_with fail
      go_roundw
      case rel => exact ⟨pos + 1, min (10 * m + (c.toNat - 48)) 1099511627776, by omega, rfl, by go_num, by omega, HST.out⟩
      case measure => simp; omega
    · have hps : ¬ pos < (ByteArray.mk C.toArray).size := by rw [size_mk]; exact hp
      have hnx : ∀ ty, (Instr.next (.pointer (some ⟨w2.heap.size, 0, none⟩)) true ty).run Tryz.prog (w2.iter ⟨C.toArray⟩ pos) = _ := fun ty => run_next_end w2 ⟨C.toArray⟩ pos ty hps
      have hmN : m = N := by
        have := HC.out
        rw [List.drop_eq_nil_of_le (by omega)] at this
        exact this
      subst hmN
      have HT3 := Lib.hid (show PEnv (w2.iter ⟨C.toArray⟩ pos) from HT2.out.alloc _)
      have HB3 := Lib.hid (show Below w.heap.size w (w2.iter ⟨C.toArray⟩ pos) from HB2.out.alloc HB2.out.size _)
      go_wp2_with (first
        | (go_at_call 64; ((with_reducible refine (HHP.out _).mono ?_); rintro e w' ⟨rfl, rfl⟩))
        | (go_at_call 48; ((with_reducible refine (HIT.out _ HT3.out).mono ?_); rintro e w5 ⟨rfl, hb5⟩; have HB5 := Lib.hid (HB3.out.trans (hb5.mono HB3.out.size)); have HT5 := Lib.hid (HT3.out.below hb5 (Nat.le_refl _)); clear hb5))
        | (go_at_call 65; ((with_reducible refine (HPF.out _ HT5.out).mono ?_); rintro e w6 ⟨er, rfl, hb6⟩; have HB6 := Lib.hid (HB5.out.trans (hb6.mono HB5.out.size)); clear hb6)))
      go_ret
      exact ⟨rfl, HB6.out⟩

set_option maxRecDepth 100000 in
set_option maxHeartbeats 2000000 in
theorem fdec_n11 (S0 S1 _AM _EX WH PT X1 D X2 X3 IT PF : ByteArray) (C : List UInt8) (k at_ : Int) (_kn N R : Nat) (bb : Bool) (hR : R < 2 ^ 63)
    (hN : capN 0 C = N)
    (HCP : Hid (∀ w, Calls Tryz.prog 61 #[.string S0, .string ⟨#[126]⟩] w fun e w' => e = .returned (.tuple #[.string S1, .bool true]) ∧ w = w'))
    (HIA : Hid (∀ w, Calls Tryz.prog 62 #[.string S1, .string ⟨#[101, 69]⟩] w fun e w' => e = .returned (.int .i64 k) ∧ Below w.heap.size w w'))
    (qk : k = -1)
    (HCU : Hid (∀ w, PEnv w → Calls Tryz.prog 19 #[.string S1, .string ⟨#[46]⟩] w fun e w' => e = .returned (.tuple #[.string WH, .string PT, .bool bb]) ∧ Below w.heap.size w w'))
    (k1 : ∀ w, (Op.stringOp .add WH PT).run Tryz.prog w = .ok (.string X1) w)
    (HTL : Hid (∀ w, Calls Tryz.prog 63 #[.string X1, .string ⟨#[48]⟩] w fun e w' => e = .returned (.string D) ∧ w = w'))
    (HTP : Hid (∀ w, Calls Tryz.prog 59 #[.string ⟨#[]⟩, .string ⟨#[126]⟩] w fun e w' => e = .returned (.string ⟨C.toArray⟩) ∧ w = w')) (hC : Digs C) (hCl : C.length ≤ 4096)
    (HHP : Hid (∀ w, Calls Tryz.prog 64 #[.string ⟨#[]⟩, .string ⟨#[126]⟩] w fun e w' => e = .returned (.bool false) ∧ w = w'))
    (qD : D.toList.isEmpty = false) (lD : D.size ≤ 9000) (lP : PT.size ≤ 9000) (hat : min (max ((D.size : Int) - (PT.size : Int) + ((N : Int))) (-1000)) 1000 = at_) (k2 : ∀ w, (Op.stringOp .add ⟨#[48, 46]⟩ D).run Tryz.prog w = .ok (.string X2) w) (k3 : ∀ w, (Op.stringOp .add X2 ⟨#[101]⟩).run Tryz.prog w = .ok (.string X3) w) (k4 : ∀ w, (Op.stringOp .add X3 IT).run Tryz.prog w = .ok (.string PF) w)
    (HIT : Hid (∀ w, PEnv w → Calls Tryz.prog 48 #[.int .i64 at_] w fun e w' => e = .returned (.string IT) ∧ Below w.heap.size w w'))
    (HPF : Hid (∀ w, PEnv w → Calls Tryz.prog 65 #[.string PF, .int .i64 64] w fun e w' => ∃ er, e = .returned (.tuple #[.float .f64 R, er]) ∧ Below w.heap.size w w')) (w : World) (ht : PEnv w) :
    Calls Tryz.prog 30 #[.string S0] w fun e w' => e = .returned (.float .f64 (turnN R)) ∧ Below w.heap.size w w' := by
  have HT := Lib.hid ht
  have HCL := Lib.hid hCl
  have HCD := Lib.hid hC
  have HN := Lib.hid hN
  have hng := fun w => neg_float (P := Tryz.prog) R hR w
  generalize turnN R = RN at *
  clear ht hC hN
  subst qk
  go_enter Tryz.func30, Tryz.ntmps30
  go_wp2_with (first
    | (go_at_call 61; ((with_reducible refine (HCP.out _).mono ?_); rintro e w' ⟨rfl, rfl⟩))
    | (go_at_call 62; ((with_reducible refine (HIA.out _).mono ?_); rintro e w1 ⟨rfl, hb1⟩; have HB1 := Lib.hid hb1; have HT1 := Lib.hid (HT.out.below hb1 (Nat.le_refl _)); clear hb1))
    | (go_at_call 19; ((refine (HCU.out _ HT1.out).mono ?_); rintro e w2 ⟨rfl, hb2⟩; have HB2 := Lib.hid (HB1.out.trans (hb2.mono HB1.out.size)); have HT2 := Lib.hid (HT1.out.below hb2 (Nat.le_refl _)); clear hb2))
    | (go_at_call 63; ((with_reducible refine (HTL.out _).mono ?_); rintro e w' ⟨rfl, rfl⟩))
    | (go_at_call 59; ((with_reducible refine (HTP.out _).mono ?_); rintro e w' ⟨rfl, rfl⟩)))
  go_loopw [11] (fun n wr => ∃ pos m : Nat, pos ≤ C.length ∧ wr = w2.iter ⟨C.toArray⟩ pos ∧ n = .int .i64 (m : Int) ∧ m ≤ 1099511627776 ∧ capN m (C.drop pos) = N) (fun _ wr => C.length - wr.iterPos w2.heap.size)
  case atStart => exact ⟨0, 0, Nat.zero_le _, rfl, rfl, by omega, HN.out⟩
  case round =>
    obtain ⟨pos, m, hp0, rfl, rfl, hm, hc⟩ := hrel
    have HC := Lib.hid hc
    clear hc
    by_cases hp : pos < C.length
    · obtain ⟨c, hcc⟩ : ∃ c, C[pos]? = some c := ⟨C[pos], List.getElem?_eq_getElem hp⟩
      have hps : pos < (ByteArray.mk C.toArray).size := by rw [size_mk]; exact hp
      have hg : (ByteArray.mk C.toArray)[pos]'hps = c := str_get hcc hps
      obtain ⟨c1, c2⟩ := HCD.out c (List.mem_of_getElem? hcc)
      have hnx : ∀ ty, (Instr.next (.pointer (some ⟨w2.heap.size, 0, none⟩)) true ty).run Tryz.prog (w2.iter ⟨C.toArray⟩ pos) = _ := fun ty => run_next_ascii w2 ⟨C.toArray⟩ pos ty hps (by rw [hg]; omega)
      rw [hg] at hnx
      have HST := Lib.hid (show capN (min (10 * m + (c.toNat - 48)) 1099511627776) (C.drop (pos + 1)) = N by
        rw [← HC.out, ← capN_step hcc])
      clear hg hcc
      go_wp2_with fail
      go_roundw
      case rel => exact ⟨pos + 1, min (10 * m + (c.toNat - 48)) 1099511627776, by omega, rfl, by go_num, by omega, HST.out⟩
      case measure => simp; omega
    · have hps : ¬ pos < (ByteArray.mk C.toArray).size := by rw [size_mk]; exact hp
      have hnx : ∀ ty, (Instr.next (.pointer (some ⟨w2.heap.size, 0, none⟩)) true ty).run Tryz.prog (w2.iter ⟨C.toArray⟩ pos) = _ := fun ty => run_next_end w2 ⟨C.toArray⟩ pos ty hps
      have hmN : m = N := by
        have := HC.out
        rw [List.drop_eq_nil_of_le (by omega)] at this
        exact this
      subst hmN
      have HT3 := Lib.hid (show PEnv (w2.iter ⟨C.toArray⟩ pos) from HT2.out.alloc _)
      have HB3 := Lib.hid (show Below w.heap.size w (w2.iter ⟨C.toArray⟩ pos) from HB2.out.alloc HB2.out.size _)
      go_wp2_with (first
        | (go_at_call 64; ((with_reducible refine (HHP.out _).mono ?_); rintro e w' ⟨rfl, rfl⟩))
        | (go_at_call 48; ((with_reducible refine (HIT.out _ HT3.out).mono ?_); rintro e w5 ⟨rfl, hb5⟩; have HB5 := Lib.hid (HB3.out.trans (hb5.mono HB3.out.size)); have HT5 := Lib.hid (HT3.out.below hb5 (Nat.le_refl _)); clear hb5))
        | (go_at_call 65; ((with_reducible refine (HPF.out _ HT5.out).mono ?_); rintro e w6 ⟨er, rfl, hb6⟩; have HB6 := Lib.hid (HB5.out.trans (hb6.mono HB5.out.size)); clear hb6)))
      go_ret
      exact ⟨rfl, HB6.out⟩

set_option maxRecDepth 100000 in
set_option maxHeartbeats 2000000 in
theorem fdec_p00 (S0 S1 AM EX WH PT X1 D _X2 _X3 _IT _PF : ByteArray) (C : List UInt8) (k _at_ : Int) (kn N R : Nat) (bb : Bool) (_hR : R < 2 ^ 63)
    (hN : capN 0 C = N)
    (HCP : Hid (∀ w, Calls Tryz.prog 61 #[.string S0, .string ⟨#[126]⟩] w fun e w' => e = .returned (.tuple #[.string S1, .bool false]) ∧ w = w'))
    (HIA : Hid (∀ w, Calls Tryz.prog 62 #[.string S1, .string ⟨#[101, 69]⟩] w fun e w' => e = .returned (.int .i64 k) ∧ Below w.heap.size w w'))
    (qk : k = (kn : Int)) (rk : kn ≤ 5000) (rk2 : (kn : Int) ≤ (S1.size : Int)) (rk3 : (kn : Int) + 1 ≤ (S1.size : Int)) (xa : S1.extract 0 kn = AM) (xe : S1.extract (kn + 1) S1.size = EX)
    (HCU : Hid (∀ w, PEnv w → Calls Tryz.prog 19 #[.string AM, .string ⟨#[46]⟩] w fun e w' => e = .returned (.tuple #[.string WH, .string PT, .bool bb]) ∧ Below w.heap.size w w'))
    (k1 : ∀ w, (Op.stringOp .add WH PT).run Tryz.prog w = .ok (.string X1) w)
    (HTL : Hid (∀ w, Calls Tryz.prog 63 #[.string X1, .string ⟨#[48]⟩] w fun e w' => e = .returned (.string D) ∧ w = w'))
    (HTP : Hid (∀ w, Calls Tryz.prog 59 #[.string EX, .string ⟨#[126]⟩] w fun e w' => e = .returned (.string ⟨C.toArray⟩) ∧ w = w')) (hC : Digs C) (hCl : C.length ≤ 4096)
    (HHP : Hid (∀ w, Calls Tryz.prog 64 #[.string EX, .string ⟨#[126]⟩] w fun e w' => e = .returned (.bool false) ∧ w = w'))
    (qD : D.toList.isEmpty = true) (w : World) (ht : PEnv w) :
    Calls Tryz.prog 30 #[.string S0] w fun e w' => e = .returned (.float .f64 0) ∧ Below w.heap.size w w' := by
  have HT := Lib.hid ht
  have HCL := Lib.hid hCl
  have HCD := Lib.hid hC
  have HN := Lib.hid hN
  clear ht hC hN
  subst qk
  go_enter Tryz.func30, Tryz.ntmps30
  go_wp2_with (first
    | (go_at_call 61; ((with_reducible refine (HCP.out _).mono ?_); rintro e w' ⟨rfl, rfl⟩))
    | (go_at_call 62; ((with_reducible refine (HIA.out _).mono ?_); rintro e w1 ⟨rfl, hb1⟩; have HB1 := Lib.hid hb1; have HT1 := Lib.hid (HT.out.below hb1 (Nat.le_refl _)); clear hb1))
    | (go_at_call 19; ((refine (HCU.out _ (show PEnv w1.drew from HT1.out.drewN 1)).mono ?_); rintro e w2 ⟨rfl, hb2⟩; have hb2' : Below w1.heap.size w1 w2 := (Below.refl w1.heap.size w1).drew.trans hb2; have HB2 := Lib.hid (HB1.out.trans (hb2'.mono HB1.out.size)); have HT2 := Lib.hid (HT1.out.below hb2' (Nat.le_refl _)); clear hb2 hb2'))
    | (go_at_call 63; ((with_reducible refine (HTL.out _).mono ?_); rintro e w' ⟨rfl, rfl⟩))
    | (go_at_call 59; ((with_reducible refine (HTP.out _).mono ?_); rintro e w' ⟨rfl, rfl⟩)))
  go_region
  go_wp2_with fail
  refine (HCU.out _ (show PEnv w1.drew from HT1.out.drewN 1)).mono ?_
  rintro e w2 ⟨rfl, hb2⟩
  have hb2' : Below w1.heap.size w1 w2 := (Below.refl w1.heap.size w1).drew.trans hb2
  have HB2 := Lib.hid (HB1.out.trans (hb2'.mono HB1.out.size))
  have HT2 := Lib.hid (HT1.out.below hb2' (Nat.le_refl _))
  clear hb2 hb2'
  go_wp2_with (first
    | (go_at_call 61; ((with_reducible refine (HCP.out _).mono ?_); rintro e w' ⟨rfl, rfl⟩))
    | (go_at_call 62; ((with_reducible refine (HIA.out _).mono ?_); rintro e w1 ⟨rfl, hb1⟩; have HB1 := Lib.hid hb1; have HT1 := Lib.hid (HT.out.below hb1 (Nat.le_refl _)); clear hb1))
    | (go_at_call 19; ((refine (HCU.out _ (show PEnv w1.drew from HT1.out.drewN 1)).mono ?_); rintro e w2 ⟨rfl, hb2⟩; have hb2' : Below w1.heap.size w1 w2 := (Below.refl w1.heap.size w1).drew.trans hb2; have HB2 := Lib.hid (HB1.out.trans (hb2'.mono HB1.out.size)); have HT2 := Lib.hid (HT1.out.below hb2' (Nat.le_refl _)); clear hb2 hb2'))
    | (go_at_call 63; ((with_reducible refine (HTL.out _).mono ?_); rintro e w' ⟨rfl, rfl⟩))
    | (go_at_call 59; ((with_reducible refine (HTP.out _).mono ?_); rintro e w' ⟨rfl, rfl⟩)))
  go_loopw [11] (fun n wr => ∃ pos m : Nat, pos ≤ C.length ∧ wr = w2.iter ⟨C.toArray⟩ pos ∧ n = .int .i64 (m : Int) ∧ m ≤ 1099511627776 ∧ capN m (C.drop pos) = N) (fun _ wr => C.length - wr.iterPos w2.heap.size)
  case atStart => exact ⟨0, 0, Nat.zero_le _, rfl, rfl, by omega, HN.out⟩
  case round =>
    obtain ⟨pos, m, hp0, rfl, rfl, hm, hc⟩ := hrel
    have HC := Lib.hid hc
    clear hc
    by_cases hp : pos < C.length
    · obtain ⟨c, hcc⟩ : ∃ c, C[pos]? = some c := ⟨C[pos], List.getElem?_eq_getElem hp⟩
      have hps : pos < (ByteArray.mk C.toArray).size := by rw [size_mk]; exact hp
      have hg : (ByteArray.mk C.toArray)[pos]'hps = c := str_get hcc hps
      obtain ⟨c1, c2⟩ := HCD.out c (List.mem_of_getElem? hcc)
      have hnx : ∀ ty, (Instr.next (.pointer (some ⟨w2.heap.size, 0, none⟩)) true ty).run Tryz.prog (w2.iter ⟨C.toArray⟩ pos) = _ := fun ty => run_next_ascii w2 ⟨C.toArray⟩ pos ty hps (by rw [hg]; omega)
      rw [hg] at hnx
      have HST := Lib.hid (show capN (min (10 * m + (c.toNat - 48)) 1099511627776) (C.drop (pos + 1)) = N by
        rw [← HC.out, ← capN_step hcc])
      clear hg hcc
      go_wp2_with fail
      go_roundw
      case rel => exact ⟨pos + 1, min (10 * m + (c.toNat - 48)) 1099511627776, by omega, rfl, by go_num, by omega, HST.out⟩
      case measure => simp; omega
    · have hps : ¬ pos < (ByteArray.mk C.toArray).size := by rw [size_mk]; exact hp
      have hnx : ∀ ty, (Instr.next (.pointer (some ⟨w2.heap.size, 0, none⟩)) true ty).run Tryz.prog (w2.iter ⟨C.toArray⟩ pos) = _ := fun ty => run_next_end w2 ⟨C.toArray⟩ pos ty hps
      have hmN : m = N := by
        have := HC.out
        rw [List.drop_eq_nil_of_le (by omega)] at this
        exact this
      subst hmN
      have HT3 := Lib.hid (show PEnv (w2.iter ⟨C.toArray⟩ pos) from HT2.out.alloc _)
      have HB3 := Lib.hid (show Below w.heap.size w (w2.iter ⟨C.toArray⟩ pos) from HB2.out.alloc HB2.out.size _)
      go_wp2_with (first
        | (go_at_call 64; ((with_reducible refine (HHP.out _).mono ?_); rintro e w' ⟨rfl, rfl⟩)))
      go_ret
      exact ⟨rfl, HB3.out⟩

set_option maxRecDepth 100000 in
set_option maxHeartbeats 2000000 in
theorem fdec_p01 (S0 S1 AM EX WH PT X1 D _X2 _X3 _IT _PF : ByteArray) (C : List UInt8) (k _at_ : Int) (kn N R : Nat) (bb : Bool) (_hR : R < 2 ^ 63)
    (hN : capN 0 C = N)
    (HCP : Hid (∀ w, Calls Tryz.prog 61 #[.string S0, .string ⟨#[126]⟩] w fun e w' => e = .returned (.tuple #[.string S1, .bool true]) ∧ w = w'))
    (HIA : Hid (∀ w, Calls Tryz.prog 62 #[.string S1, .string ⟨#[101, 69]⟩] w fun e w' => e = .returned (.int .i64 k) ∧ Below w.heap.size w w'))
    (qk : k = (kn : Int)) (rk : kn ≤ 5000) (rk2 : (kn : Int) ≤ (S1.size : Int)) (rk3 : (kn : Int) + 1 ≤ (S1.size : Int)) (xa : S1.extract 0 kn = AM) (xe : S1.extract (kn + 1) S1.size = EX)
    (HCU : Hid (∀ w, PEnv w → Calls Tryz.prog 19 #[.string AM, .string ⟨#[46]⟩] w fun e w' => e = .returned (.tuple #[.string WH, .string PT, .bool bb]) ∧ Below w.heap.size w w'))
    (k1 : ∀ w, (Op.stringOp .add WH PT).run Tryz.prog w = .ok (.string X1) w)
    (HTL : Hid (∀ w, Calls Tryz.prog 63 #[.string X1, .string ⟨#[48]⟩] w fun e w' => e = .returned (.string D) ∧ w = w'))
    (HTP : Hid (∀ w, Calls Tryz.prog 59 #[.string EX, .string ⟨#[126]⟩] w fun e w' => e = .returned (.string ⟨C.toArray⟩) ∧ w = w')) (hC : Digs C) (hCl : C.length ≤ 4096)
    (HHP : Hid (∀ w, Calls Tryz.prog 64 #[.string EX, .string ⟨#[126]⟩] w fun e w' => e = .returned (.bool false) ∧ w = w'))
    (qD : D.toList.isEmpty = true) (w : World) (ht : PEnv w) :
    Calls Tryz.prog 30 #[.string S0] w fun e w' => e = .returned (.float .f64 (turnN 0)) ∧ Below w.heap.size w w' := by
  have HT := Lib.hid ht
  have HCL := Lib.hid hCl
  have HCD := Lib.hid hC
  have HN := Lib.hid hN
  have hng := fun w => neg_float (P := Tryz.prog) 0 (by decide) w
  generalize turnN 0 = RN at *
  clear ht hC hN
  subst qk
  go_enter Tryz.func30, Tryz.ntmps30
  go_wp2_with (first
    | (go_at_call 61; ((with_reducible refine (HCP.out _).mono ?_); rintro e w' ⟨rfl, rfl⟩))
    | (go_at_call 62; ((with_reducible refine (HIA.out _).mono ?_); rintro e w1 ⟨rfl, hb1⟩; have HB1 := Lib.hid hb1; have HT1 := Lib.hid (HT.out.below hb1 (Nat.le_refl _)); clear hb1))
    | (go_at_call 19; ((refine (HCU.out _ (show PEnv w1.drew from HT1.out.drewN 1)).mono ?_); rintro e w2 ⟨rfl, hb2⟩; have hb2' : Below w1.heap.size w1 w2 := (Below.refl w1.heap.size w1).drew.trans hb2; have HB2 := Lib.hid (HB1.out.trans (hb2'.mono HB1.out.size)); have HT2 := Lib.hid (HT1.out.below hb2' (Nat.le_refl _)); clear hb2 hb2'))
    | (go_at_call 63; ((with_reducible refine (HTL.out _).mono ?_); rintro e w' ⟨rfl, rfl⟩))
    | (go_at_call 59; ((with_reducible refine (HTP.out _).mono ?_); rintro e w' ⟨rfl, rfl⟩)))
  go_region
  go_wp2_with fail
  refine (HCU.out _ (show PEnv w1.drew from HT1.out.drewN 1)).mono ?_
  rintro e w2 ⟨rfl, hb2⟩
  have hb2' : Below w1.heap.size w1 w2 := (Below.refl w1.heap.size w1).drew.trans hb2
  have HB2 := Lib.hid (HB1.out.trans (hb2'.mono HB1.out.size))
  have HT2 := Lib.hid (HT1.out.below hb2' (Nat.le_refl _))
  clear hb2 hb2'
  go_wp2_with (first
    | (go_at_call 61; ((with_reducible refine (HCP.out _).mono ?_); rintro e w' ⟨rfl, rfl⟩))
    | (go_at_call 62; ((with_reducible refine (HIA.out _).mono ?_); rintro e w1 ⟨rfl, hb1⟩; have HB1 := Lib.hid hb1; have HT1 := Lib.hid (HT.out.below hb1 (Nat.le_refl _)); clear hb1))
    | (go_at_call 19; ((refine (HCU.out _ (show PEnv w1.drew from HT1.out.drewN 1)).mono ?_); rintro e w2 ⟨rfl, hb2⟩; have hb2' : Below w1.heap.size w1 w2 := (Below.refl w1.heap.size w1).drew.trans hb2; have HB2 := Lib.hid (HB1.out.trans (hb2'.mono HB1.out.size)); have HT2 := Lib.hid (HT1.out.below hb2' (Nat.le_refl _)); clear hb2 hb2'))
    | (go_at_call 63; ((with_reducible refine (HTL.out _).mono ?_); rintro e w' ⟨rfl, rfl⟩))
    | (go_at_call 59; ((with_reducible refine (HTP.out _).mono ?_); rintro e w' ⟨rfl, rfl⟩)))
  go_loopw [11] (fun n wr => ∃ pos m : Nat, pos ≤ C.length ∧ wr = w2.iter ⟨C.toArray⟩ pos ∧ n = .int .i64 (m : Int) ∧ m ≤ 1099511627776 ∧ capN m (C.drop pos) = N) (fun _ wr => C.length - wr.iterPos w2.heap.size)
  case atStart => exact ⟨0, 0, Nat.zero_le _, rfl, rfl, by omega, HN.out⟩
  case round =>
    obtain ⟨pos, m, hp0, rfl, rfl, hm, hc⟩ := hrel
    have HC := Lib.hid hc
    clear hc
    by_cases hp : pos < C.length
    · obtain ⟨c, hcc⟩ : ∃ c, C[pos]? = some c := ⟨C[pos], List.getElem?_eq_getElem hp⟩
      have hps : pos < (ByteArray.mk C.toArray).size := by rw [size_mk]; exact hp
      have hg : (ByteArray.mk C.toArray)[pos]'hps = c := str_get hcc hps
      obtain ⟨c1, c2⟩ := HCD.out c (List.mem_of_getElem? hcc)
      have hnx : ∀ ty, (Instr.next (.pointer (some ⟨w2.heap.size, 0, none⟩)) true ty).run Tryz.prog (w2.iter ⟨C.toArray⟩ pos) = _ := fun ty => run_next_ascii w2 ⟨C.toArray⟩ pos ty hps (by rw [hg]; omega)
      rw [hg] at hnx
      have HST := Lib.hid (show capN (min (10 * m + (c.toNat - 48)) 1099511627776) (C.drop (pos + 1)) = N by
        rw [← HC.out, ← capN_step hcc])
      clear hg hcc
      go_wp2_with fail
      go_roundw
      case rel => exact ⟨pos + 1, min (10 * m + (c.toNat - 48)) 1099511627776, by omega, rfl, by go_num, by omega, HST.out⟩
      case measure => simp; omega
    · have hps : ¬ pos < (ByteArray.mk C.toArray).size := by rw [size_mk]; exact hp
      have hnx : ∀ ty, (Instr.next (.pointer (some ⟨w2.heap.size, 0, none⟩)) true ty).run Tryz.prog (w2.iter ⟨C.toArray⟩ pos) = _ := fun ty => run_next_end w2 ⟨C.toArray⟩ pos ty hps
      have hmN : m = N := by
        have := HC.out
        rw [List.drop_eq_nil_of_le (by omega)] at this
        exact this
      subst hmN
      have HT3 := Lib.hid (show PEnv (w2.iter ⟨C.toArray⟩ pos) from HT2.out.alloc _)
      have HB3 := Lib.hid (show Below w.heap.size w (w2.iter ⟨C.toArray⟩ pos) from HB2.out.alloc HB2.out.size _)
      go_wp2_with (first
        | (go_at_call 64; ((with_reducible refine (HHP.out _).mono ?_); rintro e w' ⟨rfl, rfl⟩)))
      go_ret
      exact ⟨rfl, HB3.out⟩

set_option maxRecDepth 100000 in
set_option maxHeartbeats 2000000 in
theorem fdec_p10 (S0 S1 AM EX WH PT X1 D X2 X3 IT PF : ByteArray) (C : List UInt8) (k at_ : Int) (kn N R : Nat) (bb : Bool) (_hR : R < 2 ^ 63)
    (hN : capN 0 C = N)
    (HCP : Hid (∀ w, Calls Tryz.prog 61 #[.string S0, .string ⟨#[126]⟩] w fun e w' => e = .returned (.tuple #[.string S1, .bool false]) ∧ w = w'))
    (HIA : Hid (∀ w, Calls Tryz.prog 62 #[.string S1, .string ⟨#[101, 69]⟩] w fun e w' => e = .returned (.int .i64 k) ∧ Below w.heap.size w w'))
    (qk : k = (kn : Int)) (rk : kn ≤ 5000) (rk2 : (kn : Int) ≤ (S1.size : Int)) (rk3 : (kn : Int) + 1 ≤ (S1.size : Int)) (xa : S1.extract 0 kn = AM) (xe : S1.extract (kn + 1) S1.size = EX)
    (HCU : Hid (∀ w, PEnv w → Calls Tryz.prog 19 #[.string AM, .string ⟨#[46]⟩] w fun e w' => e = .returned (.tuple #[.string WH, .string PT, .bool bb]) ∧ Below w.heap.size w w'))
    (k1 : ∀ w, (Op.stringOp .add WH PT).run Tryz.prog w = .ok (.string X1) w)
    (HTL : Hid (∀ w, Calls Tryz.prog 63 #[.string X1, .string ⟨#[48]⟩] w fun e w' => e = .returned (.string D) ∧ w = w'))
    (HTP : Hid (∀ w, Calls Tryz.prog 59 #[.string EX, .string ⟨#[126]⟩] w fun e w' => e = .returned (.string ⟨C.toArray⟩) ∧ w = w')) (hC : Digs C) (hCl : C.length ≤ 4096)
    (HHP : Hid (∀ w, Calls Tryz.prog 64 #[.string EX, .string ⟨#[126]⟩] w fun e w' => e = .returned (.bool false) ∧ w = w'))
    (qD : D.toList.isEmpty = false) (lD : D.size ≤ 9000) (lP : PT.size ≤ 9000) (hat : min (max ((D.size : Int) - (PT.size : Int) + ((N : Int))) (-1000)) 1000 = at_) (k2 : ∀ w, (Op.stringOp .add ⟨#[48, 46]⟩ D).run Tryz.prog w = .ok (.string X2) w) (k3 : ∀ w, (Op.stringOp .add X2 ⟨#[101]⟩).run Tryz.prog w = .ok (.string X3) w) (k4 : ∀ w, (Op.stringOp .add X3 IT).run Tryz.prog w = .ok (.string PF) w)
    (HIT : Hid (∀ w, PEnv w → Calls Tryz.prog 48 #[.int .i64 at_] w fun e w' => e = .returned (.string IT) ∧ Below w.heap.size w w'))
    (HPF : Hid (∀ w, PEnv w → Calls Tryz.prog 65 #[.string PF, .int .i64 64] w fun e w' => ∃ er, e = .returned (.tuple #[.float .f64 R, er]) ∧ Below w.heap.size w w')) (w : World) (ht : PEnv w) :
    Calls Tryz.prog 30 #[.string S0] w fun e w' => e = .returned (.float .f64 R) ∧ Below w.heap.size w w' := by
  have HT := Lib.hid ht
  have HCL := Lib.hid hCl
  have HCD := Lib.hid hC
  have HN := Lib.hid hN
  clear ht hC hN
  subst qk
  go_enter Tryz.func30, Tryz.ntmps30
  go_wp2_with (first
    | (go_at_call 61; ((with_reducible refine (HCP.out _).mono ?_); rintro e w' ⟨rfl, rfl⟩))
    | (go_at_call 62; ((with_reducible refine (HIA.out _).mono ?_); rintro e w1 ⟨rfl, hb1⟩; have HB1 := Lib.hid hb1; have HT1 := Lib.hid (HT.out.below hb1 (Nat.le_refl _)); clear hb1))
    | (go_at_call 19; ((refine (HCU.out _ (show PEnv w1.drew from HT1.out.drewN 1)).mono ?_); rintro e w2 ⟨rfl, hb2⟩; have hb2' : Below w1.heap.size w1 w2 := (Below.refl w1.heap.size w1).drew.trans hb2; have HB2 := Lib.hid (HB1.out.trans (hb2'.mono HB1.out.size)); have HT2 := Lib.hid (HT1.out.below hb2' (Nat.le_refl _)); clear hb2 hb2'))
    | (go_at_call 63; ((with_reducible refine (HTL.out _).mono ?_); rintro e w' ⟨rfl, rfl⟩))
    | (go_at_call 59; ((with_reducible refine (HTP.out _).mono ?_); rintro e w' ⟨rfl, rfl⟩)))
  go_region
  go_wp2_with fail
  refine (HCU.out _ (show PEnv w1.drew from HT1.out.drewN 1)).mono ?_
  rintro e w2 ⟨rfl, hb2⟩
  have hb2' : Below w1.heap.size w1 w2 := (Below.refl w1.heap.size w1).drew.trans hb2
  have HB2 := Lib.hid (HB1.out.trans (hb2'.mono HB1.out.size))
  have HT2 := Lib.hid (HT1.out.below hb2' (Nat.le_refl _))
  clear hb2 hb2'
  go_wp2_with (first
    | (go_at_call 61; ((with_reducible refine (HCP.out _).mono ?_); rintro e w' ⟨rfl, rfl⟩))
    | (go_at_call 62; ((with_reducible refine (HIA.out _).mono ?_); rintro e w1 ⟨rfl, hb1⟩; have HB1 := Lib.hid hb1; have HT1 := Lib.hid (HT.out.below hb1 (Nat.le_refl _)); clear hb1))
    | (go_at_call 19; ((refine (HCU.out _ (show PEnv w1.drew from HT1.out.drewN 1)).mono ?_); rintro e w2 ⟨rfl, hb2⟩; have hb2' : Below w1.heap.size w1 w2 := (Below.refl w1.heap.size w1).drew.trans hb2; have HB2 := Lib.hid (HB1.out.trans (hb2'.mono HB1.out.size)); have HT2 := Lib.hid (HT1.out.below hb2' (Nat.le_refl _)); clear hb2 hb2'))
    | (go_at_call 63; ((with_reducible refine (HTL.out _).mono ?_); rintro e w' ⟨rfl, rfl⟩))
    | (go_at_call 59; ((with_reducible refine (HTP.out _).mono ?_); rintro e w' ⟨rfl, rfl⟩)))
  go_loopw [11] (fun n wr => ∃ pos m : Nat, pos ≤ C.length ∧ wr = w2.iter ⟨C.toArray⟩ pos ∧ n = .int .i64 (m : Int) ∧ m ≤ 1099511627776 ∧ capN m (C.drop pos) = N) (fun _ wr => C.length - wr.iterPos w2.heap.size)
  case atStart => exact ⟨0, 0, Nat.zero_le _, rfl, rfl, by omega, HN.out⟩
  case round =>
    obtain ⟨pos, m, hp0, rfl, rfl, hm, hc⟩ := hrel
    have HC := Lib.hid hc
    clear hc
    by_cases hp : pos < C.length
    · obtain ⟨c, hcc⟩ : ∃ c, C[pos]? = some c := ⟨C[pos], List.getElem?_eq_getElem hp⟩
      have hps : pos < (ByteArray.mk C.toArray).size := by rw [size_mk]; exact hp
      have hg : (ByteArray.mk C.toArray)[pos]'hps = c := str_get hcc hps
      obtain ⟨c1, c2⟩ := HCD.out c (List.mem_of_getElem? hcc)
      have hnx : ∀ ty, (Instr.next (.pointer (some ⟨w2.heap.size, 0, none⟩)) true ty).run Tryz.prog (w2.iter ⟨C.toArray⟩ pos) = _ := fun ty => run_next_ascii w2 ⟨C.toArray⟩ pos ty hps (by rw [hg]; omega)
      rw [hg] at hnx
      have HST := Lib.hid (show capN (min (10 * m + (c.toNat - 48)) 1099511627776) (C.drop (pos + 1)) = N by
        rw [← HC.out, ← capN_step hcc])
      clear hg hcc
      go_wp2_with fail
      go_roundw
      case rel => exact ⟨pos + 1, min (10 * m + (c.toNat - 48)) 1099511627776, by omega, rfl, by go_num, by omega, HST.out⟩
      case measure => simp; omega
    · have hps : ¬ pos < (ByteArray.mk C.toArray).size := by rw [size_mk]; exact hp
      have hnx : ∀ ty, (Instr.next (.pointer (some ⟨w2.heap.size, 0, none⟩)) true ty).run Tryz.prog (w2.iter ⟨C.toArray⟩ pos) = _ := fun ty => run_next_end w2 ⟨C.toArray⟩ pos ty hps
      have hmN : m = N := by
        have := HC.out
        rw [List.drop_eq_nil_of_le (by omega)] at this
        exact this
      subst hmN
      have HT3 := Lib.hid (show PEnv (w2.iter ⟨C.toArray⟩ pos) from HT2.out.alloc _)
      have HB3 := Lib.hid (show Below w.heap.size w (w2.iter ⟨C.toArray⟩ pos) from HB2.out.alloc HB2.out.size _)
      go_wp2_with (first
        | (go_at_call 64; ((with_reducible refine (HHP.out _).mono ?_); rintro e w' ⟨rfl, rfl⟩))
        | (go_at_call 48; ((with_reducible refine (HIT.out _ HT3.out).mono ?_); rintro e w5 ⟨rfl, hb5⟩; have HB5 := Lib.hid (HB3.out.trans (hb5.mono HB3.out.size)); have HT5 := Lib.hid (HT3.out.below hb5 (Nat.le_refl _)); clear hb5))
        | (go_at_call 65; ((with_reducible refine (HPF.out _ HT5.out).mono ?_); rintro e w6 ⟨er, rfl, hb6⟩; have HB6 := Lib.hid (HB5.out.trans (hb6.mono HB5.out.size)); clear hb6)))
      go_ret
      exact ⟨rfl, HB6.out⟩

set_option maxRecDepth 100000 in
set_option maxHeartbeats 2000000 in
theorem fdec_p11 (S0 S1 AM EX WH PT X1 D X2 X3 IT PF : ByteArray) (C : List UInt8) (k at_ : Int) (kn N R : Nat) (bb : Bool) (hR : R < 2 ^ 63)
    (hN : capN 0 C = N)
    (HCP : Hid (∀ w, Calls Tryz.prog 61 #[.string S0, .string ⟨#[126]⟩] w fun e w' => e = .returned (.tuple #[.string S1, .bool true]) ∧ w = w'))
    (HIA : Hid (∀ w, Calls Tryz.prog 62 #[.string S1, .string ⟨#[101, 69]⟩] w fun e w' => e = .returned (.int .i64 k) ∧ Below w.heap.size w w'))
    (qk : k = (kn : Int)) (rk : kn ≤ 5000) (rk2 : (kn : Int) ≤ (S1.size : Int)) (rk3 : (kn : Int) + 1 ≤ (S1.size : Int)) (xa : S1.extract 0 kn = AM) (xe : S1.extract (kn + 1) S1.size = EX)
    (HCU : Hid (∀ w, PEnv w → Calls Tryz.prog 19 #[.string AM, .string ⟨#[46]⟩] w fun e w' => e = .returned (.tuple #[.string WH, .string PT, .bool bb]) ∧ Below w.heap.size w w'))
    (k1 : ∀ w, (Op.stringOp .add WH PT).run Tryz.prog w = .ok (.string X1) w)
    (HTL : Hid (∀ w, Calls Tryz.prog 63 #[.string X1, .string ⟨#[48]⟩] w fun e w' => e = .returned (.string D) ∧ w = w'))
    (HTP : Hid (∀ w, Calls Tryz.prog 59 #[.string EX, .string ⟨#[126]⟩] w fun e w' => e = .returned (.string ⟨C.toArray⟩) ∧ w = w')) (hC : Digs C) (hCl : C.length ≤ 4096)
    (HHP : Hid (∀ w, Calls Tryz.prog 64 #[.string EX, .string ⟨#[126]⟩] w fun e w' => e = .returned (.bool false) ∧ w = w'))
    (qD : D.toList.isEmpty = false) (lD : D.size ≤ 9000) (lP : PT.size ≤ 9000) (hat : min (max ((D.size : Int) - (PT.size : Int) + ((N : Int))) (-1000)) 1000 = at_) (k2 : ∀ w, (Op.stringOp .add ⟨#[48, 46]⟩ D).run Tryz.prog w = .ok (.string X2) w) (k3 : ∀ w, (Op.stringOp .add X2 ⟨#[101]⟩).run Tryz.prog w = .ok (.string X3) w) (k4 : ∀ w, (Op.stringOp .add X3 IT).run Tryz.prog w = .ok (.string PF) w)
    (HIT : Hid (∀ w, PEnv w → Calls Tryz.prog 48 #[.int .i64 at_] w fun e w' => e = .returned (.string IT) ∧ Below w.heap.size w w'))
    (HPF : Hid (∀ w, PEnv w → Calls Tryz.prog 65 #[.string PF, .int .i64 64] w fun e w' => ∃ er, e = .returned (.tuple #[.float .f64 R, er]) ∧ Below w.heap.size w w')) (w : World) (ht : PEnv w) :
    Calls Tryz.prog 30 #[.string S0] w fun e w' => e = .returned (.float .f64 (turnN R)) ∧ Below w.heap.size w w' := by
  have HT := Lib.hid ht
  have HCL := Lib.hid hCl
  have HCD := Lib.hid hC
  have HN := Lib.hid hN
  have hng := fun w => neg_float (P := Tryz.prog) R hR w
  generalize turnN R = RN at *
  clear ht hC hN
  subst qk
  go_enter Tryz.func30, Tryz.ntmps30
  go_wp2_with (first
    | (go_at_call 61; ((with_reducible refine (HCP.out _).mono ?_); rintro e w' ⟨rfl, rfl⟩))
    | (go_at_call 62; ((with_reducible refine (HIA.out _).mono ?_); rintro e w1 ⟨rfl, hb1⟩; have HB1 := Lib.hid hb1; have HT1 := Lib.hid (HT.out.below hb1 (Nat.le_refl _)); clear hb1))
    | (go_at_call 19; ((refine (HCU.out _ (show PEnv w1.drew from HT1.out.drewN 1)).mono ?_); rintro e w2 ⟨rfl, hb2⟩; have hb2' : Below w1.heap.size w1 w2 := (Below.refl w1.heap.size w1).drew.trans hb2; have HB2 := Lib.hid (HB1.out.trans (hb2'.mono HB1.out.size)); have HT2 := Lib.hid (HT1.out.below hb2' (Nat.le_refl _)); clear hb2 hb2'))
    | (go_at_call 63; ((with_reducible refine (HTL.out _).mono ?_); rintro e w' ⟨rfl, rfl⟩))
    | (go_at_call 59; ((with_reducible refine (HTP.out _).mono ?_); rintro e w' ⟨rfl, rfl⟩)))
  go_region
  go_wp2_with fail
  refine (HCU.out _ (show PEnv w1.drew from HT1.out.drewN 1)).mono ?_
  rintro e w2 ⟨rfl, hb2⟩
  have hb2' : Below w1.heap.size w1 w2 := (Below.refl w1.heap.size w1).drew.trans hb2
  have HB2 := Lib.hid (HB1.out.trans (hb2'.mono HB1.out.size))
  have HT2 := Lib.hid (HT1.out.below hb2' (Nat.le_refl _))
  clear hb2 hb2'
  go_wp2_with (first
    | (go_at_call 61; ((with_reducible refine (HCP.out _).mono ?_); rintro e w' ⟨rfl, rfl⟩))
    | (go_at_call 62; ((with_reducible refine (HIA.out _).mono ?_); rintro e w1 ⟨rfl, hb1⟩; have HB1 := Lib.hid hb1; have HT1 := Lib.hid (HT.out.below hb1 (Nat.le_refl _)); clear hb1))
    | (go_at_call 19; ((refine (HCU.out _ (show PEnv w1.drew from HT1.out.drewN 1)).mono ?_); rintro e w2 ⟨rfl, hb2⟩; have hb2' : Below w1.heap.size w1 w2 := (Below.refl w1.heap.size w1).drew.trans hb2; have HB2 := Lib.hid (HB1.out.trans (hb2'.mono HB1.out.size)); have HT2 := Lib.hid (HT1.out.below hb2' (Nat.le_refl _)); clear hb2 hb2'))
    | (go_at_call 63; ((with_reducible refine (HTL.out _).mono ?_); rintro e w' ⟨rfl, rfl⟩))
    | (go_at_call 59; ((with_reducible refine (HTP.out _).mono ?_); rintro e w' ⟨rfl, rfl⟩)))
  go_loopw [11] (fun n wr => ∃ pos m : Nat, pos ≤ C.length ∧ wr = w2.iter ⟨C.toArray⟩ pos ∧ n = .int .i64 (m : Int) ∧ m ≤ 1099511627776 ∧ capN m (C.drop pos) = N) (fun _ wr => C.length - wr.iterPos w2.heap.size)
  case atStart => exact ⟨0, 0, Nat.zero_le _, rfl, rfl, by omega, HN.out⟩
  case round =>
    obtain ⟨pos, m, hp0, rfl, rfl, hm, hc⟩ := hrel
    have HC := Lib.hid hc
    clear hc
    by_cases hp : pos < C.length
    · obtain ⟨c, hcc⟩ : ∃ c, C[pos]? = some c := ⟨C[pos], List.getElem?_eq_getElem hp⟩
      have hps : pos < (ByteArray.mk C.toArray).size := by rw [size_mk]; exact hp
      have hg : (ByteArray.mk C.toArray)[pos]'hps = c := str_get hcc hps
      obtain ⟨c1, c2⟩ := HCD.out c (List.mem_of_getElem? hcc)
      have hnx : ∀ ty, (Instr.next (.pointer (some ⟨w2.heap.size, 0, none⟩)) true ty).run Tryz.prog (w2.iter ⟨C.toArray⟩ pos) = _ := fun ty => run_next_ascii w2 ⟨C.toArray⟩ pos ty hps (by rw [hg]; omega)
      rw [hg] at hnx
      have HST := Lib.hid (show capN (min (10 * m + (c.toNat - 48)) 1099511627776) (C.drop (pos + 1)) = N by
        rw [← HC.out, ← capN_step hcc])
      clear hg hcc
      go_wp2_with fail
      go_roundw
      case rel => exact ⟨pos + 1, min (10 * m + (c.toNat - 48)) 1099511627776, by omega, rfl, by go_num, by omega, HST.out⟩
      case measure => simp; omega
    · have hps : ¬ pos < (ByteArray.mk C.toArray).size := by rw [size_mk]; exact hp
      have hnx : ∀ ty, (Instr.next (.pointer (some ⟨w2.heap.size, 0, none⟩)) true ty).run Tryz.prog (w2.iter ⟨C.toArray⟩ pos) = _ := fun ty => run_next_end w2 ⟨C.toArray⟩ pos ty hps
      have hmN : m = N := by
        have := HC.out
        rw [List.drop_eq_nil_of_le (by omega)] at this
        exact this
      subst hmN
      have HT3 := Lib.hid (show PEnv (w2.iter ⟨C.toArray⟩ pos) from HT2.out.alloc _)
      have HB3 := Lib.hid (show Below w.heap.size w (w2.iter ⟨C.toArray⟩ pos) from HB2.out.alloc HB2.out.size _)
      go_wp2_with (first
        | (go_at_call 64; ((with_reducible refine (HHP.out _).mono ?_); rintro e w' ⟨rfl, rfl⟩))
        | (go_at_call 48; ((with_reducible refine (HIT.out _ HT3.out).mono ?_); rintro e w5 ⟨rfl, hb5⟩; have HB5 := Lib.hid (HB3.out.trans (hb5.mono HB3.out.size)); have HT5 := Lib.hid (HT3.out.below hb5 (Nat.le_refl _)); clear hb5))
        | (go_at_call 65; ((with_reducible refine (HPF.out _ HT5.out).mono ?_); rintro e w6 ⟨er, rfl, hb6⟩; have HB6 := Lib.hid (HB5.out.trans (hb6.mono HB5.out.size)); clear hb6)))
      go_ret
      exact ⟨rfl, HB6.out⟩

set_option maxRecDepth 100000 in
set_option maxHeartbeats 2000000 in
theorem fdec_m00 (S0 S1 AM EX WH PT X1 D _X2 _X3 _IT _PF : ByteArray) (C : List UInt8) (k _at_ : Int) (kn N R : Nat) (bb : Bool) (_hR : R < 2 ^ 63)
    (hN : capN 0 C = N)
    (HCP : Hid (∀ w, Calls Tryz.prog 61 #[.string S0, .string ⟨#[126]⟩] w fun e w' => e = .returned (.tuple #[.string S1, .bool false]) ∧ w = w'))
    (HIA : Hid (∀ w, Calls Tryz.prog 62 #[.string S1, .string ⟨#[101, 69]⟩] w fun e w' => e = .returned (.int .i64 k) ∧ Below w.heap.size w w'))
    (qk : k = (kn : Int)) (rk : kn ≤ 5000) (rk2 : (kn : Int) ≤ (S1.size : Int)) (rk3 : (kn : Int) + 1 ≤ (S1.size : Int)) (xa : S1.extract 0 kn = AM) (xe : S1.extract (kn + 1) S1.size = EX)
    (HCU : Hid (∀ w, PEnv w → Calls Tryz.prog 19 #[.string AM, .string ⟨#[46]⟩] w fun e w' => e = .returned (.tuple #[.string WH, .string PT, .bool bb]) ∧ Below w.heap.size w w'))
    (k1 : ∀ w, (Op.stringOp .add WH PT).run Tryz.prog w = .ok (.string X1) w)
    (HTL : Hid (∀ w, Calls Tryz.prog 63 #[.string X1, .string ⟨#[48]⟩] w fun e w' => e = .returned (.string D) ∧ w = w'))
    (HTP : Hid (∀ w, Calls Tryz.prog 59 #[.string EX, .string ⟨#[126]⟩] w fun e w' => e = .returned (.string ⟨C.toArray⟩) ∧ w = w')) (hC : Digs C) (hCl : C.length ≤ 4096)
    (HHP : Hid (∀ w, Calls Tryz.prog 64 #[.string EX, .string ⟨#[126]⟩] w fun e w' => e = .returned (.bool true) ∧ w = w'))
    (qD : D.toList.isEmpty = true) (w : World) (ht : PEnv w) :
    Calls Tryz.prog 30 #[.string S0] w fun e w' => e = .returned (.float .f64 0) ∧ Below w.heap.size w w' := by
  have HT := Lib.hid ht
  have HCL := Lib.hid hCl
  have HCD := Lib.hid hC
  have HN := Lib.hid hN
  clear ht hC hN
  subst qk
  go_enter Tryz.func30, Tryz.ntmps30
  go_wp2_with (first
    | (go_at_call 61; ((with_reducible refine (HCP.out _).mono ?_); rintro e w' ⟨rfl, rfl⟩))
    | (go_at_call 62; ((with_reducible refine (HIA.out _).mono ?_); rintro e w1 ⟨rfl, hb1⟩; have HB1 := Lib.hid hb1; have HT1 := Lib.hid (HT.out.below hb1 (Nat.le_refl _)); clear hb1))
    | (go_at_call 19; ((refine (HCU.out _ (show PEnv w1.drew from HT1.out.drewN 1)).mono ?_); rintro e w2 ⟨rfl, hb2⟩; have hb2' : Below w1.heap.size w1 w2 := (Below.refl w1.heap.size w1).drew.trans hb2; have HB2 := Lib.hid (HB1.out.trans (hb2'.mono HB1.out.size)); have HT2 := Lib.hid (HT1.out.below hb2' (Nat.le_refl _)); clear hb2 hb2'))
    | (go_at_call 63; ((with_reducible refine (HTL.out _).mono ?_); rintro e w' ⟨rfl, rfl⟩))
    | (go_at_call 59; ((with_reducible refine (HTP.out _).mono ?_); rintro e w' ⟨rfl, rfl⟩)))
  go_region
  go_wp2_with fail
  refine (HCU.out _ (show PEnv w1.drew from HT1.out.drewN 1)).mono ?_
  rintro e w2 ⟨rfl, hb2⟩
  have hb2' : Below w1.heap.size w1 w2 := (Below.refl w1.heap.size w1).drew.trans hb2
  have HB2 := Lib.hid (HB1.out.trans (hb2'.mono HB1.out.size))
  have HT2 := Lib.hid (HT1.out.below hb2' (Nat.le_refl _))
  clear hb2 hb2'
  go_wp2_with (first
    | (go_at_call 61; ((with_reducible refine (HCP.out _).mono ?_); rintro e w' ⟨rfl, rfl⟩))
    | (go_at_call 62; ((with_reducible refine (HIA.out _).mono ?_); rintro e w1 ⟨rfl, hb1⟩; have HB1 := Lib.hid hb1; have HT1 := Lib.hid (HT.out.below hb1 (Nat.le_refl _)); clear hb1))
    | (go_at_call 19; ((refine (HCU.out _ (show PEnv w1.drew from HT1.out.drewN 1)).mono ?_); rintro e w2 ⟨rfl, hb2⟩; have hb2' : Below w1.heap.size w1 w2 := (Below.refl w1.heap.size w1).drew.trans hb2; have HB2 := Lib.hid (HB1.out.trans (hb2'.mono HB1.out.size)); have HT2 := Lib.hid (HT1.out.below hb2' (Nat.le_refl _)); clear hb2 hb2'))
    | (go_at_call 63; ((with_reducible refine (HTL.out _).mono ?_); rintro e w' ⟨rfl, rfl⟩))
    | (go_at_call 59; ((with_reducible refine (HTP.out _).mono ?_); rintro e w' ⟨rfl, rfl⟩)))
  go_loopw [11] (fun n wr => ∃ pos m : Nat, pos ≤ C.length ∧ wr = w2.iter ⟨C.toArray⟩ pos ∧ n = .int .i64 (m : Int) ∧ m ≤ 1099511627776 ∧ capN m (C.drop pos) = N) (fun _ wr => C.length - wr.iterPos w2.heap.size)
  case atStart => exact ⟨0, 0, Nat.zero_le _, rfl, rfl, by omega, HN.out⟩
  case round =>
    obtain ⟨pos, m, hp0, rfl, rfl, hm, hc⟩ := hrel
    have HC := Lib.hid hc
    clear hc
    by_cases hp : pos < C.length
    · obtain ⟨c, hcc⟩ : ∃ c, C[pos]? = some c := ⟨C[pos], List.getElem?_eq_getElem hp⟩
      have hps : pos < (ByteArray.mk C.toArray).size := by rw [size_mk]; exact hp
      have hg : (ByteArray.mk C.toArray)[pos]'hps = c := str_get hcc hps
      obtain ⟨c1, c2⟩ := HCD.out c (List.mem_of_getElem? hcc)
      have hnx : ∀ ty, (Instr.next (.pointer (some ⟨w2.heap.size, 0, none⟩)) true ty).run Tryz.prog (w2.iter ⟨C.toArray⟩ pos) = _ := fun ty => run_next_ascii w2 ⟨C.toArray⟩ pos ty hps (by rw [hg]; omega)
      rw [hg] at hnx
      have HST := Lib.hid (show capN (min (10 * m + (c.toNat - 48)) 1099511627776) (C.drop (pos + 1)) = N by
        rw [← HC.out, ← capN_step hcc])
      clear hg hcc
      go_wp2_with fail
      go_roundw
      case rel => exact ⟨pos + 1, min (10 * m + (c.toNat - 48)) 1099511627776, by omega, rfl, by go_num, by omega, HST.out⟩
      case measure => simp; omega
    · have hps : ¬ pos < (ByteArray.mk C.toArray).size := by rw [size_mk]; exact hp
      have hnx : ∀ ty, (Instr.next (.pointer (some ⟨w2.heap.size, 0, none⟩)) true ty).run Tryz.prog (w2.iter ⟨C.toArray⟩ pos) = _ := fun ty => run_next_end w2 ⟨C.toArray⟩ pos ty hps
      have hmN : m = N := by
        have := HC.out
        rw [List.drop_eq_nil_of_le (by omega)] at this
        exact this
      subst hmN
      have HT3 := Lib.hid (show PEnv (w2.iter ⟨C.toArray⟩ pos) from HT2.out.alloc _)
      have HB3 := Lib.hid (show Below w.heap.size w (w2.iter ⟨C.toArray⟩ pos) from HB2.out.alloc HB2.out.size _)
      go_wp2_with (first
        | (go_at_call 64; ((with_reducible refine (HHP.out _).mono ?_); rintro e w' ⟨rfl, rfl⟩)))
      go_ret
      exact ⟨rfl, HB3.out⟩

set_option maxRecDepth 100000 in
set_option maxHeartbeats 2000000 in
theorem fdec_m01 (S0 S1 AM EX WH PT X1 D _X2 _X3 _IT _PF : ByteArray) (C : List UInt8) (k _at_ : Int) (kn N R : Nat) (bb : Bool) (_hR : R < 2 ^ 63)
    (hN : capN 0 C = N)
    (HCP : Hid (∀ w, Calls Tryz.prog 61 #[.string S0, .string ⟨#[126]⟩] w fun e w' => e = .returned (.tuple #[.string S1, .bool true]) ∧ w = w'))
    (HIA : Hid (∀ w, Calls Tryz.prog 62 #[.string S1, .string ⟨#[101, 69]⟩] w fun e w' => e = .returned (.int .i64 k) ∧ Below w.heap.size w w'))
    (qk : k = (kn : Int)) (rk : kn ≤ 5000) (rk2 : (kn : Int) ≤ (S1.size : Int)) (rk3 : (kn : Int) + 1 ≤ (S1.size : Int)) (xa : S1.extract 0 kn = AM) (xe : S1.extract (kn + 1) S1.size = EX)
    (HCU : Hid (∀ w, PEnv w → Calls Tryz.prog 19 #[.string AM, .string ⟨#[46]⟩] w fun e w' => e = .returned (.tuple #[.string WH, .string PT, .bool bb]) ∧ Below w.heap.size w w'))
    (k1 : ∀ w, (Op.stringOp .add WH PT).run Tryz.prog w = .ok (.string X1) w)
    (HTL : Hid (∀ w, Calls Tryz.prog 63 #[.string X1, .string ⟨#[48]⟩] w fun e w' => e = .returned (.string D) ∧ w = w'))
    (HTP : Hid (∀ w, Calls Tryz.prog 59 #[.string EX, .string ⟨#[126]⟩] w fun e w' => e = .returned (.string ⟨C.toArray⟩) ∧ w = w')) (hC : Digs C) (hCl : C.length ≤ 4096)
    (HHP : Hid (∀ w, Calls Tryz.prog 64 #[.string EX, .string ⟨#[126]⟩] w fun e w' => e = .returned (.bool true) ∧ w = w'))
    (qD : D.toList.isEmpty = true) (w : World) (ht : PEnv w) :
    Calls Tryz.prog 30 #[.string S0] w fun e w' => e = .returned (.float .f64 (turnN 0)) ∧ Below w.heap.size w w' := by
  have HT := Lib.hid ht
  have HCL := Lib.hid hCl
  have HCD := Lib.hid hC
  have HN := Lib.hid hN
  have hng := fun w => neg_float (P := Tryz.prog) 0 (by decide) w
  generalize turnN 0 = RN at *
  clear ht hC hN
  subst qk
  go_enter Tryz.func30, Tryz.ntmps30
  go_wp2_with (first
    | (go_at_call 61; ((with_reducible refine (HCP.out _).mono ?_); rintro e w' ⟨rfl, rfl⟩))
    | (go_at_call 62; ((with_reducible refine (HIA.out _).mono ?_); rintro e w1 ⟨rfl, hb1⟩; have HB1 := Lib.hid hb1; have HT1 := Lib.hid (HT.out.below hb1 (Nat.le_refl _)); clear hb1))
    | (go_at_call 19; ((refine (HCU.out _ (show PEnv w1.drew from HT1.out.drewN 1)).mono ?_); rintro e w2 ⟨rfl, hb2⟩; have hb2' : Below w1.heap.size w1 w2 := (Below.refl w1.heap.size w1).drew.trans hb2; have HB2 := Lib.hid (HB1.out.trans (hb2'.mono HB1.out.size)); have HT2 := Lib.hid (HT1.out.below hb2' (Nat.le_refl _)); clear hb2 hb2'))
    | (go_at_call 63; ((with_reducible refine (HTL.out _).mono ?_); rintro e w' ⟨rfl, rfl⟩))
    | (go_at_call 59; ((with_reducible refine (HTP.out _).mono ?_); rintro e w' ⟨rfl, rfl⟩)))
  go_region
  go_wp2_with fail
  refine (HCU.out _ (show PEnv w1.drew from HT1.out.drewN 1)).mono ?_
  rintro e w2 ⟨rfl, hb2⟩
  have hb2' : Below w1.heap.size w1 w2 := (Below.refl w1.heap.size w1).drew.trans hb2
  have HB2 := Lib.hid (HB1.out.trans (hb2'.mono HB1.out.size))
  have HT2 := Lib.hid (HT1.out.below hb2' (Nat.le_refl _))
  clear hb2 hb2'
  go_wp2_with (first
    | (go_at_call 61; ((with_reducible refine (HCP.out _).mono ?_); rintro e w' ⟨rfl, rfl⟩))
    | (go_at_call 62; ((with_reducible refine (HIA.out _).mono ?_); rintro e w1 ⟨rfl, hb1⟩; have HB1 := Lib.hid hb1; have HT1 := Lib.hid (HT.out.below hb1 (Nat.le_refl _)); clear hb1))
    | (go_at_call 19; ((refine (HCU.out _ (show PEnv w1.drew from HT1.out.drewN 1)).mono ?_); rintro e w2 ⟨rfl, hb2⟩; have hb2' : Below w1.heap.size w1 w2 := (Below.refl w1.heap.size w1).drew.trans hb2; have HB2 := Lib.hid (HB1.out.trans (hb2'.mono HB1.out.size)); have HT2 := Lib.hid (HT1.out.below hb2' (Nat.le_refl _)); clear hb2 hb2'))
    | (go_at_call 63; ((with_reducible refine (HTL.out _).mono ?_); rintro e w' ⟨rfl, rfl⟩))
    | (go_at_call 59; ((with_reducible refine (HTP.out _).mono ?_); rintro e w' ⟨rfl, rfl⟩)))
  go_loopw [11] (fun n wr => ∃ pos m : Nat, pos ≤ C.length ∧ wr = w2.iter ⟨C.toArray⟩ pos ∧ n = .int .i64 (m : Int) ∧ m ≤ 1099511627776 ∧ capN m (C.drop pos) = N) (fun _ wr => C.length - wr.iterPos w2.heap.size)
  case atStart => exact ⟨0, 0, Nat.zero_le _, rfl, rfl, by omega, HN.out⟩
  case round =>
    obtain ⟨pos, m, hp0, rfl, rfl, hm, hc⟩ := hrel
    have HC := Lib.hid hc
    clear hc
    by_cases hp : pos < C.length
    · obtain ⟨c, hcc⟩ : ∃ c, C[pos]? = some c := ⟨C[pos], List.getElem?_eq_getElem hp⟩
      have hps : pos < (ByteArray.mk C.toArray).size := by rw [size_mk]; exact hp
      have hg : (ByteArray.mk C.toArray)[pos]'hps = c := str_get hcc hps
      obtain ⟨c1, c2⟩ := HCD.out c (List.mem_of_getElem? hcc)
      have hnx : ∀ ty, (Instr.next (.pointer (some ⟨w2.heap.size, 0, none⟩)) true ty).run Tryz.prog (w2.iter ⟨C.toArray⟩ pos) = _ := fun ty => run_next_ascii w2 ⟨C.toArray⟩ pos ty hps (by rw [hg]; omega)
      rw [hg] at hnx
      have HST := Lib.hid (show capN (min (10 * m + (c.toNat - 48)) 1099511627776) (C.drop (pos + 1)) = N by
        rw [← HC.out, ← capN_step hcc])
      clear hg hcc
      go_wp2_with fail
      go_roundw
      case rel => exact ⟨pos + 1, min (10 * m + (c.toNat - 48)) 1099511627776, by omega, rfl, by go_num, by omega, HST.out⟩
      case measure => simp; omega
    · have hps : ¬ pos < (ByteArray.mk C.toArray).size := by rw [size_mk]; exact hp
      have hnx : ∀ ty, (Instr.next (.pointer (some ⟨w2.heap.size, 0, none⟩)) true ty).run Tryz.prog (w2.iter ⟨C.toArray⟩ pos) = _ := fun ty => run_next_end w2 ⟨C.toArray⟩ pos ty hps
      have hmN : m = N := by
        have := HC.out
        rw [List.drop_eq_nil_of_le (by omega)] at this
        exact this
      subst hmN
      have HT3 := Lib.hid (show PEnv (w2.iter ⟨C.toArray⟩ pos) from HT2.out.alloc _)
      have HB3 := Lib.hid (show Below w.heap.size w (w2.iter ⟨C.toArray⟩ pos) from HB2.out.alloc HB2.out.size _)
      go_wp2_with (first
        | (go_at_call 64; ((with_reducible refine (HHP.out _).mono ?_); rintro e w' ⟨rfl, rfl⟩)))
      go_ret
      exact ⟨rfl, HB3.out⟩

set_option maxRecDepth 100000 in
set_option maxHeartbeats 2000000 in
theorem fdec_m10 (S0 S1 AM EX WH PT X1 D X2 X3 IT PF : ByteArray) (C : List UInt8) (k at_ : Int) (kn N R : Nat) (bb : Bool) (_hR : R < 2 ^ 63)
    (hN : capN 0 C = N)
    (HCP : Hid (∀ w, Calls Tryz.prog 61 #[.string S0, .string ⟨#[126]⟩] w fun e w' => e = .returned (.tuple #[.string S1, .bool false]) ∧ w = w'))
    (HIA : Hid (∀ w, Calls Tryz.prog 62 #[.string S1, .string ⟨#[101, 69]⟩] w fun e w' => e = .returned (.int .i64 k) ∧ Below w.heap.size w w'))
    (qk : k = (kn : Int)) (rk : kn ≤ 5000) (rk2 : (kn : Int) ≤ (S1.size : Int)) (rk3 : (kn : Int) + 1 ≤ (S1.size : Int)) (xa : S1.extract 0 kn = AM) (xe : S1.extract (kn + 1) S1.size = EX)
    (HCU : Hid (∀ w, PEnv w → Calls Tryz.prog 19 #[.string AM, .string ⟨#[46]⟩] w fun e w' => e = .returned (.tuple #[.string WH, .string PT, .bool bb]) ∧ Below w.heap.size w w'))
    (k1 : ∀ w, (Op.stringOp .add WH PT).run Tryz.prog w = .ok (.string X1) w)
    (HTL : Hid (∀ w, Calls Tryz.prog 63 #[.string X1, .string ⟨#[48]⟩] w fun e w' => e = .returned (.string D) ∧ w = w'))
    (HTP : Hid (∀ w, Calls Tryz.prog 59 #[.string EX, .string ⟨#[126]⟩] w fun e w' => e = .returned (.string ⟨C.toArray⟩) ∧ w = w')) (hC : Digs C) (hCl : C.length ≤ 4096)
    (HHP : Hid (∀ w, Calls Tryz.prog 64 #[.string EX, .string ⟨#[126]⟩] w fun e w' => e = .returned (.bool true) ∧ w = w'))
    (qD : D.toList.isEmpty = false) (lD : D.size ≤ 9000) (lP : PT.size ≤ 9000) (hat : min (max ((D.size : Int) - (PT.size : Int) + (-(N : Int))) (-1000)) 1000 = at_) (k2 : ∀ w, (Op.stringOp .add ⟨#[48, 46]⟩ D).run Tryz.prog w = .ok (.string X2) w) (k3 : ∀ w, (Op.stringOp .add X2 ⟨#[101]⟩).run Tryz.prog w = .ok (.string X3) w) (k4 : ∀ w, (Op.stringOp .add X3 IT).run Tryz.prog w = .ok (.string PF) w)
    (HIT : Hid (∀ w, PEnv w → Calls Tryz.prog 48 #[.int .i64 at_] w fun e w' => e = .returned (.string IT) ∧ Below w.heap.size w w'))
    (HPF : Hid (∀ w, PEnv w → Calls Tryz.prog 65 #[.string PF, .int .i64 64] w fun e w' => ∃ er, e = .returned (.tuple #[.float .f64 R, er]) ∧ Below w.heap.size w w')) (w : World) (ht : PEnv w) :
    Calls Tryz.prog 30 #[.string S0] w fun e w' => e = .returned (.float .f64 R) ∧ Below w.heap.size w w' := by
  have HT := Lib.hid ht
  have HCL := Lib.hid hCl
  have HCD := Lib.hid hC
  have HN := Lib.hid hN
  clear ht hC hN
  subst qk
  go_enter Tryz.func30, Tryz.ntmps30
  go_wp2_with (first
    | (go_at_call 61; ((with_reducible refine (HCP.out _).mono ?_); rintro e w' ⟨rfl, rfl⟩))
    | (go_at_call 62; ((with_reducible refine (HIA.out _).mono ?_); rintro e w1 ⟨rfl, hb1⟩; have HB1 := Lib.hid hb1; have HT1 := Lib.hid (HT.out.below hb1 (Nat.le_refl _)); clear hb1))
    | (go_at_call 19; ((refine (HCU.out _ (show PEnv w1.drew from HT1.out.drewN 1)).mono ?_); rintro e w2 ⟨rfl, hb2⟩; have hb2' : Below w1.heap.size w1 w2 := (Below.refl w1.heap.size w1).drew.trans hb2; have HB2 := Lib.hid (HB1.out.trans (hb2'.mono HB1.out.size)); have HT2 := Lib.hid (HT1.out.below hb2' (Nat.le_refl _)); clear hb2 hb2'))
    | (go_at_call 63; ((with_reducible refine (HTL.out _).mono ?_); rintro e w' ⟨rfl, rfl⟩))
    | (go_at_call 59; ((with_reducible refine (HTP.out _).mono ?_); rintro e w' ⟨rfl, rfl⟩)))
  go_region
  go_wp2_with fail
  refine (HCU.out _ (show PEnv w1.drew from HT1.out.drewN 1)).mono ?_
  rintro e w2 ⟨rfl, hb2⟩
  have hb2' : Below w1.heap.size w1 w2 := (Below.refl w1.heap.size w1).drew.trans hb2
  have HB2 := Lib.hid (HB1.out.trans (hb2'.mono HB1.out.size))
  have HT2 := Lib.hid (HT1.out.below hb2' (Nat.le_refl _))
  clear hb2 hb2'
  go_wp2_with (first
    | (go_at_call 61; ((with_reducible refine (HCP.out _).mono ?_); rintro e w' ⟨rfl, rfl⟩))
    | (go_at_call 62; ((with_reducible refine (HIA.out _).mono ?_); rintro e w1 ⟨rfl, hb1⟩; have HB1 := Lib.hid hb1; have HT1 := Lib.hid (HT.out.below hb1 (Nat.le_refl _)); clear hb1))
    | (go_at_call 19; ((refine (HCU.out _ (show PEnv w1.drew from HT1.out.drewN 1)).mono ?_); rintro e w2 ⟨rfl, hb2⟩; have hb2' : Below w1.heap.size w1 w2 := (Below.refl w1.heap.size w1).drew.trans hb2; have HB2 := Lib.hid (HB1.out.trans (hb2'.mono HB1.out.size)); have HT2 := Lib.hid (HT1.out.below hb2' (Nat.le_refl _)); clear hb2 hb2'))
    | (go_at_call 63; ((with_reducible refine (HTL.out _).mono ?_); rintro e w' ⟨rfl, rfl⟩))
    | (go_at_call 59; ((with_reducible refine (HTP.out _).mono ?_); rintro e w' ⟨rfl, rfl⟩)))
  go_loopw [11] (fun n wr => ∃ pos m : Nat, pos ≤ C.length ∧ wr = w2.iter ⟨C.toArray⟩ pos ∧ n = .int .i64 (m : Int) ∧ m ≤ 1099511627776 ∧ capN m (C.drop pos) = N) (fun _ wr => C.length - wr.iterPos w2.heap.size)
  case atStart => exact ⟨0, 0, Nat.zero_le _, rfl, rfl, by omega, HN.out⟩
  case round =>
    obtain ⟨pos, m, hp0, rfl, rfl, hm, hc⟩ := hrel
    have HC := Lib.hid hc
    clear hc
    by_cases hp : pos < C.length
    · obtain ⟨c, hcc⟩ : ∃ c, C[pos]? = some c := ⟨C[pos], List.getElem?_eq_getElem hp⟩
      have hps : pos < (ByteArray.mk C.toArray).size := by rw [size_mk]; exact hp
      have hg : (ByteArray.mk C.toArray)[pos]'hps = c := str_get hcc hps
      obtain ⟨c1, c2⟩ := HCD.out c (List.mem_of_getElem? hcc)
      have hnx : ∀ ty, (Instr.next (.pointer (some ⟨w2.heap.size, 0, none⟩)) true ty).run Tryz.prog (w2.iter ⟨C.toArray⟩ pos) = _ := fun ty => run_next_ascii w2 ⟨C.toArray⟩ pos ty hps (by rw [hg]; omega)
      rw [hg] at hnx
      have HST := Lib.hid (show capN (min (10 * m + (c.toNat - 48)) 1099511627776) (C.drop (pos + 1)) = N by
        rw [← HC.out, ← capN_step hcc])
      clear hg hcc
      go_wp2_with fail
      go_roundw
      case rel => exact ⟨pos + 1, min (10 * m + (c.toNat - 48)) 1099511627776, by omega, rfl, by go_num, by omega, HST.out⟩
      case measure => simp; omega
    · have hps : ¬ pos < (ByteArray.mk C.toArray).size := by rw [size_mk]; exact hp
      have hnx : ∀ ty, (Instr.next (.pointer (some ⟨w2.heap.size, 0, none⟩)) true ty).run Tryz.prog (w2.iter ⟨C.toArray⟩ pos) = _ := fun ty => run_next_end w2 ⟨C.toArray⟩ pos ty hps
      have hmN : m = N := by
        have := HC.out
        rw [List.drop_eq_nil_of_le (by omega)] at this
        exact this
      subst hmN
      have HT3 := Lib.hid (show PEnv (w2.iter ⟨C.toArray⟩ pos) from HT2.out.alloc _)
      have HB3 := Lib.hid (show Below w.heap.size w (w2.iter ⟨C.toArray⟩ pos) from HB2.out.alloc HB2.out.size _)
      go_wp2_with (first
        | (go_at_call 64; ((with_reducible refine (HHP.out _).mono ?_); rintro e w' ⟨rfl, rfl⟩))
        | (go_at_call 48; ((with_reducible refine (HIT.out _ HT3.out).mono ?_); rintro e w5 ⟨rfl, hb5⟩; have HB5 := Lib.hid (HB3.out.trans (hb5.mono HB3.out.size)); have HT5 := Lib.hid (HT3.out.below hb5 (Nat.le_refl _)); clear hb5))
        | (go_at_call 65; ((with_reducible refine (HPF.out _ HT5.out).mono ?_); rintro e w6 ⟨er, rfl, hb6⟩; have HB6 := Lib.hid (HB5.out.trans (hb6.mono HB5.out.size)); clear hb6)))
      go_ret
      exact ⟨rfl, HB6.out⟩

set_option maxRecDepth 100000 in
set_option maxHeartbeats 2000000 in
theorem fdec_m11 (S0 S1 AM EX WH PT X1 D X2 X3 IT PF : ByteArray) (C : List UInt8) (k at_ : Int) (kn N R : Nat) (bb : Bool) (hR : R < 2 ^ 63)
    (hN : capN 0 C = N)
    (HCP : Hid (∀ w, Calls Tryz.prog 61 #[.string S0, .string ⟨#[126]⟩] w fun e w' => e = .returned (.tuple #[.string S1, .bool true]) ∧ w = w'))
    (HIA : Hid (∀ w, Calls Tryz.prog 62 #[.string S1, .string ⟨#[101, 69]⟩] w fun e w' => e = .returned (.int .i64 k) ∧ Below w.heap.size w w'))
    (qk : k = (kn : Int)) (rk : kn ≤ 5000) (rk2 : (kn : Int) ≤ (S1.size : Int)) (rk3 : (kn : Int) + 1 ≤ (S1.size : Int)) (xa : S1.extract 0 kn = AM) (xe : S1.extract (kn + 1) S1.size = EX)
    (HCU : Hid (∀ w, PEnv w → Calls Tryz.prog 19 #[.string AM, .string ⟨#[46]⟩] w fun e w' => e = .returned (.tuple #[.string WH, .string PT, .bool bb]) ∧ Below w.heap.size w w'))
    (k1 : ∀ w, (Op.stringOp .add WH PT).run Tryz.prog w = .ok (.string X1) w)
    (HTL : Hid (∀ w, Calls Tryz.prog 63 #[.string X1, .string ⟨#[48]⟩] w fun e w' => e = .returned (.string D) ∧ w = w'))
    (HTP : Hid (∀ w, Calls Tryz.prog 59 #[.string EX, .string ⟨#[126]⟩] w fun e w' => e = .returned (.string ⟨C.toArray⟩) ∧ w = w')) (hC : Digs C) (hCl : C.length ≤ 4096)
    (HHP : Hid (∀ w, Calls Tryz.prog 64 #[.string EX, .string ⟨#[126]⟩] w fun e w' => e = .returned (.bool true) ∧ w = w'))
    (qD : D.toList.isEmpty = false) (lD : D.size ≤ 9000) (lP : PT.size ≤ 9000) (hat : min (max ((D.size : Int) - (PT.size : Int) + (-(N : Int))) (-1000)) 1000 = at_) (k2 : ∀ w, (Op.stringOp .add ⟨#[48, 46]⟩ D).run Tryz.prog w = .ok (.string X2) w) (k3 : ∀ w, (Op.stringOp .add X2 ⟨#[101]⟩).run Tryz.prog w = .ok (.string X3) w) (k4 : ∀ w, (Op.stringOp .add X3 IT).run Tryz.prog w = .ok (.string PF) w)
    (HIT : Hid (∀ w, PEnv w → Calls Tryz.prog 48 #[.int .i64 at_] w fun e w' => e = .returned (.string IT) ∧ Below w.heap.size w w'))
    (HPF : Hid (∀ w, PEnv w → Calls Tryz.prog 65 #[.string PF, .int .i64 64] w fun e w' => ∃ er, e = .returned (.tuple #[.float .f64 R, er]) ∧ Below w.heap.size w w')) (w : World) (ht : PEnv w) :
    Calls Tryz.prog 30 #[.string S0] w fun e w' => e = .returned (.float .f64 (turnN R)) ∧ Below w.heap.size w w' := by
  have HT := Lib.hid ht
  have HCL := Lib.hid hCl
  have HCD := Lib.hid hC
  have HN := Lib.hid hN
  have hng := fun w => neg_float (P := Tryz.prog) R hR w
  generalize turnN R = RN at *
  clear ht hC hN
  subst qk
  go_enter Tryz.func30, Tryz.ntmps30
  go_wp2_with (first
    | (go_at_call 61; ((with_reducible refine (HCP.out _).mono ?_); rintro e w' ⟨rfl, rfl⟩))
    | (go_at_call 62; ((with_reducible refine (HIA.out _).mono ?_); rintro e w1 ⟨rfl, hb1⟩; have HB1 := Lib.hid hb1; have HT1 := Lib.hid (HT.out.below hb1 (Nat.le_refl _)); clear hb1))
    | (go_at_call 19; ((refine (HCU.out _ (show PEnv w1.drew from HT1.out.drewN 1)).mono ?_); rintro e w2 ⟨rfl, hb2⟩; have hb2' : Below w1.heap.size w1 w2 := (Below.refl w1.heap.size w1).drew.trans hb2; have HB2 := Lib.hid (HB1.out.trans (hb2'.mono HB1.out.size)); have HT2 := Lib.hid (HT1.out.below hb2' (Nat.le_refl _)); clear hb2 hb2'))
    | (go_at_call 63; ((with_reducible refine (HTL.out _).mono ?_); rintro e w' ⟨rfl, rfl⟩))
    | (go_at_call 59; ((with_reducible refine (HTP.out _).mono ?_); rintro e w' ⟨rfl, rfl⟩)))
  go_region
  go_wp2_with fail
  refine (HCU.out _ (show PEnv w1.drew from HT1.out.drewN 1)).mono ?_
  rintro e w2 ⟨rfl, hb2⟩
  have hb2' : Below w1.heap.size w1 w2 := (Below.refl w1.heap.size w1).drew.trans hb2
  have HB2 := Lib.hid (HB1.out.trans (hb2'.mono HB1.out.size))
  have HT2 := Lib.hid (HT1.out.below hb2' (Nat.le_refl _))
  clear hb2 hb2'
  go_wp2_with (first
    | (go_at_call 61; ((with_reducible refine (HCP.out _).mono ?_); rintro e w' ⟨rfl, rfl⟩))
    | (go_at_call 62; ((with_reducible refine (HIA.out _).mono ?_); rintro e w1 ⟨rfl, hb1⟩; have HB1 := Lib.hid hb1; have HT1 := Lib.hid (HT.out.below hb1 (Nat.le_refl _)); clear hb1))
    | (go_at_call 19; ((refine (HCU.out _ (show PEnv w1.drew from HT1.out.drewN 1)).mono ?_); rintro e w2 ⟨rfl, hb2⟩; have hb2' : Below w1.heap.size w1 w2 := (Below.refl w1.heap.size w1).drew.trans hb2; have HB2 := Lib.hid (HB1.out.trans (hb2'.mono HB1.out.size)); have HT2 := Lib.hid (HT1.out.below hb2' (Nat.le_refl _)); clear hb2 hb2'))
    | (go_at_call 63; ((with_reducible refine (HTL.out _).mono ?_); rintro e w' ⟨rfl, rfl⟩))
    | (go_at_call 59; ((with_reducible refine (HTP.out _).mono ?_); rintro e w' ⟨rfl, rfl⟩)))
  go_loopw [11] (fun n wr => ∃ pos m : Nat, pos ≤ C.length ∧ wr = w2.iter ⟨C.toArray⟩ pos ∧ n = .int .i64 (m : Int) ∧ m ≤ 1099511627776 ∧ capN m (C.drop pos) = N) (fun _ wr => C.length - wr.iterPos w2.heap.size)
  case atStart => exact ⟨0, 0, Nat.zero_le _, rfl, rfl, by omega, HN.out⟩
  case round =>
    obtain ⟨pos, m, hp0, rfl, rfl, hm, hc⟩ := hrel
    have HC := Lib.hid hc
    clear hc
    by_cases hp : pos < C.length
    · obtain ⟨c, hcc⟩ : ∃ c, C[pos]? = some c := ⟨C[pos], List.getElem?_eq_getElem hp⟩
      have hps : pos < (ByteArray.mk C.toArray).size := by rw [size_mk]; exact hp
      have hg : (ByteArray.mk C.toArray)[pos]'hps = c := str_get hcc hps
      obtain ⟨c1, c2⟩ := HCD.out c (List.mem_of_getElem? hcc)
      have hnx : ∀ ty, (Instr.next (.pointer (some ⟨w2.heap.size, 0, none⟩)) true ty).run Tryz.prog (w2.iter ⟨C.toArray⟩ pos) = _ := fun ty => run_next_ascii w2 ⟨C.toArray⟩ pos ty hps (by rw [hg]; omega)
      rw [hg] at hnx
      have HST := Lib.hid (show capN (min (10 * m + (c.toNat - 48)) 1099511627776) (C.drop (pos + 1)) = N by
        rw [← HC.out, ← capN_step hcc])
      clear hg hcc
      go_wp2_with fail
      go_roundw
      case rel => exact ⟨pos + 1, min (10 * m + (c.toNat - 48)) 1099511627776, by omega, rfl, by go_num, by omega, HST.out⟩
      case measure => simp; omega
    · have hps : ¬ pos < (ByteArray.mk C.toArray).size := by rw [size_mk]; exact hp
      have hnx : ∀ ty, (Instr.next (.pointer (some ⟨w2.heap.size, 0, none⟩)) true ty).run Tryz.prog (w2.iter ⟨C.toArray⟩ pos) = _ := fun ty => run_next_end w2 ⟨C.toArray⟩ pos ty hps
      have hmN : m = N := by
        have := HC.out
        rw [List.drop_eq_nil_of_le (by omega)] at this
        exact this
      subst hmN
      have HT3 := Lib.hid (show PEnv (w2.iter ⟨C.toArray⟩ pos) from HT2.out.alloc _)
      have HB3 := Lib.hid (show Below w.heap.size w (w2.iter ⟨C.toArray⟩ pos) from HB2.out.alloc HB2.out.size _)
      go_wp2_with (first
        | (go_at_call 64; ((with_reducible refine (HHP.out _).mono ?_); rintro e w' ⟨rfl, rfl⟩))
        | (go_at_call 48; ((with_reducible refine (HIT.out _ HT3.out).mono ?_); rintro e w5 ⟨rfl, hb5⟩; have HB5 := Lib.hid (HB3.out.trans (hb5.mono HB3.out.size)); have HT5 := Lib.hid (HT3.out.below hb5 (Nat.le_refl _)); clear hb5))
        | (go_at_call 65; ((with_reducible refine (HPF.out _ HT5.out).mono ?_); rintro e w6 ⟨er, rfl, hb6⟩; have HB6 := Lib.hid (HB5.out.trans (hb6.mono HB5.out.size)); clear hb6)))
      go_ret
      exact ⟨rfl, HB6.out⟩
end Go.Proofs.YtijncfidjjfmiaaGreatDoor
