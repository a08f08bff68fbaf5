/- Walks of package flo's ways to ints. -/
import Derived.Test.YtceoapkkmgllaaaGreatDoorFloWalkB
namespace Go.Proofs.YtceoapkkmgllaaaGreatDoor
open Go.RowKit FloM

/-- Two results, both ints. -/
abbrev two (p : Int × Int) : Ending := .returned (.tuple #[.int .i64 p.1, .int .i64 p.2])

set_option maxRecDepth 100000 in
set_option maxHeartbeats 400000 in
theorem told_nan (u : Nat) (w : World) (h : cap < rg u) : Calls Tryz.prog 73 #[.float .f64 u] w fun e w' => e = two (0, 20) ∧ w = w' := by
  have hn := neq_self_nan h
  go_enter Tryz.func73, Tryz.ntmps73
  go_wp2
  go_ret2
  exact ⟨rfl, rfl⟩

def toldO (o1 o2 : Ordering) (k : Int) : Int × Int := match o1, o2 with | .lt, _ => (0, 10) | _, .lt => (k, 0) | _, _ => (0, 10)

set_option maxRecDepth 100000 in
set_option maxHeartbeats 1600000 in
theorem told_num (u : Nat) (w : World) (h : rg u ≤ cap) (o1 o2 : Ordering) (k : Int) (h1 : FloatKind.f64.format.order u 14109777632551763968 = some o1) (h2 : FloatKind.f64.format.order u 4886405595696988160 = some o2)
    (hk : floatToIntVal .f64 u .i64 = some k ∨ o2 ≠ .lt ∨ o1 = .lt) : Calls Tryz.prog 73 #[.float .f64 u] w fun e w' => e = two (toldO o1 o2 k) ∧ w = w' := by
  have hn := neq_self h
  by_cases hin : o2 ≠ .lt ∨ o1 = .lt
  · clear hk
    cases o1 <;> cases o2 <;> first | (exfalso; revert hin; decide) | skip
    all_goals
      clear hin
      go_enter Tryz.func73, Tryz.ntmps73
      go_wp2
      go_ret2
      exact ⟨rfl, rfl⟩
  · have hc : ∀ w, (convert 23 2 (.float .f64 u)).run Tryz.prog w = .ok (.int .i64 k) w := fun w =>
      run_convert_float_int (P := Tryz.prog) w 23 2 .f64 .i64 u k (by kernel_rfl) (by kernel_rfl) (hk.resolve_right hin)
    clear hk
    cases o1 <;> cases o2 <;> first | (exfalso; apply hin; decide) | skip
    all_goals
      clear hin
      go_enter Tryz.func73, Tryz.ntmps73
      go_wp2
      go_ret2
      exact ⟨rfl, rfl⟩
/-! The externs. -/
theorem quiet_nan (s : Bool) (t : Nat) : cap < rg (Ieee.double.write (.nan s (Ieee.double.quiet t))) := by
  have hf : Ieee.double.binade = 2 ^ 52 := rfl
  have hq : Ieee.double.quiet t = t ||| 2 ^ 51 := rfl
  simp only [Ieee.Format.write, hf, hq, infRung_cap, word_wd]
  have hlt : cap + (t ||| 2 ^ 51) % 2 ^ 52 < 2 ^ 63 := by
    have := Nat.mod_lt (t ||| 2 ^ 51) (show 2 ^ 52 > 0 by decide)
    have hc : cap = 2047 * 2 ^ 52 := rfl
    omega
  rw [rg_wd _ _ hlt]
  have hb : ((t ||| 2 ^ 51) % 2 ^ 52).testBit 51 = true := by
    rw [Nat.testBit_mod_two_pow, Nat.testBit_or, Nat.testBit_two_pow_self]; simp
  have : (t ||| 2 ^ 51) % 2 ^ 52 ≠ 0 := by intro h0; rw [h0] at hb; simp at hb
  omega

theorem toIntegral_eq (name : String) (way : Ieee.Toward) (x : Nat) : ∃ q : Question, q.forced = false ∧ Extern.MathFloor.toIntegral name way #[.float .f64 x] =
    (match FloatKind.f64.decode x with
    | .nan s t =>
      if FloatKind.f64.format.quiet t = t then pure (.float .f64 x) else (do
      let kept ← choose q
      pure (.float .f64 (if kept == 1 then x else FloatKind.f64.encode (.nan s (FloatKind.f64.format.quiet t)))))
    | d => pure (.float .f64 (FloatKind.f64.encode (d.integral way)))) := ⟨_, by rfl, rfl⟩

theorem integral_nan (name : String) (way : Ieee.Toward) (u : Nat) (h : cap < rg u) (P : Program) (w : World) :
    ∃ z n, cap < rg z ∧ (Extern.MathFloor.toIntegral name way #[.float .f64 u]).run P w = .ok (.float .f64 z) (w.drewN n) := by
  have hd : FloatKind.f64.decode u = .nan (sgn u) (rg u - cap) := read_nan h
  obtain ⟨q, hq, he1⟩ := toIntegral_eq name way u
  rw [he1, hd]
  simp only
  split
  · exact ⟨u, 0, h, rfl⟩
  · simp only [Sem.run_bind, run_choose_drew]
    simp only [hq, Bool.false_eq_true, if_false, Result.andThen_ok, Sem.run_pure]
    refine ⟨_, 1, ?_, rfl⟩
    split
    · exact h
    · exact quiet_nan _ _

theorem integral_inf (name : String) (way : Ieee.Toward) (u : Nat) (h : rg u = cap) (P : Program) (w : World) :
    (Extern.MathFloor.toIntegral name way #[.float .f64 u]).run P w = .ok (.float .f64 (wd (sgn u) cap)) w := by
  have hd : FloatKind.f64.decode u = .infinity (sgn u) := read_inf h
  have he : FloatKind.f64.encode (.infinity (sgn u)) = wd (sgn u) cap := by
    show Ieee.double.write _ = _
    simp only [Ieee.Format.write, infRung_cap, word_wd]
  obtain ⟨q, hq, he1⟩ := toIntegral_eq name way u
  rw [he1, hd]
  simp only [Ieee.Datum.integral, he]
  rfl

theorem integral_fin (name : String) (way : Ieee.Toward) (u : Nat) (h : rg u < cap) (P : Program) (w : World) :
    ∃ r, r < cap ∧ val r = iv way u * KK ∧ (Extern.MathFloor.toIntegral name way #[.float .f64 u]).run P w = .ok (.float .f64 (wd (sgn u) r)) w := by
  obtain ⟨r, hr, hv, hw⟩ := write_integral h way
  refine ⟨r, hr, hv, ?_⟩
  have hd : FloatKind.f64.decode u = .number (sgn u) (mg (rg u)) (-1074 + (up (rg u) : Int)) := read_num h
  have he : FloatKind.f64.encode ((FloatKind.f64.decode u).integral way) = wd (sgn u) r := hw
  rw [hd] at he
  obtain ⟨q, hq, he1⟩ := toIntegral_eq name way u
  rw [he1, hd]
  simp only
  rw [he]
  rfl

/-! What 'told' gives behind a rounding. -/
theorem sv_c2 : sv 4886405595696988160 = 4611686018427387904 * (KK : Int) := by
  have h1 : sgn 4886405595696988160 = false := by decide
  have h2 : rg 4886405595696988160 = 4886405595696988160 := by decide
  have h3 : mg 4886405595696988160 = 2 ^ 52 := by decide
  have h4 : up 4886405595696988160 = 1084 := by decide
  unfold sv
  rw [h1, h2, val_eq, h3, h4, KK_eq, show (1084 : Nat) = 10 + e74 by rw [e74_eq], Nat.pow_add 2 10 e74]
  simp only [Bool.false_eq_true, if_false]
  generalize 2 ^ e74 = x
  omega
theorem sv_c1 : sv 14109777632551763968 = -4611686018427387904 * (KK : Int) := by
  have h := sv_c2
  have h1 : sgn 14109777632551763968 = true := by decide
  have h2 : sgn 4886405595696988160 = false := by decide
  have h3 : rg 14109777632551763968 = rg 4886405595696988160 := by decide
  unfold sv at h ⊢
  rw [h2] at h
  rw [h1, h3]
  simp only [Bool.false_eq_true, if_false, if_true] at h ⊢
  generalize (KK : Int) = x at *
  omega

theorem order_c (v : Nat) (k : Int) (hv : rg v ≤ cap) (hk : sv v = k * (KK : Int)) :
    FloatKind.f64.format.order v 14109777632551763968 = some (compare k (-4611686018427387904)) ∧
    FloatKind.f64.format.order v 4886405595696988160 = some (compare k 4611686018427387904) := by
  have c1 : rg 14109777632551763968 ≤ cap := by decide
  have c2 : rg 4886405595696988160 ≤ cap := by decide
  refine ⟨?_, ?_⟩
  · rw [dbl, order_all hv c1, hk, sv_c1, compare_mul _ _ _ KK_pos]
  · rw [dbl, order_all hv c2, hk, sv_c2, compare_mul _ _ _ KK_pos]

theorem toldO_eq (k : Int) : toldO (compare k (-4611686018427387904)) (compare k 4611686018427387904) k =
    if k < -4611686018427387904 ∨ 4611686018427387904 ≤ k then (0, 10) else (k, 0) := by
  rcases Int.lt_trichotomy k (-4611686018427387904) with h | h | h
  · rw [Int.compare_eq_lt.2 h, if_pos (.inl h)]; rfl
  · rw [if_neg (by omega), Int.compare_eq_eq.2 h, Int.compare_eq_lt.2 (by omega)]; rfl
  · rw [Int.compare_eq_gt.2 h]
    rcases Int.lt_or_le k 4611686018427387904 with h2 | h2
    · rw [Int.compare_eq_lt.2 h2, if_neg (by omega)]; rfl
    · rw [if_pos (.inr h2)]
      rcases Int.lt_or_eq_of_le h2 with h3 | h3
      · rw [Int.compare_eq_gt.2 h3]; rfl
      · rw [Int.compare_eq_eq.2 h3.symm]; rfl

theorem toInt_of {v : Nat} {k : Int} (hv : rg v < cap) (hk : sv v = k * (KK : Int)) (h1 : -4611686018427387904 ≤ k) (h2 : k < 4611686018427387904) :
    floatToIntVal .f64 v .i64 = some k := by
  have hi : (FloatKind.f64.decode v).integral .zero = .number (sgn v) (iv .zero v) 0 := integral_num hv .zero
  have hs : Ieee.signed (sgn v) (iv .zero v) 0 = k := by
    rw [signed_eq]
    have hp := KK_pos
    have hval : val (rg v) = k.natAbs * KK := by rw [← sv_natAbs, hk, Int.natAbs_mul, Int.natAbs_natCast]
    have : iv .zero v = k.natAbs := by
      unfold iv cutW; rw [hval, Nat.mul_div_cancel _ hp]
    rw [this, Nat.pow_zero, Nat.mul_one]
    unfold sv at hk
    rw [hval] at hk
    cases hsg : sgn v
    · rw [hsg] at hk
      simp only [Bool.false_eq_true, if_false] at hk ⊢
      have : 0 ≤ k := by
        rcases Int.lt_or_le k 0 with h | h
        · have := Int.mul_neg_of_neg_of_pos h (show (0 : Int) < (KK : Int) by omega); omega
        · exact h
      omega
    · rw [hsg] at hk
      simp only [if_true] at hk ⊢
      have : k ≤ 0 := by
        rcases Int.lt_or_le 0 k with h | h
        · have := Int.mul_pos h (show (0 : Int) < (KK : Int) by omega); omega
        · exact h
      omega
  unfold floatToIntVal Ieee.Datum.toInt
  rw [hi]
  simp only [hs]
  rw [if_pos]
  exact ⟨by simp [IntKind.min, IntKind.signed, IntKind.bits]; omega, by simp [IntKind.max, IntKind.signed, IntKind.bits]; omega⟩

end Go.Proofs.YtceoapkkmgllaaaGreatDoor
