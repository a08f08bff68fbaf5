/- Walks of the library's parseFloat64, pack64 and atof64exact. Walks of the library's parseFloat64. -/
import Derived.Test.YtijncfidjjfmiaaGreatDoorFloEnv
import Derived.Test.YtijncfidjjfmiaaGreatDoorFloFastA
import Derived.Test.YtijncfidjjfmiaaGreatDoorFloSlowI
namespace Go.Proofs.YtijncfidjjfmiaaGreatDoor
open Go.RowKit FloM

@[go_sem] theorem extFrom2 (u : Nat) (w : World) : (callFunc 178 #[.int .u64 (u : Int)]).run Tryz.prog w = .ok (.value (.float .f64 u)) w := by
  rw [run_callFunc_extern (e := Extern.MathFloatBits.float64frombits) Tryz.func178 (by kernel_rfl) (by kernel_rfl) (by kernel_rfl) (by kernel_rfl)]; rfl

/-- The error that is told, or none. -/
def perr (b : Bool) : Value := if b then .iface 106 (.int .i64 1) else .nilIface
/-- Does pack64 run over? -/
def packB (m : Nat) (e : Int) : Bool := !(decide (m / 4503599627370496 % 2 = 0)) && decide (972 ≤ e)

theorem bit52 (m : Nat) (hm : m < 9007199254740992) : bits .and .u64 (m : Int) 4503599627370496 = ((m / 4503599627370496 % 2 * 4503599627370496 : Nat) : Int) := by
  have h := u64_and_nat m 4503599627370496 (by omega) (by decide)
  have h2 := nat_bit 52 m
  rw [show (2 : Nat) ^ 52 = 4503599627370496 from rfl] at h2
  rw [h2] at h
  exact h
theorem clr52 (m : Nat) (h1 : 4503599627370496 ≤ m) (h2 : m < 9007199254740992) : bits .andNot .u64 (m : Int) 4503599627370496 = ((m - 4503599627370496 : Nat) : Int) := by
  have h := u64_andNot_nat m 4503599627370496 (by omega) (by decide)
  refine h.trans (congrArg Nat.cast ?_)
  obtain ⟨r, rfl⟩ : ∃ r, m = 4503599627370496 + r := ⟨m - 4503599627370496, by omega⟩
  have hr : r < 2 ^ 52 := by omega
  have e1 := nat_join 52 4503599627370496 r (by decide) hr
  rw [← e1, Nat.and_or_distrib_right, show 4503599627370496 &&& (18446744073709551615 - 4503599627370496) = 0 by decide, Nat.zero_or]
  have e2 : r &&& 4503599627370495 = r := by
    have := Nat.and_two_pow_sub_one_of_lt_two_pow hr
    exact this
  have e3 : r &&& (18446744073709551615 - 4503599627370496) = r := by
    conv => lhs; rw [← e2]
    rw [Nat.and_assoc, show 4503599627370495 &&& (18446744073709551615 - 4503599627370496) = 4503599627370495 by decide, e2]
  rw [e3, e1]
  omega
theorem or52F (r k : Nat) (hr : r < 4503599627370496) (hk : k < 4096) : bits .or .u64 (r : Int) ((k * 4503599627370496 : Nat) : Int) = ((r + k * 4503599627370496 : Nat) : Int) := by
  have h := u64_or_nat r (k * 4503599627370496) (by omega) (by omega)
  refine h.trans (congrArg Nat.cast ?_)
  rw [Nat.or_comm, nat_join 52 _ r (by omega) (by omega), Nat.add_comm]
theorem and63z (m : Nat) (hm : m < 9223372036854775808) : bits .and .u64 (m : Int) 9223372036854775808 = 0 := by
  have h := u64_and_nat m 9223372036854775808 (by omega) (by decide)
  have h2 := nat_bit 63 m
  rw [show (2 : Nat) ^ 63 = 9223372036854775808 from rfl, Nat.div_eq_of_lt hm] at h2
  rw [h2] at h
  exact h

abbrev Ret2 (r : Nat) (v : Value) : Ending := .returned (.tuple #[.float .f64 r, v])

set_option maxRecDepth 100000 in
set_option maxHeartbeats 1000000 in
theorem pk_lo (m a : Nat) (e : Int) (w : World) (f1 : bits .and .u64 (m : Int) 4503599627370496 = (a : Int)) (q1 : ((a : Int) == 0) = true) :
    Calls Tryz.prog 188 #[.int .u64 m, .int .i64 e] w fun e' w' => e' = Ret2 m .nilIface ∧ w = w' := by
  go_enter Tryz.func188, Tryz.ntmps188
  go_wp2
  go_ret2
  exact ⟨rfl, rfl⟩
set_option maxRecDepth 100000 in
set_option maxHeartbeats 1000000 in
theorem pk_inf (m a R : Nat) (e : Int) (w : World) (f1 : bits .and .u64 (m : Int) 4503599627370496 = (a : Int)) (q1 : ((a : Int) == 0) = false) (he : 972 ≤ e)
    (f2 : bits .and .u64 (m : Int) 9223372036854775808 = 0) (f3 : bits .or .u64 0 9218868437227405312 = (R : Int)) :
    Calls Tryz.prog 188 #[.int .u64 m, .int .i64 e] w fun e' w' => e' = Ret2 R (.iface 106 (.int .i64 1)) ∧ w = w' := by
  go_enter Tryz.func188, Tryz.ntmps188
  go_wp2
  go_ret2
  exact ⟨rfl, rfl⟩
set_option maxRecDepth 100000 in
set_option maxHeartbeats 1000000 in
theorem pk_mid (m a r k R : Nat) (e : Int) (w : World) (f1 : bits .and .u64 (m : Int) 4503599627370496 = (a : Int)) (q1 : ((a : Int) == 0) = false) (he : e < 972) (he2 : -1074 ≤ e)
    (f2 : bits .andNot .u64 (m : Int) 4503599627370496 = (r : Int)) (hk : (k : Int) = 1075 + e) (hk2 : k < 4096)
    (f3 : bits .or .u64 (r : Int) ((k : Int) * 4503599627370496) = (R : Int)) :
    Calls Tryz.prog 188 #[.int .u64 m, .int .i64 e] w fun e' w' => e' = Ret2 R .nilIface ∧ w = w' := by
  obtain rfl : e = (k : Int) - 1075 := by omega
  have h1 : 1075 + ((k : Int) - 1075) = k := by omega
  clear hk
  go_enter Tryz.func188, Tryz.ntmps188
  go_wp2
  go_ret2
  exact ⟨rfl, rfl⟩

theorem pk_any (m : Nat) (e : Int) (hm : m < 9007199254740992) (he : -1074 ≤ e) (w : World) :
    Calls Tryz.prog 188 #[.int .u64 m, .int .i64 e] w fun e' w' => e' = Ret2 (packF m e) (perr (packB m e)) ∧ w = w' := by
  have f1 := bit52 m hm
  by_cases h0 : m / 4503599627370496 % 2 = 0
  · have e1 : packF m e = m := if_pos h0
    have e2 : packB m e = false := by unfold packB; rw [decide_eq_true h0]; rfl
    rw [e1, e2]
    exact pk_lo m _ e w f1 (by rw [h0]; rfl)
  · have hlo : 4503599627370496 ≤ m := by omega
    have hq : (((m / 4503599627370496 % 2 * 4503599627370496 : Nat) : Int) == 0) = false := by rw [beq_eq_false_iff_ne]; omega
    by_cases h1 : 972 ≤ e
    · have e1 : packF m e = 9218868437227405312 := by unfold packF; rw [if_neg h0, if_pos h1]; rfl
      have e2 : packB m e = true := by unfold packB; rw [decide_eq_false h0, decide_eq_true h1]; rfl
      rw [e1, e2]
      exact pk_inf m _ 9218868437227405312 e w f1 hq h1 (and63z m (by omega)) (by decide +kernel)
    · have e1 : packF m e = m - 4503599627370496 + (1075 + e).toNat * 4503599627370496 := by unfold packF; rw [if_neg h0, if_neg h1]
      have e2 : packB m e = false := by unfold packB; rw [decide_eq_false h1, Bool.and_false]
      rw [e1, e2]
      have h3 := or52F (m - 4503599627370496) (1075 + e).toNat (by omega) (by omega)
      rw [Int.natCast_mul] at h3
      exact pk_mid m _ _ (1075 + e).toNat _ e w f1 hq (by omega) he (clr52 m hlo hm) (by omega) (by omega) h3
abbrev RetX (r : Nat) (b : Bool) : Ending := .returned (.tuple #[.float .f64 r, .bool b])
set_option maxRecDepth 100000 in
set_option maxHeartbeats 1000000 in
theorem ex_hi (m : Nat) (e : Int) (w : World) (c1 : w.cell? ⟨11, 0, none⟩ = some (.int .u64 52)) (q0 : ((m : Int) / 4503599627370496 != 0) = true) :
    Calls Tryz.prog 179 #[.int .u64 m, .int .i64 e, .bool false] w fun e' w' => e' = RetX 0 false ∧ w = w' := by
  go_enter Tryz.func179, Tryz.ntmps179
  go_wp2
  go_ret2
  exact ⟨rfl, rfl⟩
set_option maxRecDepth 100000 in
set_option maxHeartbeats 1000000 in
theorem ex_eq0 (m F : Nat) (e : Int) (w : World) (c1 : w.cell? ⟨11, 0, none⟩ = some (.int .u64 52)) (q0 : ((m : Int) / 4503599627370496 != 0) = false)
    (hx : floatOfInt FloatKind.f64 (m : Int) = F) (q1 : (e == 0) = true) :
    Calls Tryz.prog 179 #[.int .u64 m, .int .i64 e, .bool false] w fun e' w' => e' = RetX F true ∧ w = w' := by
  go_enter Tryz.func179, Tryz.ntmps179
  go_wp2
  go_ret2
  exact ⟨rfl, rfl⟩
set_option maxRecDepth 100000 in
set_option maxHeartbeats 1000000 in
theorem ex_far (m F : Nat) (e : Int) (w : World) (c1 : w.cell? ⟨11, 0, none⟩ = some (.int .u64 52)) (q0 : ((m : Int) / 4503599627370496 != 0) = false)
    (hx : floatOfInt FloatKind.f64 (m : Int) = F) (q1 : (e == 0) = false) (he : 37 < e ∨ e < -22) :
    Calls Tryz.prog 179 #[.int .u64 m, .int .i64 e, .bool false] w fun e' w' => e' = RetX F false ∧ w = w' := by
  rcases he with he | he
  · have h0 : ¬ e < 0 := by omega
    go_enter Tryz.func179, Tryz.ntmps179
    go_wp2
    go_ret2
    exact ⟨rfl, rfl⟩
  · have h0 : ¬ 0 < e := by omega
    go_enter Tryz.func179, Tryz.ntmps179
    go_wp2
    go_ret2
    exact ⟨rfl, rfl⟩
set_option maxRecDepth 100000 in
set_option maxHeartbeats 1000000 in
theorem ex_lo_big (m F : Nat) (e : Int) (w : World) (c1 : w.cell? ⟨11, 0, none⟩ = some (.int .u64 52)) (q0 : ((m : Int) / 4503599627370496 != 0) = false)
    (hx : floatOfInt FloatKind.f64 (m : Int) = F) (q1 : (e == 0) = false) (he0 : 0 < e) (he : e ≤ 22) (o1 : FloatKind.f64.format.order F 4831355200913801216 = some .gt) :
    Calls Tryz.prog 179 #[.int .u64 m, .int .i64 e, .bool false] w fun e' w' => e' = RetX F false ∧ w = w' := by
  go_enter Tryz.func179, Tryz.ntmps179
  go_wp2
  go_ret2
  exact ⟨rfl, rfl⟩
set_option maxRecDepth 100000 in
set_option maxHeartbeats 1000000 in
theorem ex_lo (m F G V : Nat) (e : Nat) (ad : Addr) (cap : Nat) (w : World) (c1 : w.cell? ⟨11, 0, none⟩ = some (.int .u64 52)) (q0 : ((m : Int) / 4503599627370496 != 0) = false)
    (hx : floatOfInt FloatKind.f64 (m : Int) = F) (q1 : ((e : Int) == 0) = false) (he0 : 0 < e) (he : e ≤ 22) (o1 : FloatKind.f64.format.order F 4831355200913801216 = some .lt ∨ FloatKind.f64.format.order F 4831355200913801216 = some .eq)
    (o2 : FloatKind.f64.format.order F 14054727237768577024 = some .gt)
    (c2 : w.cell? ⟨14, 0, none⟩ = some (.slice (some ad) 23 cap)) (c3 : w.cell? (ad.add e) = some (.float .f64 G)) (hmul : floatBits .mul .f64 F G = some V) :
    Calls Tryz.prog 179 #[.int .u64 m, .int .i64 e, .bool false] w fun e' w' => e' = RetX V true ∧ w = w' := by
  have hrun := fun (w : World) (t : TypeId) => run_float_arith (P := Tryz.prog) w .mul t .f64 F G V hmul
  clear hmul
  rcases o1 with o1 | o1
  all_goals
    go_enter Tryz.func179, Tryz.ntmps179
    go_wp2
    go_ret2
    exact ⟨rfl, rfl⟩
set_option maxRecDepth 100000 in
set_option maxHeartbeats 1000000 in
theorem ex_neg (m F G V : Nat) (e : Nat) (ad : Addr) (cap : Nat) (w : World) (c1 : w.cell? ⟨11, 0, none⟩ = some (.int .u64 52)) (q0 : ((m : Int) / 4503599627370496 != 0) = false)
    (hx : floatOfInt FloatKind.f64 (m : Int) = F) (q1 : (-(e : Int) == 0) = false) (he0 : 0 < e) (he : e ≤ 22)
    (c2 : w.cell? ⟨14, 0, none⟩ = some (.slice (some ad) 23 cap)) (c3 : w.cell? (ad.add e) = some (.float .f64 G)) (hmul : floatBits .quo .f64 F G = some V) :
    Calls Tryz.prog 179 #[.int .u64 m, .int .i64 (-(e : Int)), .bool false] w fun e' w' => e' = RetX V true ∧ w = w' := by
  have hrun := fun (w : World) (t : TypeId) => run_float_arith (P := Tryz.prog) w .quo t .f64 F G V hmul
  clear hmul
  have h0 : ¬ (0 : Int) < -(e : Int) := by omega
  go_enter Tryz.func179, Tryz.ntmps179
  go_wp2

  go_ret2
  exact ⟨rfl, rfl⟩
set_option maxRecDepth 100000 in
set_option maxHeartbeats 1000000 in
theorem ex_up_big (m F F2 G : Nat) (e : Nat) (ad : Addr) (cap : Nat) (w : World) (c1 : w.cell? ⟨11, 0, none⟩ = some (.int .u64 52)) (q0 : ((m : Int) / 4503599627370496 != 0) = false)
    (hx : floatOfInt FloatKind.f64 (m : Int) = F) (q1 : ((e + 22 : Int) == 0) = false) (he0 : 0 < e) (he : e ≤ 15)
    (c2 : w.cell? ⟨14, 0, none⟩ = some (.slice (some ad) 23 cap)) (c3 : w.cell? (ad.add e) = some (.float .f64 G)) (hmul : floatBits .mul .f64 F G = some F2)
    (o1 : FloatKind.f64.format.order F2 4831355200913801216 = some .gt) :
    Calls Tryz.prog 179 #[.int .u64 m, .int .i64 ((e : Int) + 22), .bool false] w fun e' w' => e' = RetX F2 false ∧ w = w' := by
  have hrun := fun (w : World) (t : TypeId) => run_float_arith (P := Tryz.prog) w .mul t .f64 F G F2 hmul
  clear hmul
  have hs : (e : Int) + 22 - 22 = e := by omega
  go_enter Tryz.func179, Tryz.ntmps179
  go_wp2
  go_ret2
  exact ⟨rfl, rfl⟩
set_option maxRecDepth 100000 in
set_option maxHeartbeats 1000000 in
theorem ex_up (m F F2 G G2 V : Nat) (e : Nat) (ad : Addr) (cap : Nat) (w : World) (c1 : w.cell? ⟨11, 0, none⟩ = some (.int .u64 52)) (q0 : ((m : Int) / 4503599627370496 != 0) = false)
    (hx : floatOfInt FloatKind.f64 (m : Int) = F) (q1 : ((e + 22 : Int) == 0) = false) (he0 : 0 < e) (he : e ≤ 15)
    (c2 : w.cell? ⟨14, 0, none⟩ = some (.slice (some ad) 23 cap)) (c3 : w.cell? (ad.add e) = some (.float .f64 G)) (hmul : floatBits .mul .f64 F G = some F2)
    (o1 : FloatKind.f64.format.order F2 4831355200913801216 = some .lt ∨ FloatKind.f64.format.order F2 4831355200913801216 = some .eq)
    (o2 : FloatKind.f64.format.order F2 14054727237768577024 = some .gt)
    (c4 : w.cell? { block := ad.block, off := ad.off + 22 } = some (.float .f64 G2)) (hmul2 : floatBits .mul .f64 F2 G2 = some V) :
    Calls Tryz.prog 179 #[.int .u64 m, .int .i64 ((e : Int) + 22), .bool false] w fun e' w' => e' = RetX V true ∧ w = w' := by
  have hrun := fun (w : World) (t : TypeId) => run_float_arith (P := Tryz.prog) w .mul t .f64 F G F2 hmul
  have hrun2 := fun (w : World) (t : TypeId) => run_float_arith (P := Tryz.prog) w .mul t .f64 F2 G2 V hmul2
  clear hmul hmul2
  have hs : (e : Int) + 22 - 22 = e := by omega
  rcases o1 with o1 | o1
  all_goals
    go_enter Tryz.func179, Tryz.ntmps179
    go_wp2
    go_ret2
    exact ⟨rfl, rfl⟩

/-- Whether the exact way tells. -/
def exOk (m : Nat) (e : Int) : Bool :=
  decide (m < 4503599627370496) && (decide (e = 0) || (decide (0 < e ∧ e ≤ 37) && decide (exF m e.toNat ≤ 4831355200913801216)) || decide (e < 0 ∧ -22 ≤ e))
def ExPost (m : Nat) (e : Int) (w : World) (e' : Ending) (w' : World) : Prop :=
  ∃ X, e' = RetX X (exOk m e) ∧ (exOk m e = true → X = rq (m * tA e * KK) (tB e)) ∧ w = w'

structure PEnv (w : World) : Prop where
  env : Env w
  opt : w.cell? ⟨1, 0, none⟩ = some (.bool true)
  inf : w.cell? ⟨11, 0, none⟩ = some (.int .u64 52)
  p10 : ∃ ad cap, w.cell? ⟨14, 0, none⟩ = some (.slice (some ad) 23 cap) ∧ ∀ k, k < 23 → w.cell? (ad.add k) = some (.float .f64 (p10 k))
  slow : ∃ (B : Nat) (a1 a2 : Addr) (k1 k2 : Nat), B ≤ w.heap.size ∧ SEnv w B a1 a2 k1 k2
  rng : ∃ ev, w.cell? ⟨6, 0, none⟩ = some ev ∧ (ev = .nilIface ∨ ∃ te pe, ev = .iface te pe)

theorem SEnv.keep {w w' : World} {B : Nat} {a1 a2 : Addr} {k1 k2 : Nat} (h : SEnv w B a1 a2 k1 k2) (hk : ∀ p : Addr, p.block < B → w'.cell? p = w.cell? p) : SEnv w' B a1 a2 k1 k2 :=
  ⟨h.lc.keep hk, h.pt.keep hk, h.fi.keep hk⟩
theorem cell_lt {w : World} {p : Addr} {v : Value} (h : w.cell? p = some v) : p.block < w.heap.size := by
  rcases Nat.lt_or_ge p.block w.heap.size with h1 | h1
  · exact h1
  · unfold World.cell? at h
    rw [Array.getElem?_eq_none h1] at h
    simp at h
theorem PEnv.below {w w' : World} {B : Nat} (h : PEnv w) (hb : Below B w w') (hB : w.heap.size ≤ B) : PEnv w' := by
  obtain ⟨ad, cap, h1, h2⟩ := h.p10
  refine ⟨h.env.below hb hB, (hb.cell (p := ⟨_, 0, none⟩) (Nat.lt_of_lt_of_le (cell_lt h.opt) hB)).trans h.opt, (hb.cell (p := ⟨_, 0, none⟩) (Nat.lt_of_lt_of_le (cell_lt h.inf) hB)).trans h.inf,
    ⟨ad, cap, (hb.cell (p := ⟨_, 0, none⟩) (Nat.lt_of_lt_of_le (cell_lt h1) hB)).trans h1, fun k hk => (hb.cell (Nat.lt_of_lt_of_le (cell_lt (h2 k hk)) hB)).trans (h2 k hk)⟩, ?_, ?_⟩
  rotate_left
  · obtain ⟨ev, h3, h4⟩ := h.rng
    exact ⟨ev, (hb.cell (p := ⟨_, 0, none⟩) (Nat.lt_of_lt_of_le (cell_lt h3) hB)).trans h3, h4⟩
  obtain ⟨B0, a1, a2, k1, k2, h3, h4⟩ := h.slow
  exact ⟨B0, a1, a2, k1, k2, Nat.le_trans h3 hb.size, h4.keep fun p hp => hb.cell (by omega)⟩
theorem PEnv.drewN {w : World} (h : PEnv w) (n : Nat) : PEnv (w.drewN n) := h.below (below_drewN (Below.refl _ _) n) (Nat.le_refl _)
theorem PEnv.alloc {w : World} (h : PEnv w) (o : Obj) : PEnv (w.alloc o) := h.below ((Below.refl _ _).alloc (Nat.le_refl _) o) (Nat.le_refl _)

theorem fI_of (m : Nat) : floatOfInt FloatKind.f64 (m : Int) = fI m := (nearest_int (m : Int)).trans (ofI_fI m)

theorem exact_any (m : Nat) (e : Int) (w : World) (hp : PEnv w) :
    Calls Tryz.prog 179 #[.int .u64 m, .int .i64 e, .bool false] w (ExPost m e w) := by
  obtain ⟨ad, cap, c2, c3⟩ := hp.p10
  have c1 := hp.inf
  have hx := fI_of m
  by_cases hm : m < 4503599627370496
  · have q0 : ((m : Int) / 4503599627370496 != 0) = false := by rw [bne_eq_false_iff_eq]; omega
    have hd : decide (m < 4503599627370496) = true := decide_eq_true hm
    have hle : fI m ≤ FloM.cap := fI_le m
    by_cases h0 : e = 0
    · have q1 : (e == 0) = true := by rw [beq_iff_eq]; exact h0
      have hok : exOk m e = true := by unfold exOk; rw [hd, decide_eq_true h0]; rfl
      refine (ex_eq0 m _ e w c1 q0 hx q1).mono ?_
      rintro e' w' ⟨rfl, rfl⟩
      exact ⟨_, by rw [hok], fun _ => by rw [h0]; exact FloM.ex_zero m, rfl⟩
    · have q1 : (e == 0) = false := by rw [beq_eq_false_iff_ne]; exact h0
      by_cases hpos : 0 < e
      · by_cases h37 : e ≤ 37
        · obtain ⟨n, rfl⟩ : ∃ n : Nat, e = n := ⟨e.toNat, by omega⟩
          have hF : exF m n ≤ FloM.cap := by unfold exF; split <;> exact fI_le _
          have ho : exOk m n = decide (exF m n ≤ 4831355200913801216) := by
            unfold exOk
            rw [hd, decide_eq_false h0, decide_eq_true (And.intro hpos h37), decide_eq_false (show ¬ ((n : Int) < 0 ∧ -22 ≤ (n : Int)) by omega), Int.toNat_natCast]
            simp
          have hor := ord_pos hF (b := 4831355200913801216) (by decide)
          have hng := ord_neg hF
          have hor2 : exF m n ≤ 4831355200913801216 → (FloatKind.f64.format.order (exF m n) 4831355200913801216 = some .lt ∨ FloatKind.f64.format.order (exF m n) 4831355200913801216 = some .eq) := by
            intro h
            rw [dbl, hor]
            rcases Nat.lt_or_ge (exF m n) 4831355200913801216 with h1 | h1
            · exact .inl (congrArg some (Int.compare_eq_lt.2 (by omega)))
            · exact .inr (congrArg some (Int.compare_eq_eq.2 (by omega)))
          by_cases hf : exF m n ≤ 4831355200913801216
          · rw [decide_eq_true hf] at ho
            have hp := ex_pos hm (by omega) (by omega) hf
            by_cases h22 : n ≤ 22
            · have e1 : exF m n = fI m := if_neg (by omega)
              rw [if_neg (show ¬ 22 < n by omega)] at hp
              rw [e1] at hp hor2 hng
              refine (ex_lo m _ _ _ n ad cap w c1 q0 hx q1 (by omega) h22 (hor2 (by rw [← e1]; exact hf)) hng c2 (c3 n (by omega)) hp).mono ?_
              rintro e' w' ⟨rfl, rfl⟩
              exact ⟨_, by rw [ho], fun _ => rfl, rfl⟩
            · obtain ⟨k, rfl⟩ : ∃ k, n = k + 22 := ⟨n - 22, by omega⟩
              have e1 : exF m (k + 22) = fI (m * 10 ^ k) := by unfold exF; rw [if_pos (by omega), Nat.add_sub_cancel]
              rw [if_pos (show 22 < k + 22 by omega)] at hp
              rw [e1] at hp hor2 hng hf
              refine (ex_up m _ _ _ _ _ k ad cap w c1 q0 hx q1 (by omega) (by omega) c2 (c3 k (by omega)) (ex_mul (by omega) (by omega)) (hor2 hf) hng (c3 22 (by decide)) hp).mono ?_
              rintro e' w' ⟨rfl, rfl⟩
              exact ⟨_, by rw [ho], fun _ => rfl, rfl⟩
          · rw [decide_eq_false hf] at ho
            have hgt : FloatKind.f64.format.order (exF m n) 4831355200913801216 = some .gt := by
              rw [dbl, hor]
              exact congrArg some (Int.compare_eq_gt.2 (by omega))
            by_cases h22 : n ≤ 22
            · have e1 : exF m n = fI m := if_neg (by omega)
              rw [e1] at hgt
              refine (ex_lo_big m _ n w c1 q0 hx q1 (by omega) (by omega) hgt).mono ?_
              rintro e' w' ⟨rfl, rfl⟩
              exact ⟨_, by rw [ho], (fun h => by rw [ho] at h; cases h), rfl⟩
            · obtain ⟨k, rfl⟩ : ∃ k, n = k + 22 := ⟨n - 22, by omega⟩
              have e1 : exF m (k + 22) = fI (m * 10 ^ k) := by unfold exF; rw [if_pos (by omega), Nat.add_sub_cancel]
              rw [e1] at hgt
              refine (ex_up_big m _ _ _ k ad cap w c1 q0 hx q1 (by omega) (by omega) c2 (c3 k (by omega)) (ex_mul (by omega) (by omega)) hgt).mono ?_
              rintro e' w' ⟨rfl, rfl⟩
              exact ⟨_, by rw [ho], (fun h => by rw [ho] at h; cases h), rfl⟩
        · have ho : exOk m e = false := by
            unfold exOk
            rw [hd, decide_eq_false h0, decide_eq_false (show ¬ (0 < e ∧ e ≤ 37) by omega), decide_eq_false (show ¬ (e < 0 ∧ -22 ≤ e) by omega)]
            simp
          refine (ex_far m _ e w c1 q0 hx q1 (.inl (by omega))).mono ?_
          rintro e' w' ⟨rfl, rfl⟩
          exact ⟨_, by rw [ho], (fun h => by rw [ho] at h; cases h), rfl⟩
      · by_cases h22 : -22 ≤ e
        · obtain ⟨n, rfl⟩ : ∃ n : Nat, e = -(n : Int) := ⟨(-e).toNat, by omega⟩
          have ho : exOk m (-(n : Int)) = true := by
            unfold exOk
            rw [hd, decide_eq_true (show (-(n : Int) < 0 ∧ -22 ≤ -(n : Int)) by omega)]
            simp
          refine (ex_neg m _ _ _ n ad cap w c1 q0 hx q1 (by omega) (by omega) c2 (c3 n (by omega)) (FloM.ex_neg hm (by omega))).mono ?_
          rintro e' w' ⟨rfl, rfl⟩
          exact ⟨_, by rw [ho], fun _ => rfl, rfl⟩
        · have ho : exOk m e = false := by
            unfold exOk
            rw [hd, decide_eq_false h0, decide_eq_false (show ¬ (0 < e ∧ e ≤ 37) by omega), decide_eq_false (show ¬ (e < 0 ∧ -22 ≤ e) by omega)]
            simp
          refine (ex_far m _ e w c1 q0 hx q1 (.inr (by omega))).mono ?_
          rintro e' w' ⟨rfl, rfl⟩
          exact ⟨_, by rw [ho], (fun h => by rw [ho] at h; cases h), rfl⟩
  · have q0 : ((m : Int) / 4503599627370496 != 0) = true := by rw [bne_iff_ne]; omega
    have ho : exOk m e = false := by unfold exOk; rw [decide_eq_false hm]; rfl
    refine (ex_hi m e w c1 q0).mono ?_
    rintro e' w' ⟨rfl, rfl⟩
    exact ⟨_, by rw [ho], (fun h => by rw [ho] at h; cases h), rfl⟩
end Go.Proofs.YtijncfidjjfmiaaGreatDoor

namespace Go.Proofs.YtijncfidjjfmiaaGreatDoor
open Go.RowKit FloM

@[go_sem] theorem extFrom0 (w : World) : (callFunc 178 #[.int .u64 0]).run Tryz.prog w = .ok (.value (.float .f64 0)) w := extFrom2 0 w

set_option maxRecDepth 100000 in
set_option maxHeartbeats 400000 in
theorem bool2_int (b : Bool) (w : World) : Calls Tryz.prog 148 #[.bool b] w fun e w' => e = .returned (.int .i64 (b2 b : Nat)) ∧ w = w' := by
  cases b
  · go_enter Tryz.func148, Tryz.ntmps148
    go_wp2
    go_ret
    exact ⟨rfl, rfl⟩
  · go_enter Tryz.func148, Tryz.ntmps148
    go_wp2
    go_ret
    exact ⟨rfl, rfl⟩
set_option maxRecDepth 100000 in
set_option maxHeartbeats 400000 in
theorem unmin_53 (w : World) : Calls Tryz.prog 149 #[.int .u64 9007199254740992] w fun e w' => e = .returned (.int .u64 36028797018963966) ∧ w = w' := by
  go_enter Tryz.func149, Tryz.ntmps149
  go_wp2
  go_ret
  exact ⟨rfl, rfl⟩

set_option maxRecDepth 100000 in
set_option maxHeartbeats 1600000 in
theorem p64_zero (d b i : Nat) (p lp E : Int) (w : World) (hd : d < 18446744073709551616) (hb : 1 ≤ b ∧ b ≤ 64) (hbl : Hid (Lib.bitLen d = b)) (hlp : -1200 ≤ lp ∧ lp ≤ 1200) (hp : -345 ≤ p ∧ p ≤ 310)
    (hE : min 1074 (53 - (b : Int) - lp) = E) (hi : (i : Int) = 348 + p) (s : Nat) (hs : (s : Int) = 61 - (b : Int) - lp - E) (hs2 : 64 ≤ s ∧ s ≤ 5000) (hlpe : Hid (l2p10 p = lp)) (ht : PowTab w) :
    Calls Tryz.prog 180 #[.int .u64 d, .int .i64 p, .int .u64 0] w fun e w' => e = Ret2 0 .nilIface ∧ Below w.heap.size w w' := by
  have hEb : -1300 ≤ E ∧ E ≤ 1074 := by omega
  have c1 := Lib.hid (fun w => len64_any d b w hd hbl.out)
  have c2 := Lib.hid (fun w => l2_any p w (by omega))
  rw [hlpe.out] at c2
  have hi6 : i < 696 := by omega
  have htab : PowTab (w.alloc (.cells #[.int .u64 0, .int .u64 0, .int .i64 0] 173)) := ht.below ((Below.refl _ _).alloc (Nat.le_refl _) _) (Nat.le_refl _)
  have hpre := Lib.hid (fun (w : World) b' v0 v1 v2 hb (htab : PowTab w) => pre_any (E - (64 - (b : Int))) p lp b' w v0 v1 v2 hb i (by omega) hi6 (pw i).1 (pw i).2 s (htab.2 i hi6).1 (htab.2 i hi6).2 (by omega) (by omega) (by omega))
  generalize (pw i).1 = hi1 at *
  generalize (pw i).2 = lo1 at *
  have hT := Lib.hid htab
  have o1 : bits .or .u64 0 0 = ((0 : Nat) : Int) := by decide
  clear ht htab hs hi hbl hlpe
  go_enter Tryz.func180, Tryz.ntmps180
  go_wp2_with fail
  refine (c1.out _).mono ?_
  rintro e w1 ⟨rfl, rfl⟩
  go_wp2_with fail
  refine (c2.out _).mono ?_
  rintro e w1 ⟨rfl, rfl⟩
  go_wp2_with fail
  refine (hpre.out _ _ _ _ _ (Blk.new _ _ _) hT.out).mono ?_
  rintro e w1 ⟨rfl, hb', hg⟩
  have HF := Lib.hid (fun n => short_frame w w1 _ hg n)
  have k2 : w1.cell? ⟨w.heap.size, 2, none⟩ = some (.int .i64 s) := hb'.cell 2
  clear hb' hg
  go_wp2_with fail
  go_ret2
  exact ⟨rfl, HF.out 0⟩

/-- One digit less, where it rounds to 2^53. -/
def shB (U : Nat) : Nat := b2 (decide ((36028797018963966 : Int) ≤ (U : Int)))
def U2 (U : Nat) : Nat := if 36028797018963966 ≤ U then U / 2 ||| U % 2 else U
theorem u2_eq (U : Nat) (hU : U < 18446744073709551616) : bits .or .u64 ((U : Int) / 2 ^ min (b2 (decide ((36028797018963966 : Int) ≤ (U : Int)))) 64) (bits .and .u64 (U : Int) 1) = (U2 U : Nat) := by
  rw [and1 U hU]
  unfold U2
  by_cases h : 36028797018963966 ≤ U
  · rw [decide_eq_true (by omega), if_pos h]
    have := u64_or_nat (U / 2) (U % 2) (by omega) (by omega)
    rw [← this]
    rfl
  · rw [decide_eq_false (by omega), if_neg h]
    have h2 := u64_or_nat U (U % 2) hU (by omega)
    have h3 : U ||| U % 2 = U := by
      rcases Nat.mod_two_eq_zero_or_one U with h0 | h0
      · rw [h0, Nat.or_zero]
      · rw [h0, or_one]; omega
    rw [h3] at h2
    have e : (U : Int) / 2 ^ min (b2 false) 64 = U := by
      show (U : Int) / 1 = U
      omega
    rw [e, h2]
def P64 (U : Nat) (E : Int) (e : Ending) : Prop := e = Ret2 (packF (uround (U2 U)) (-(E - (shB U : Nat)))) (perr (packB (uround (U2 U)) (-(E - (shB U : Nat)))))
def Post64 (U : Nat) (E : Int) (w : World) (e : Ending) (w' : World) : Prop := P64 U E e ∧ Below w.heap.size w w'
theorem or0 (m : Nat) (hm : m < 18446744073709551616) : bits .or .u64 0 (m : Int) = (m : Int) := by
  have h := u64_or_nat 0 m (by decide) hm
  rw [Nat.zero_or] at h
  exact h

set_option maxRecDepth 100000 in
set_option maxHeartbeats 1600000 in
theorem p64_some (d b i : Nat) (p lp E : Int) (w : World) (hd : d < 18446744073709551616) (hb : 1 ≤ b ∧ b ≤ 64) (hbl : Hid (Lib.bitLen d = b)) (hlp : -1200 ≤ lp ∧ lp ≤ 1200) (hp : -345 ≤ p ∧ p ≤ 310)
    (hE : min 1074 (53 - (b : Int) - lp) = E) (hi : (i : Int) = 348 + p) (s : Nat) (hs : (s : Int) = 61 - (b : Int) - lp - E) (hs2 : s < 64) (hlpe : Hid (l2p10 p = lp)) (hXn : d * 2 ^ (64 - b) < 18446744073709551616)
    (hu : Hid (usc (d * 2 ^ (64 - b)) (pw i).1 (pw i).2 s < 72057594037927936 ∧ uround (U2 (usc (d * 2 ^ (64 - b)) (pw i).1 (pw i).2 s)) < 9007199254740992)) (ht : PowTab w) :
    Calls Tryz.prog 180 #[.int .u64 d, .int .i64 p, .int .u64 0] w (Post64 (usc (d * 2 ^ (64 - b)) (pw i).1 (pw i).2 s) E w) := by
  have hEb : -1300 ≤ E ∧ E ≤ 1074 := by omega
  have c1 := Lib.hid (fun w => len64_any d b w hd hbl.out)
  have c2 := Lib.hid (fun w => l2_any p w (by omega))
  rw [hlpe.out] at c2
  have hi6 : i < 696 := by omega
  have htab : PowTab (w.alloc (.cells #[.int .u64 0, .int .u64 0, .int .i64 0] 173)) := ht.below ((Below.refl _ _).alloc (Nat.le_refl _) _) (Nat.le_refl _)
  have HX := Lib.hid (show IntKind.u64.wrap ((d : Int) * 2 ^ (64 - b)) = ((d * 2 ^ (64 - b) : Nat) : Int) by
    rw [IntKind.wrap_u64, Int.natCast_mul, Int.natCast_pow]
    have : ((d * 2 ^ (64 - b) : Nat) : Int) = (d : Int) * 2 ^ (64 - b) := by rw [Int.natCast_mul, Int.natCast_pow]; rfl
    generalize (d : Int) * 2 ^ (64 - b) = x at *
    show x % 18446744073709551616 = _
    omega)
  obtain ⟨hh1, hh2⟩ := pw_lt i
  have hpre := Lib.hid (fun (w : World) b' v0 v1 v2 hb (htab : PowTab w) => pre_any (E - (64 - (b : Int))) p lp b' w v0 v1 v2 hb i (by omega) hi6 (pw i).1 (pw i).2 s (htab.2 i hi6).1 (htab.2 i hi6).2 (by omega) (by omega) (by omega))
  generalize (pw i).1 = hi1 at *
  generalize (pw i).2 = lo1 at *
  have hT := Lib.hid htab
  clear ht htab hs hi hbl hlpe
  go_enter Tryz.func180, Tryz.ntmps180
  go_wp2_with fail
  refine (c1.out _).mono ?_
  rintro e w1 ⟨rfl, rfl⟩
  go_wp2_with fail
  refine (c2.out _).mono ?_
  rintro e w1 ⟨rfl, rfl⟩
  go_wp2_with fail
  refine (hpre.out _ _ _ _ _ (Blk.new _ _ _) hT.out).mono ?_
  rintro e w1 ⟨rfl, hb', hg⟩
  have HF := Lib.hid (fun n => short_frame w w1 _ hg n)
  have HB := Lib.hid hb'
  have k2 : w1.cell? ⟨w.heap.size, 2, none⟩ = some (.int .i64 s) := hb'.cell 2
  clear hb' hg
  go_wp2_with fail
  refine (usc_int _ (d * 2 ^ (64 - b)) hi1 lo1 s _ _ HB.out hs2 HX.out hXn hh1 hh2).mono ?_
  rintro e w2 ⟨rfl, n2, rfl⟩
  obtain ⟨h56, hm53⟩ := hu.out
  generalize usc (d * 2 ^ (64 - b)) hi1 lo1 s = U at *
  have hU2 : U2 U < 18446744073709551616 := by
    unfold U2
    split
    · exact Nat.or_lt_two_pow (n := 64) (by omega) (by omega)
    · omega
  go_wp2_with (first
    | (go_at_call 149; refine (unmin_53 _).mono ?_; rintro e w3 ⟨rfl, rfl⟩)
    | (go_at_call 148; refine (bool2_int _ _).mono ?_; rintro e w3 ⟨rfl, rfl⟩))
  rw [u2_eq U (by omega)]
  refine (round_u (U2 U) (by rw [M64_eq]; exact hU2) _).mono ?_
  rintro e w3 ⟨rfl, rfl⟩
  have HM : Hid (uround (U2 U) = uround (U2 U)) := rfl
  generalize hmm : uround (U2 U) = m at *
  have HMM := Lib.hid hmm
  clear hmm HM
  go_wp2_with fail
  have hsh := b2_le (decide ((36028797018963966 : Int) ≤ (U : Int)))
  rw [or0 m (by omega), IntWalk.wrap64_in (E - (b2 (decide ((36028797018963966 : Int) ≤ (U : Int))) : Nat)) (by omega), IntWalk.wrap64_in _ (by omega)]
  refine (pk_any m _ hm53 (by omega) _).mono ?_
  rintro e w3 ⟨rfl, rfl⟩
  have HPP := Lib.hid (show P64 U E (Ret2 (packF m (-(E - (b2 (decide ((36028797018963966 : Int) ≤ (U : Int))) : Nat)))) (perr (packB m (-(E - (b2 (decide ((36028797018963966 : Int) ≤ (U : Int))) : Nat)))))) by rw [← HMM.out]; rfl)
  generalize packF m (-(E - (b2 (decide ((36028797018963966 : Int) ≤ (U : Int))) : Nat))) = R1 at *
  generalize perr (packB m (-(E - (b2 (decide ((36028797018963966 : Int) ≤ (U : Int))) : Nat)))) = R2 at *
  go_wp2_with fail
  go_ret2
  exact ⟨HPP.out, HF.out _⟩
end Go.Proofs.YtijncfidjjfmiaaGreatDoor
