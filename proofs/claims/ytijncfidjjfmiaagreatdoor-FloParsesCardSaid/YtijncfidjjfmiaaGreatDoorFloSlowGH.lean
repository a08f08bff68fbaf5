/- Walks of the library's shouldRoundUp and RoundedInteger. The slow decimal: what stands from shift to shift. -/
import Derived.Test.YtijncfidjjfmiaaGreatDoorFloSlowDF
namespace Go.Proofs.YtijncfidjjfmiaaGreatDoor
open Go.RowKit FloM

theorem n_true' {a b : Int} (h : a ≠ b) : (a != b) = true := by unfold bne; rw [beq_eq_false_iff_ne.2 h]; rfl
theorem n_false' {a b : Int} (h : a = b) : (a != b) = false := by unfold bne; rw [beq_iff_eq.2 h]; rfl
theorem upB_neg {g : Nat → Nat} {nd : Nat} {dp : Int} {tr : Bool} (h : dp < 0 ∨ (nd : Int) ≤ dp) : upB g nd dp tr = false := if_pos h
theorem upB_at {g : Nat → Nat} {nd p : Nat} {tr : Bool} (h : p < nd) : upB g nd (p : Int) tr = if g p = 53 ∧ p + 1 = nd then (tr || (decide (0 < p) && decide ((g (p - 1) - 48) % 2 = 1))) else decide (53 ≤ g p) := by
  unfold upB
  rw [if_neg (by omega), Int.toNat_natCast]
  simp

set_option maxRecDepth 100000 in
set_option maxHeartbeats 1000000 in
theorem sru_any (b : Nat) (g : Nat → Nat) (nd : Nat) (dp : Int) (tr : Bool) (hok : Dok g nd) (w : World) (hD : Dc w b g nd dp tr) (hd1 : -1000 ≤ dp) (hd2 : dp ≤ 1000) :
    Calls Tryz.prog 154 #[.pointer (some ⟨b, 0, none⟩), .int .i64 dp] w fun e w' => e = .returned (.bool (upB g nd dp tr)) ∧ w = w' := by
  have c1 := hD.nd_
  have c2 := hD.tr_
  have hn := hok.le
  rcases Int.lt_or_le dp 0 with hneg | hpos
  · rw [upB_neg (.inl hneg)]
    clear hok hD
    go_enter Tryz.func154, Tryz.ntmps154
    go_wp2_with fail
    go_ret
    exact ⟨rfl, rfl⟩
  · obtain ⟨p, rfl⟩ : ∃ p : Nat, dp = (p : Int) := ⟨dp.toNat, by omega⟩
    rcases Nat.lt_or_ge p nd with hp | hp
    · rw [upB_at hp]
      have c3 := hD.dig (i := p) (by omega)
      obtain ⟨d1, d2⟩ := hok.dig p hp
      by_cases h5 : g p = 53
      · have q5 : ((g p : Int) == 53) = true := beq_iff_eq.2 (by omega)
        by_cases h6 : p + 1 = nd
        · rw [if_pos ⟨h5, h6⟩]
          cases tr
          · rcases Nat.eq_zero_or_pos p with h0 | h0
            · subst h0
              clear hok hD
              subst h6
              go_enter Tryz.func154, Tryz.ntmps154
              go_wp2_with fail
              go_ret
              exact ⟨rfl, rfl⟩
            · obtain ⟨m, rfl⟩ : ∃ m, p = m + 1 := ⟨p - 1, by omega⟩
              have c4 := hD.dig (i := m) (by omega)
              obtain ⟨d3, d4⟩ := hok.dig m (by omega)
              have e1 : (false || (decide (0 < m + 1) && decide ((g (m + 1 - 1) - 48) % 2 = 1))) = decide ((g m - 48) % 2 = 1) := by
                rw [Bool.false_or, decide_eq_true (Nat.succ_pos m), Bool.true_and, Nat.add_sub_cancel]
              rw [e1]
              have HQ := Lib.hid (show ((((g m : Int) - 48) % 2) != 0) = decide ((g m - 48) % 2 = 1) by
                rcases Nat.mod_two_eq_zero_or_one (g m - 48) with h | h
                · rw [h, n_false' (by omega)]; rfl
                · rw [h, n_true' (by omega)]; rfl)
              generalize decide ((g m - 48) % 2 = 1) = X at *
              clear hok hD
              subst h6
              go_enter Tryz.func154, Tryz.ntmps154
              go_wp2_with fail
              go_ret
              exact ⟨by rw [HQ.out]; rfl, rfl⟩
          · rw [Bool.true_or]
            clear hok hD
            subst h6
            go_enter Tryz.func154, Tryz.ntmps154
            go_wp2_with fail
            go_ret
            exact ⟨rfl, rfl⟩
        · rw [if_neg (fun h => h6 h.2), decide_eq_true (by omega)]
          have q6 : ((p : Int) + 1 == (nd : Int)) = false := beq_eq_false_iff_ne.2 (by omega)
          clear hok hD
          go_enter Tryz.func154, Tryz.ntmps154
          go_wp2_with fail
          go_ret
          exact ⟨rfl, rfl⟩
      · have q5 : ((g p : Int) == 53) = false := beq_eq_false_iff_ne.2 (by omega)
        rw [if_neg (fun h => h5 h.1)]
        have HQ := Lib.hid (show decide ((53 : Int) ≤ (g p : Int)) = decide (53 ≤ g p) from decide_eq_decide.2 (by omega))
        generalize decide (53 ≤ g p) = X at *
        clear hok hD
        go_enter Tryz.func154, Tryz.ntmps154
        go_wp2_with fail
        go_ret
        exact ⟨by rw [HQ.out]; rfl, rfl⟩
    · rw [upB_neg (.inr (by omega))]
      clear hok hD
      go_enter Tryz.func154, Tryz.ntmps154
      go_wp2_with fail
      go_ret
      exact ⟨rfl, rfl⟩
theorem rI_neg {g : Nat → Nat} {nd : Nat} : rI g nd 0 = 0 := by
  unfold rI
  rw [Nat.min_eq_left (Nat.zero_le _)]
  show 0 * _ = 0
  omega

set_option maxRecDepth 100000 in
set_option maxHeartbeats 1000000 in
theorem rint_any (b : Nat) (g : Nat → Nat) (nd : Nat) (dp : Int) (tr : Bool) (hok : Dok g nd) (w : World) (hD : Dc w b g nd dp tr) (hd1 : -1000 ≤ dp) (hd2 : dp ≤ 17) :
    Calls Tryz.prog 187 #[.pointer (some ⟨b, 0, none⟩)] w fun e w' => e = .returned (.int .u64 ((rI g nd dp.toNat + (upB g nd dp tr).toNat : Nat) : Int)) ∧ w = w' := by
  have c1 := hD.nd_
  have c2 := hD.dp_
  have hn := hok.le
  have HS := Lib.hid (sru_any b g nd dp tr hok w hD hd1 (by omega))
  have HD := Lib.hid hD
  have HOK := Lib.hid hok
  rcases Int.lt_or_le dp 0 with hneg | hpos
  · rw [upB_neg (.inl hneg)] at HS ⊢
    rw [show dp.toNat = 0 by omega, rI_neg]
    clear hok hD HOK
    go_enter Tryz.func187, Tryz.ntmps187
    go_wp2_with fail
    go_loopg [3, 4] 0 (fun gk iv nv wr => iv = .int .i64 0 ∧ nv = .int .u64 0 ∧ wr = w)
    case atStart => exact ⟨rfl, rfl, rfl⟩
    case round =>
      obtain ⟨rfl, rfl, rfl⟩ := hrel
      go_wp2_with fail
      go_loopg [3, 4] 0 (fun gk iv nv wr' => iv = .int .i64 0 ∧ nv = .int .u64 0 ∧ wr' = wr)
      case atStart => exact ⟨rfl, rfl, rfl⟩
      case round =>
        obtain ⟨rfl, rfl, rfl⟩ := hrel
        go_wp2_with ((go_at_call 154; ((with_reducible refine (HS.out).mono ?_); rintro e w' ⟨rfl, rfl⟩)))
        go_ret
        exact ⟨rfl, rfl⟩
  · obtain ⟨p, rfl⟩ : ∃ p : Nat, dp = (p : Int) := ⟨dp.toNat, by omega⟩
    rw [Int.toNat_natCast]
    have hp17 : p ≤ 17 := by omega
    generalize hup : upB g nd p tr = up at *
    have HR := Lib.hid (show rI g nd p = pre g (min p nd) * 10 ^ (p - min p nd) from rfl)
    generalize rI g nd p = R at *
    clear hok hD hup
    go_enter Tryz.func187, Tryz.ntmps187
    go_wp2_with fail
    go_loopg [3, 4] p (fun gk iv nv wr => wr = w ∧ ∃ i n : Nat, i + gk = p ∧ i ≤ nd ∧ iv = .int .i64 i ∧ nv = .int .u64 n ∧ n < 100000000000000000 ∧ Hid (n = pre g i))
    case atStart => exact ⟨rfl, 0, 0, by omega, by omega, rfl, rfl, by decide, rfl⟩
    case round =>
      obtain ⟨rfl, i, n, hi, hind, rfl, rfl, hn0, HN⟩ := hrel
      by_cases hip : i < p
      · have q1 : decide ((i : Int) < (p : Int)) = true := decide_eq_true (by omega)
        by_cases hin : i < nd
        · have q2 : decide ((i : Int) < (nd : Int)) = true := decide_eq_true (by omega)
          have c3 := HD.out.dig (i := i) (by omega)
          obtain ⟨d1, d2⟩ := HOK.out.dig i hin
          have HN2 := Lib.hid (show n * 10 + (g i - 48) = pre g (i + 1) by rw [HN.out]; rfl)
          have hn1 : n * 10 + (g i - 48) < 100000000000000000 := by
            rw [HN2.out]
            exact Nat.lt_of_lt_of_le (pre_lt (fun j hj => HOK.out.dig j (by omega))) (Nat.le_trans (Nat.pow_le_pow_right (by decide) (show i + 1 ≤ 17 by omega)) (by decide))
          go_wp2_with fail
          go_roundg (gk - 1)
          case rel => exact ⟨rfl, i + 1, n * 10 + (g i - 48), by omega, by omega, by go_num, by go_num, hn1, HN2⟩
          case measure => omega
        · have q2 : decide ((i : Int) < (nd : Int)) = false := decide_eq_false (by omega)
          go_wp2_with fail
          go_loopg [3, 4] gk (fun gj iv nv wr' => wr' = wr ∧ ∃ a n' : Nat, i + a + gj = p ∧ iv = .int .i64 ((i : Int) + (a : Int)) ∧ nv = .int .u64 n' ∧ n' < 100000000000000000 ∧ Hid (n' = pre g i * 10 ^ a))
          case atStart => exact ⟨rfl, 0, n, by omega, by go_num, rfl, hn0, Lib.hid (by rw [HN.out, Nat.pow_zero, Nat.mul_one])⟩
          case round =>
            obtain ⟨rfl, a, m, ha, rfl, rfl, hm0, HM⟩ := hrel
            by_cases hap : i + a < p
            · have q3 : decide ((i : Int) + (a : Int) < (p : Int)) = true := decide_eq_true (by omega)
              have HM2 := Lib.hid (show m * 10 = pre g i * 10 ^ (a + 1) by rw [HM.out, Nat.pow_succ, Nat.mul_assoc])
              have hm1 : m * 10 < 100000000000000000 := by
                rw [HM2.out]
                have k1 := pre_lt (n := i) (fun j hj => HOK.out.dig j (by omega))
                refine Nat.lt_of_lt_of_le (Nat.mul_lt_mul_of_pos_right k1 (Nat.pow_pos (by decide))) ?_
                rw [← Nat.pow_add]
                exact Nat.le_trans (Nat.pow_le_pow_right (by decide) (show i + (a + 1) ≤ 17 by omega)) (by decide)
              go_wp2_with fail
              go_roundg (gk - 1)
              case rel => exact ⟨rfl, a + 1, m * 10, by omega, by go_num, by go_num, hm1, HM2⟩
              case measure => omega
            · have q3 : decide ((i : Int) + (a : Int) < (p : Int)) = false := decide_eq_false (by omega)
              have hmin : min p nd = i := by omega
              have HRn := Lib.hid (show R = m by rw [HR.out, HM.out, hmin, show p - i = a by omega])
              cases up
              · go_wp2_with ((go_at_call 154; ((with_reducible refine (HS.out).mono ?_); rintro e w' ⟨rfl, rfl⟩)))
                go_ret
                exact ⟨by rw [HRn.out]; rfl, rfl⟩
              · go_wp2_with ((go_at_call 154; ((with_reducible refine (HS.out).mono ?_); rintro e w' ⟨rfl, rfl⟩)))
                go_ret
                exact ⟨by rw [HRn.out]; rfl, rfl⟩
      · have q1 : decide ((i : Int) < (p : Int)) = false := decide_eq_false (by omega)
        go_wp2_with fail
        go_loopg [3, 4] gk (fun gj iv nv wr' => wr' = wr ∧ ∃ a n' : Nat, i + a + gj = p ∧ iv = .int .i64 ((i : Int) + (a : Int)) ∧ nv = .int .u64 n' ∧ n' < 100000000000000000 ∧ Hid (n' = pre g i * 10 ^ a))
        case atStart => exact ⟨rfl, 0, n, by omega, by go_num, rfl, hn0, Lib.hid (by rw [HN.out, Nat.pow_zero, Nat.mul_one])⟩
        case round =>
          obtain ⟨rfl, a, m, ha, rfl, rfl, hm0, HM⟩ := hrel
          by_cases hap : i + a < p
          · exact absurd hap (by omega)
          · have q3 : decide ((i : Int) + (a : Int) < (p : Int)) = false := decide_eq_false (by omega)
            have hmin : min p nd = i := by omega
            have HRn := Lib.hid (show R = m by rw [HR.out, HM.out, hmin, show p - i = a by omega])
            cases up
            · go_wp2_with ((go_at_call 154; ((with_reducible refine (HS.out).mono ?_); rintro e w' ⟨rfl, rfl⟩)))
              go_ret
              exact ⟨by rw [HRn.out]; rfl, rfl⟩
            · go_wp2_with ((go_at_call 154; ((with_reducible refine (HS.out).mono ?_); rintro e w' ⟨rfl, rfl⟩)))
              go_ret
              exact ⟨by rw [HRn.out]; rfl, rfl⟩
end Go.Proofs.YtijncfidjjfmiaaGreatDoor

namespace FloM

theorem Cut.le {X V m c : Nat} {tr tr' : Bool} (h : Cut X V m c tr tr') : V * m ≤ X := by
  rcases h with ⟨h, _⟩ | ⟨h, _⟩
  · exact Nat.le_of_eq h
  · exact Nat.le_of_lt h
theorem Fl.right {A B b b' n V V' c : Nat} {e dp' s' : Int} {tr tr' : Bool} (h : Fl A B (stepK e) b V tr) (ha : At A B e) (hb : b = b' + n) (hb' : (b' : Int) = s' + oo) (hc : Cut V V' (2 ^ n) c tr tr') (hcc : c = (dp' - 800 + oo).toNat)
    (hV : 10 ^ (dp' - 1 + oo).toNat ≤ V') (h8 : dp' ≤ 800) (h1 : -1000 ≤ dp') (hs : s' ≥ 0 ∨ -100 ≤ e + s') : Fl A B (stepK e) b' V' tr' := by
  have hn : 0 < 2 ^ n := Nat.two_pow_pos n
  have hle : V' * (B * 2 ^ oo) ≤ A * 2 ^ b' * 10 ^ oo := by
    refine Nat.le_of_mul_le_mul_right ?_ hn
    calc V' * (B * 2 ^ oo) * 2 ^ n = V' * 2 ^ n * (B * 2 ^ oo) := by grind
      _ ≤ V * (B * 2 ^ oo) := Nat.mul_le_mul_right _ hc.le
      _ ≤ A * 2 ^ b * 10 ^ oo := h.le
      _ = A * 2 ^ b' * 10 ^ oo * 2 ^ n := by rw [hb, Nat.pow_add]; grind
  have hcond := cond_at ha hle hV hb' h1 h8 hs
  rw [← hcc] at hcond
  exact h.step ha.b0 (by rw [hb, Nat.pow_add]; grind) hn hc hcond
theorem Fl.left {A B b b' n V V' c : Nat} {e dp' s' : Int} {tr tr' : Bool} (h : Fl A B (stepK e) b V tr) (ha : At A B e) (hb : b' = b + n) (hb' : (b' : Int) = s' + oo) (hc : Cut (V * 2 ^ n) V' 1 c tr tr') (hcc : c = (dp' - 800 + oo).toNat)
    (hV : 10 ^ (dp' - 1 + oo).toNat ≤ V') (h8 : dp' ≤ 800) (h1 : -1000 ≤ dp') (hs : s' ≥ 0 ∨ -100 ≤ e + s') : Fl A B (stepK e) b' V' tr' := by
  have hle : V' * (B * 2 ^ oo) ≤ A * 2 ^ b' * 10 ^ oo := by
    have h1 := hc.le
    rw [Nat.mul_one] at h1
    calc V' * (B * 2 ^ oo) ≤ V * 2 ^ n * (B * 2 ^ oo) := Nat.mul_le_mul_right _ h1
      _ = V * (B * 2 ^ oo) * 2 ^ n := by grind
      _ ≤ A * 2 ^ b * 10 ^ oo * 2 ^ n := Nat.mul_le_mul_right _ h.le
      _ = A * 2 ^ b' * 10 ^ oo := by rw [hb, Nat.pow_add]; grind
  have hcond := cond_at ha hle hV hb' h1 h8 hs
  rw [← hcc] at hcond
  exact h.step ha.b0 (by rw [hb, Nat.pow_add]; grind) Nat.one_pos hc hcond
theorem p10_lt {i j : Nat} {x : Nat} (h1 : 10 ^ i ≤ x) (h2 : x < 10 ^ j) : i < j := (Nat.pow_lt_pow_iff_right (by decide)).1 (Nat.lt_of_le_of_lt h1 h2)
/-- A shift to the left leaves no less. -/
theorem Cut.left_ge {V V' n c : Nat} {tr tr' : Bool} (h : Cut (V * 2 ^ n) V' 1 c tr tr') (hn : 1 ≤ n) (hc : 10 ^ c ≤ V') : V ≤ V' := by
  have h2 : V * 2 ≤ V * 2 ^ n := Nat.mul_le_mul_left _ (by
    calc 2 = 2 ^ 1 := rfl
      _ ≤ 2 ^ n := Nat.pow_le_pow_right (by decide) hn)
  rcases h with ⟨h, _⟩ | ⟨_, h, _⟩
  · omega
  · omega
end FloM
namespace Go.Proofs.YtijncfidjjfmiaaGreatDoor
open Go.RowKit FloM

structure St (A B : Nat) (e : Int) (w0 : World) (b : Nat) (E : Int) (g : Nat → Nat) (nd : Nat) (dp : Int) (tr : Bool) (wr : World) : Prop where
  dc : Dc wr b g nd dp tr
  ok : Dok g nd
  fl : Fl A B (stepK e) ((oo : Int) - E).toNat (dV g nd dp) tr
  gr : w0.grownBy wr (some b)
  d1 : -400 ≤ dp
  d2 : dp ≤ 310
  ss : E ≤ 0 ∨ E ≤ e + 100
  e1 : -1200 ≤ E
  e2 : E ≤ 1200
section
variable {A B : Nat} {e E : Int} {w0 wr w' : World} {b nd n : Nat} {g : Nat → Nat} {dp : Int} {tr : Bool} {en : Ending}
theorem St.bE (h : St A B e w0 b E g nd dp tr wr) : ((((oo : Int) - E).toNat : Nat) : Int) = -E + oo := by
  have := oo_eq; have := h.e1; have := h.e2; omega
theorem St.right1 (h : St A B e w0 b E g nd dp tr wr) (ha : At A B e) (hs : E + n ≤ 0 ∨ E + n ≤ e + 100) (he : E + n ≤ 1200) (hd : -380 ≤ dp)
    {g' : Nat → Nat} {nd' : Nat} {dp' : Int} {tr' : Bool} (k1 : Dc w' b g' nd' dp' tr') (k2 : Dok g' nd') (k4 : dp - 20 ≤ dp') (k5 : dp' ≤ dp + 20) (k6 : Cut (dV g nd dp) (dV g' nd' dp') (2 ^ n) (dp' - 800 + oo).toNat tr tr') (k7 : wr.grownBy w' (some b)) :
    St A B e w0 b (E + n) g' nd' dp' tr' w' ∧ dp' ≤ dp := by
  have hoo := oo_eq
  have h1 := h.e1
  have h2 := h.d2
  have hV := dV_ge k2 (dp := dp') (by omega)
  have hle : dV g' nd' dp' ≤ dV g nd dp := Nat.le_trans (Nat.le_mul_of_pos_right _ (Nat.two_pow_pos n)) k6.le
  have hdd : dp' ≤ dp := by
    have := p10_lt hV (Nat.lt_of_le_of_lt hle (dV_lt h.ok (by omega)))
    omega
  refine ⟨⟨k1, k2, ?_, h.gr.trans k7, by omega, by omega, hs, by omega, he⟩, hdd⟩
  exact h.fl.right ha (b' := ((oo : Int) - (E + n)).toNat) (n := n) (s' := -(E + n)) (by omega) (by omega) k6 rfl hV (by omega) (by omega) (by omega)
theorem St.right (h : St A B e w0 b E g nd dp tr wr) (ha : At A B e) (hs : E + n ≤ 0 ∨ E + n ≤ e + 100) (he : E + n ≤ 1200) (hd : -380 ≤ dp) (hp : ShPost (dV g nd dp) (2 ^ n) b dp tr wr en w') :
    ∃ g' nd' dp' tr', St A B e w0 b (E + n) g' nd' dp' tr' w' ∧ dp' ≤ dp ∧ dp - 20 ≤ dp' ∧ g' (nd' - 1) ≠ 48 := by
  obtain ⟨_, g', nd', dp', tr', k1, k2, k3, k4, k5, k6, k7⟩ := hp
  obtain ⟨z1, z2⟩ := h.right1 ha hs he hd k1 k2 k4 k5 k6 k7
  exact ⟨g', nd', dp', tr', z1, z2, k4, k3⟩
theorem St.right2 (h : St A B e w0 b E g nd dp tr wr) (ha : At A B e) (hs : E + 60 + n ≤ 0) (hd : -360 ≤ dp) (hp : ShPost2 (dV g nd dp) b n dp tr wr en w') :
    ∃ g' nd' dp' tr', St A B e w0 b (E + 60 + n) g' nd' dp' tr' w' ∧ dp' ≤ dp := by
  obtain ⟨g1, nd1, dp1, tr1, w1, ⟨k1, k2, k4, k5, k6, k7⟩, hq⟩ := hp
  obtain ⟨z1, z2⟩ := h.right1 (n := 60) ha (.inl (by omega)) (by omega) (by omega) k1 k2 k4 k5 k6 k7
  obtain ⟨g', nd', dp', tr', y1, y2, y3, y4⟩ := St.right (n := n) z1 ha (.inl (by omega)) (by omega) (by omega) hq
  exact ⟨g', nd', dp', tr', y1, by omega⟩
theorem St.left (h : St A B e w0 b E g nd dp tr wr) (ha : At A B e) (hn : 1 ≤ n) (he : -1200 ≤ E - n) (hd : dp ≤ 280) (hp : ShPost (dV g nd dp * 2 ^ n) 1 b dp tr wr en w') :
    ∃ g' nd' dp' tr', St A B e w0 b (E - n) g' nd' dp' tr' w' ∧ dp ≤ dp' ∧ dV g' nd' dp' ≤ dV g nd dp * 2 ^ n ∧ g' (nd' - 1) ≠ 48 := by
  have hoo := oo_eq
  have h1 := h.e2
  have h2 := h.d1
  have h3 := h.ss
  obtain ⟨_, g', nd', dp', tr', k1, k2, k3, k4, k5, k6, k7⟩ := hp
  have hV := dV_ge k2 (dp := dp') (by omega)
  have hle := k6.le
  rw [Nat.mul_one] at hle
  have hge : dV g nd dp ≤ dV g' nd' dp' := k6.left_ge hn (Nat.le_trans (Nat.pow_le_pow_right (by decide) (by omega)) hV)
  have hdd : dp ≤ dp' := by
    have := p10_lt (dV_ge h.ok (dp := dp) (by omega)) (Nat.lt_of_le_of_lt hge (dV_lt k2 (by omega)))
    omega
  refine ⟨g', nd', dp', tr', ⟨k1, k2, ?_, h.gr.trans k7, by omega, by omega, by omega, he, by omega⟩, hdd, hle, k3⟩
  exact h.fl.left ha (b' := ((oo : Int) - (E - n)).toNat) (n := n) (s' := -(E - n)) (by omega) (by omega) k6 rfl hV (by omega) (by omega) (by omega)
theorem St.big (h : St A B e w0 b E g nd dp tr wr) (ha : At A B e) (hd : 0 < dp) : E ≤ e - 1 := by
  have := h.fl.ge_one ha (s := -E) h.bE (dp_pos h.ok hd)
  omega
theorem St.small (h : St A B e w0 b E g nd dp tr wr) (ha : At A B e) (hd : dV g nd dp * 2 < 10 ^ oo) : e ≤ E := by
  have := h.fl.lt_pow ha (s := -E) h.bE (i := 0) (by rw [Nat.pow_zero, Nat.one_mul]; omega)
  omega
theorem St.half (h : St A B e w0 b E g nd 0 tr wr) (ha : At A B e) (h5 : 53 ≤ g 0) : E = e := by
  have := h.fl.scaled ha (s := -E) h.bE ((dp_zero h.ok).2 h5) (dp_neg h.ok (by omega) (by omega))
  omega
/-- After the last shift: the rounded digits. -/
theorem St.rounds (h : St A B e w0 b E g nd dp tr wr) (ha : At A B e) {k : Nat} (hk : (k : Int) = max (e + 1021) 0) (hE : E = (k : Int) - 1074) (hl : g (nd - 1) ≠ 48) :
    rI g nd dp.toNat + (upB g nd dp tr).toNat = rhe (A * 2 ^ (oo + e74 - k)) (B * 2 ^ oo) := by
  have hoo := oo_eq
  have h74 := e74_eq
  have h1 := h.d1
  have h2 := h.d2
  have h3 := ha.e2
  have h4 := ha.e1
  have h5 := h.e2
  rw [round_digits h.ok hl (by omega) (by omega)]
  have hK : ((stepK e : Nat) : Int) = min (54 - e) 1100 + oo := tn _ (by omega)
  have hb : ((oo : Int) - E).toNat = oo + e74 - k := by omega
  have hf := h.fl
  rw [hb] at hf
  exact hf.round ha.b0 (j := stepK e - (oo + e74 - k + 1)) (by omega)
end
/-- The steps of the scaling. -/
def ptN (k : Nat) : Nat := [1, 3, 6, 9, 13, 16, 19, 23, 26].getD k 0
theorem pt_ok : below (fun k => Nat.ble 1 (ptN k) && Nat.ble (ptN k) 26 && (Nat.beq k 0 || Nat.ble (2 ^ ptN k) (10 ^ k))) 9 = true := by decide +kernel
theorem pt_spec {k : Nat} (h : k < 9) : 1 ≤ ptN k ∧ ptN k ≤ 26 ∧ (0 < k → 2 ^ ptN k ≤ 10 ^ k) := by
  have := below_of pt_ok k h
  simp only [Bool.and_eq_true, Nat.ble_eq, Bool.or_eq_true, Nat.beq_eq] at this
  exact ⟨this.1.1, this.1.2, fun h0 => this.2.resolve_left (by omega)⟩
/-- Scaled up, it stays below one. -/
theorem up_small {g g' : Nat → Nat} {nd nd' n : Nat} {dp dp' : Int} (hok : Dok g nd) (hok' : Dok g' nd') (hle : dV g' nd' dp' ≤ dV g nd dp * 2 ^ n) (hd : -1000 ≤ dp) (hd' : -1000 ≤ dp') (h : (dp = 0 ∧ n = 1 ∧ dV g nd dp * 2 < 10 ^ oo) ∨ (∃ k : Nat, 0 < k ∧ dp ≤ -(k : Int) ∧ 2 ^ n ≤ 10 ^ k)) : dp' ≤ 0 := by
  have hoo := oo_eq
  have key : dV g nd dp * 2 ^ n < 10 ^ oo := by
    rcases h with ⟨_, rfl, h3⟩ | ⟨k, h1, h2, h3⟩
    · rw [Nat.pow_one]; exact h3
    · have a := dV_lt hok (dp := dp) (by omega)
      calc dV g nd dp * 2 ^ n < 10 ^ (dp + oo).toNat * 2 ^ n := Nat.mul_lt_mul_of_pos_right a (Nat.two_pow_pos n)
        _ ≤ 10 ^ (dp + oo).toNat * 10 ^ k := Nat.mul_le_mul_left _ h3
        _ = 10 ^ ((dp + oo).toNat + k) := by rw [Nat.pow_add]
        _ ≤ 10 ^ oo := Nat.pow_le_pow_right (by decide) (by omega)
  have := p10_lt (dV_ge hok' (dp := dp') (by omega)) (Nat.lt_of_le_of_lt hle key)
  omega
theorem up_53 {g g' : Nat → Nat} {nd nd' : Nat} {dp dp' : Int} (hok : Dok g nd) (hok' : Dok g' nd') (hle : dV g' nd' dp' ≤ dV g nd dp * 2 ^ 53) (hd : dp ≤ 0) (hd2 : -1000 ≤ dp) (hd' : -1000 ≤ dp') : dp' ≤ 17 := by
  have hoo := oo_eq
  have a := dp_neg hok hd (by omega)
  have key : dV g nd dp * 2 ^ 53 < 10 ^ (oo + 16) := by
    calc dV g nd dp * 2 ^ 53 < 10 ^ oo * 2 ^ 53 := Nat.mul_lt_mul_of_pos_right a (by decide)
      _ ≤ 10 ^ oo * 10 ^ 16 := Nat.mul_le_mul_left _ (by decide)
      _ = 10 ^ (oo + 16) := by rw [Nat.pow_add]
  have := p10_lt (dV_ge hok' (dp := dp') (by omega)) (Nat.lt_of_le_of_lt hle key)
  omega
end Go.Proofs.YtijncfidjjfmiaaGreatDoor
