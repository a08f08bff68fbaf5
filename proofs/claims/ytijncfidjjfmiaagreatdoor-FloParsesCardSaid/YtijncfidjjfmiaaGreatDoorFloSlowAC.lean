/- Walks of the library's slow decimal: its cells, trim. Walk of the library's rightShift. Walks of the library's prefixIsLessThan and leftShift. -/
import Derived.Test.YtijncfidjjfmiaaGreatDoorFloMem
import Derived.Test.YtijncfidjjfmiaaGreatDoorFloSlowPS
import Derived.Test.YtijncfidjjfmiaaGreatDoorFloWalkAB
import Derived.Lib.Hide
import Derived.WalkMore
import Derived.Deep.QuietTactic
import Derived.BigQuiet
import Derived.Deep.LoopGhost
import Derived.Deep.CutBlock
import Derived.Deep.DeepCutAuto
namespace Go.Proofs.YtijncfidjjfmiaaGreatDoor
open Go.RowKit FloM

/-- The cells of a decimal: 800 bytes, how many are digits, where the point is, below 0, more was cut off. -/
def dcell (g : Nat → Nat) (nd : Nat) (dp : Int) (tr : Bool) : Array Value :=
  ((List.range 800).map (fun i => Value.int .u8 (g i : Int)) ++ [Value.int .i64 (nd : Int), Value.int .i64 dp, Value.bool false, Value.bool tr]).toArray
theorem dcell_size (g : Nat → Nat) (nd : Nat) (dp : Int) (tr : Bool) : (dcell g nd dp tr).size = 804 := by unfold dcell; simp
theorem dcell_dig (g : Nat → Nat) (nd : Nat) (dp : Int) (tr : Bool) {i : Nat} (h : i < 800) : (dcell g nd dp tr)[i]? = some (.int .u8 (g i : Int)) := by
  unfold dcell
  rw [List.getElem?_toArray, List.getElem?_append_left (by simp; omega)]
  simp [h]
theorem dcell_hi (g : Nat → Nat) (nd : Nat) (dp : Int) (tr : Bool) (i : Nat) : (dcell g nd dp tr)[800 + i]? = [Value.int .i64 (nd : Int), Value.int .i64 dp, Value.bool false, Value.bool tr][i]? := by
  unfold dcell
  rw [List.getElem?_toArray, List.getElem?_append_right (by simp)]
  simp
def updG (g : Nat → Nat) (i v : Nat) : Nat → Nat := fun j => if j = i then v else g j
theorem updG_at (g : Nat → Nat) (i v : Nat) : updG g i v i = v := if_pos rfl
theorem updG_ne (g : Nat → Nat) {i j : Nat} (v : Nat) (h : j ≠ i) : updG g i v j = g j := if_neg h
theorem dcell_set (g : Nat → Nat) (nd : Nat) (dp : Int) (tr : Bool) {i : Nat} (v : Nat) (h : i < 800) : (dcell g nd dp tr).setIfInBounds i (.int .u8 (v : Int)) = dcell (updG g i v) nd dp tr := by
  apply Array.ext_getElem?
  intro j
  rw [Array.getElem?_setIfInBounds]
  by_cases hj : i = j
  · subst hj
    rw [if_pos rfl, if_pos (by rw [dcell_size]; omega), dcell_dig _ _ _ _ h, updG_at]
  · rw [if_neg hj]
    by_cases h8 : j < 800
    · rw [dcell_dig _ _ _ _ h8, dcell_dig _ _ _ _ h8, updG_ne _ _ (fun e => hj e.symm)]
    · obtain ⟨k, rfl⟩ : ∃ k, j = 800 + k := ⟨j - 800, by omega⟩
      rw [dcell_hi, dcell_hi]
theorem dcell_nd (g : Nat → Nat) (nd nd' : Nat) (dp : Int) (tr : Bool) : (dcell g nd dp tr).setIfInBounds 800 (.int .i64 (nd' : Int)) = dcell g nd' dp tr := by
  apply Array.ext_getElem?
  intro j
  rw [Array.getElem?_setIfInBounds]
  by_cases hj : 800 = j
  · subst hj
    rw [if_pos rfl, if_pos (by rw [dcell_size]; omega)]
    exact (dcell_hi g nd' dp tr 0).symm
  · rw [if_neg hj]
    by_cases h8 : j < 800
    · rw [dcell_dig _ _ _ _ h8, dcell_dig _ _ _ _ h8]
    · obtain ⟨k, rfl⟩ : ∃ k, j = 800 + (k + 1) := ⟨j - 801, by omega⟩
      rw [dcell_hi, dcell_hi]; rfl
theorem dcell_dp (g : Nat → Nat) (nd : Nat) (dp dp' : Int) (tr : Bool) : (dcell g nd dp tr).setIfInBounds 801 (.int .i64 dp') = dcell g nd dp' tr := by
  apply Array.ext_getElem?
  intro j
  rw [Array.getElem?_setIfInBounds]
  by_cases hj : 801 = j
  · subst hj
    rw [if_pos rfl, if_pos (by rw [dcell_size]; omega)]
    exact (dcell_hi g nd dp' tr 1).symm
  · rw [if_neg hj]
    by_cases h8 : j < 800
    · rw [dcell_dig _ _ _ _ h8, dcell_dig _ _ _ _ h8]
    · obtain ⟨k, rfl⟩ : ∃ k, j = 800 + k := ⟨j - 800, by omega⟩
      rw [dcell_hi, dcell_hi]
      rcases k with _ | k
      · rfl
      · rcases k with _ | k
        · omega
        · rfl
theorem dcell_tr (g : Nat → Nat) (nd : Nat) (dp : Int) (tr tr' : Bool) : (dcell g nd dp tr).setIfInBounds 803 (.bool tr') = dcell g nd dp tr' := by
  apply Array.ext_getElem?
  intro j
  rw [Array.getElem?_setIfInBounds]
  by_cases hj : 803 = j
  · subst hj
    rw [if_pos rfl, if_pos (by rw [dcell_size]; omega)]
    exact (dcell_hi g nd dp tr' 3).symm
  · rw [if_neg hj]
    by_cases h8 : j < 800
    · rw [dcell_dig _ _ _ _ h8, dcell_dig _ _ _ _ h8]
    · obtain ⟨k, rfl⟩ : ∃ k, j = 800 + k := ⟨j - 800, by omega⟩
      rw [dcell_hi, dcell_hi]
      rcases k with _ | k
      · rfl
      · rcases k with _ | k
        · rfl
        · rcases k with _ | k
          · rfl
          · rcases k with _ | k
            · omega
            · rfl

/-- A decimal in memory. -/
def Dc (w : World) (b : Nat) (g : Nat → Nat) (nd : Nat) (dp : Int) (tr : Bool) : Prop := Blk w b 145 (dcell g nd dp tr)
section
variable {w w' : World} {b : Nat} {g : Nat → Nat} {nd : Nat} {dp : Int} {tr : Bool}
theorem Dc.dig (h : Dc w b g nd dp tr) {i : Nat} (hi : i < 800) : w.cell? ⟨b, i, none⟩ = some (.int .u8 (g i : Int)) := (Blk.cell h i).trans (dcell_dig _ _ _ _ hi)
theorem Dc.nd_ (h : Dc w b g nd dp tr) : w.cell? ⟨b, 800, none⟩ = some (.int .i64 (nd : Int)) := (Blk.cell h 800).trans (dcell_hi _ _ _ _ 0)
theorem Dc.dp_ (h : Dc w b g nd dp tr) : w.cell? ⟨b, 801, none⟩ = some (.int .i64 dp) := (Blk.cell h 801).trans (dcell_hi _ _ _ _ 1)
theorem Dc.neg_ (h : Dc w b g nd dp tr) : w.cell? ⟨b, 802, none⟩ = some (.bool false) := (Blk.cell h 802).trans (dcell_hi _ _ _ _ 2)
theorem Dc.tr_ (h : Dc w b g nd dp tr) : w.cell? ⟨b, 803, none⟩ = some (.bool tr) := (Blk.cell h 803).trans (dcell_hi _ _ _ _ 3)
theorem Dc.free (h : Dc w b g nd dp tr) (i : Nat) : w.frozen? ⟨b, i, none⟩ = false := Blk.frozen h i
theorem Dc.setDig (h : Dc w b g nd dp tr) {i : Nat} (v : Nat) (hi : i < 800) : Dc (w.setCell ⟨b, i, none⟩ (.int .u8 (v : Int))) b (updG g i v) nd dp tr := by
  have := Blk.set_ h i (.int .u8 (v : Int))
  rw [dcell_set _ _ _ _ _ hi] at this
  exact this
theorem Dc.setNd (h : Dc w b g nd dp tr) (n : Nat) : Dc (w.setCell ⟨b, 800, none⟩ (.int .i64 (n : Int))) b g n dp tr := by
  have := Blk.set_ h 800 (.int .i64 (n : Int))
  rw [dcell_nd] at this
  exact this
theorem Dc.setDp (h : Dc w b g nd dp tr) (z : Int) : Dc (w.setCell ⟨b, 801, none⟩ (.int .i64 z)) b g nd z tr := by
  have := Blk.set_ h 801 (.int .i64 z)
  rw [dcell_dp] at this
  exact this
theorem Dc.setTr (h : Dc w b g nd dp tr) (t : Bool) : Dc (w.setCell ⟨b, 803, none⟩ (.bool t)) b g nd dp t := by
  have := Blk.set_ h 803 (.bool t)
  rw [dcell_tr] at this
  exact this
theorem Dc.drewN (h : Dc w b g nd dp tr) (n : Nat) : Dc (w.drewN n) b g nd dp tr := h
end

def TrimD (w : World) (b : Nat) (g : Nat → Nat) (nd : Nat) (dp : Int) (tr : Bool) (e : Ending) (w' : World) : Prop :=
  e = .returned (.tuple #[]) ∧ Dc w' b g (tzN g nd) (if tzN g nd = 0 then 0 else dp) tr ∧ w.grownBy w' (some b)

set_option maxRecDepth 100000 in
set_option maxHeartbeats 1000000 in
theorem strim_any (b : Nat) (g : Nat → Nat) (nd : Nat) (dp : Int) (tr : Bool) (hn : nd ≤ 800) (w : World) (hD : Dc w b g nd dp tr) :
    Calls Tryz.prog 151 #[.pointer (some ⟨b, 0, none⟩)] w (TrimD w b g nd dp tr) := by
  have HD := Lib.hid hD
  clear hD
  go_enter Tryz.func151, Tryz.ntmps151
  go_wp2
  go_loopg [] nd (fun n wr => n ≤ nd ∧ Hid (Dc wr b g n dp tr) ∧ Hid (w.grownBy wr (some b)) ∧ Hid (tzN g n = tzN g nd))
  case atStart => exact ⟨Nat.le_refl _, HD, World.grownBy.refl w _, rfl⟩
  case round =>
    obtain ⟨hk, HDr, HG, HT⟩ := hrel
    rcases Nat.eq_zero_or_pos gk with h0 | h0
    · subst h0
      have c0 := HDr.out.nd_
      have c1 := HDr.out.dp_
      have f1 := HDr.out.free 801
      have hd : decide ((0 : Int) < ((0 : Nat) : Int)) = false := by decide
      go_wp2_with fail
      go_quiet (fail)
      go_wp2_with fail
      go_end0
      refine ⟨rfl, ?_, ?_⟩
      · rw [← HT.out]; exact (HDr.out.drewN nq).setDp 0
      · exact only_setCell (only_drewN HG.out nq) (.inl rfl) _
    · obtain ⟨m, rfl⟩ : ∃ m, gk = m + 1 := ⟨gk - 1, by omega⟩
      have c0 := HDr.out.nd_
      have c1 := HDr.out.dig (i := m) (by omega)
      have c2 := HDr.out.dp_
      have f0 := HDr.out.free 800
      have hd : decide ((0 : Int) < ((m + 1 : Nat) : Int)) = true := decide_eq_true (by omega)
      by_cases h48 : g m = 48
      · have q : ((g m : Int) == 48) = true := beq_iff_eq.2 (by omega)
        have HT2 := Lib.hid (show tzN g m = tzN g nd by rw [← HT.out]; exact (if_pos h48).symm)
        clear h48
        go_wp2_with fail
        go_quiet (fail)
        go_wp2_with fail
        go_roundg m
        case rel => exact ⟨by omega, (HDr.out.drewN nq).setNd m, only_setCell (only_drewN HG.out nq) (.inl rfl) _, HT2⟩
        case measure => omega
      · have q : ((g m : Int) == 48) = false := beq_eq_false_iff_ne.2 (by omega)
        have HT2 := Lib.hid (show m + 1 = tzN g nd by rw [← HT.out]; exact (if_neg h48).symm)
        clear h48
        go_wp2_with fail
        go_quiet (fail)
        go_wp2_with fail
        go_end0
        refine ⟨rfl, ?_, ?_⟩
        · rw [← HT2.out, if_neg (by omega)]; exact HDr.out.drewN nq
        · exact only_drewN HG.out nq
end Go.Proofs.YtijncfidjjfmiaaGreatDoor

namespace Go.Proofs.YtijncfidjjfmiaaGreatDoor
open Go.RowKit FloM

/-- The digits that the first loop took: j of them, and a noughts. -/
def Took (g : Nat → Nat) (nd T : Nat) (r n : Nat) : Prop := ∃ j a : Nat, r = j + a ∧ j ≤ nd ∧ (a = 0 ∨ j = nd) ∧ n = pre g j * 10 ^ a ∧ T ≤ n ∧ n < 10 * T ∧ 1 ≤ r ∧ a < 25
theorem ten_small {p a x : Nat} (hp : 0 < p) (h : x = p * 10 ^ a) (hx : x < 10000000000000000000) : a < 19 := by
  have h1 : 10 ^ a ≤ x := by rw [h]; exact Nat.le_mul_of_pos_left _ hp
  have h2 : 10 ^ a < 10 ^ 19 := Nat.lt_of_le_of_lt h1 hx
  exact (Nat.pow_lt_pow_iff_right (by decide)).1 h2

/-- Behind the digits that were taken: i are put down, n is at hand. -/
structure Mid2 (g g' : Nat → Nat) (nd T r0 i n : Nat) : Prop where
  lt : n < 10 * T
  sum : ∃ j a : Nat, r0 + i = j + a ∧ j ≤ nd ∧ (a = 0 ∨ j = nd) ∧ pre g j * 10 ^ a = 10 * T * pre g' i + n
  dig : ∀ x, x < i → 48 ≤ g' x ∧ g' x ≤ 57
  far : ∀ x, i ≤ x → g' x = g x
  lead : 0 < i → g' 0 ≠ 48
  first : i = 0 → T ≤ n
  few : i = 0 ∨ r0 + i ≤ nd
structure Mid3 (g g' : Nat → Nat) (nd T r0 i n : Nat) (tr tr' : Bool) : Prop where
  lt : n < 10 * T
  sum : ∃ a nst : Nat, i + r0 = nd + a ∧ pre g nd * 10 ^ a = 10 * T * pre g' i + nst ∧ nst < 10 * T ∧ (i < 800 → n = nst ∧ tr' = tr) ∧ (nst = 0 → n = 0 ∧ tr' = tr) ∧ (0 < nst → 0 < n ∨ tr' = true)
  dig : ∀ x, x < i → 48 ≤ g' x ∧ g' x ≤ 57
  lead : 0 < i → g' 0 ≠ 48
  first : i = 0 → T ≤ n
  few : i ≤ 800
theorem div9 {n T : Nat} (h0 : 0 < T) (h : n < 10 * T) : n / T ≤ 9 := Nat.le_of_lt_succ ((Nat.div_lt_iff_lt_mul h0).2 h)
theorem put_pre (g' : Nat → Nat) (i d : Nat) : pre (updG g' i (d + 48)) (i + 1) = pre g' i * 10 + d := by
  show pre (updG g' i (d + 48)) i * 10 + (updG g' i (d + 48) i - 48) = _
  rw [updG_at, pre_congr (g' := g') (fun x hx => updG_ne _ _ (by omega)), Nat.add_sub_cancel]
theorem put_sum {P T W n : Nat} (h : P = 10 * T * W + n) (c : Nat) : P * 10 + c = 10 * T * (W * 10 + n / T) + (n % T * 10 + c) := by
  have := Nat.div_add_mod n T
  rw [h, Nat.mul_add, Nat.mul_assoc 10 T (n / T), Nat.mul_comm W 10, ← Nat.mul_assoc (10 * T) 10 W, Nat.mul_assoc 10 T 10, Nat.mul_comm T 10]
  generalize T * (n / T) = X at *
  generalize hq : 10 * T * W = Y at *
  have e : 10 * (10 * T) * W = 10 * Y := by rw [← hq]; grind
  omega
theorem put_dig {g' : Nat → Nat} {i d : Nat} (hd : ∀ x, x < i → 48 ≤ g' x ∧ g' x ≤ 57) (h : d ≤ 9) : ∀ x, x < i + 1 → 48 ≤ updG g' i (d + 48) x ∧ updG g' i (d + 48) x ≤ 57 := fun x hx => by
  by_cases hxi : x = i
  · subst hxi; rw [updG_at]; omega
  · rw [updG_ne _ _ hxi]; exact hd x (by omega)
theorem put_lead {g' : Nat → Nat} {i d : Nat} (hl : 0 < i → g' 0 ≠ 48) (h : i = 0 → 1 ≤ d) : 0 < i + 1 → updG g' i (d + 48) 0 ≠ 48 := fun _ => by
  by_cases hi : i = 0
  · subst hi; rw [updG_at]; have := h rfl; omega
  · rw [updG_ne _ _ (fun e => hi e.symm)]; exact hl (by omega)

theorem Mid2.put {g g' : Nat → Nat} {nd T r0 i n : Nat} (h : Mid2 g g' nd T r0 i n) (h0 : 0 < T) (hr : r0 + i < nd) (hg : 48 ≤ g (r0 + i) ∧ g (r0 + i) ≤ 57) :
    Mid2 g (updG g' i (n / T + 48)) nd T r0 (i + 1) (n % T * 10 + (g (r0 + i) - 48)) := by
  obtain ⟨h1, ⟨j, a, e1, e2, e3, e4⟩, h3, h4, h5, h6, h7⟩ := h
  have ha : a = 0 := by omega
  subst ha
  have hj : j = r0 + i := by omega
  subst hj
  rw [Nat.pow_zero, Nat.mul_one] at e4
  have hm := Nat.mod_lt n h0
  refine ⟨by omega, ⟨r0 + i + 1, 0, rfl, hr, .inl rfl, ?_⟩, put_dig h3 (div9 h0 h1), fun x hx => ?_, put_lead h5 (fun e => Nat.div_pos (h6 e) h0), fun e => by omega, .inr (by omega)⟩
  · rw [Nat.pow_zero, Nat.mul_one, put_pre]
    exact put_sum e4 _
  · rw [updG_ne _ _ (by omega)]; exact h4 x (by omega)
theorem Mid2.done {g g' : Nat → Nat} {nd T r0 i n : Nat} {tr : Bool} (h : Mid2 g g' nd T r0 i n) (hr : nd ≤ r0 + i) (hnd : nd ≤ 800) : Mid3 g g' nd T r0 i n tr tr := by
  obtain ⟨h1, ⟨j, a, e1, e2, e3, e4⟩, h3, h4, h5, h6, h7⟩ := h
  have hj : j = nd := by omega
  subst hj
  exact ⟨h1, ⟨a, n, by omega, e4, h1, fun _ => ⟨rfl, rfl⟩, fun e => ⟨e, rfl⟩, fun e => .inl e⟩, h3, h5, h6, by omega⟩
theorem Mid3.put {g g' : Nat → Nat} {nd T r0 i n : Nat} {tr tr' : Bool} (h : Mid3 g g' nd T r0 i n tr tr') (h0 : 0 < T) (hi : i < 800) :
    Mid3 g (updG g' i (n / T + 48)) nd T r0 (i + 1) (n % T * 10) tr tr' := by
  obtain ⟨h1, ⟨a, nst, e1, e2, e3, e4, e5, e6⟩, h3, h5, h6, h7⟩ := h
  obtain ⟨rfl, rfl⟩ := e4 hi
  have hm := Nat.mod_lt n h0
  have hs := put_sum e2 0
  rw [Nat.add_zero, Nat.add_zero, Nat.mul_assoc, ← Nat.pow_succ] at hs
  refine ⟨by omega, ⟨a + 1, n % T * 10, by omega, by rw [put_pre]; exact hs, by omega, fun _ => ⟨rfl, rfl⟩, fun e => ⟨e, rfl⟩, fun e => .inl e⟩, put_dig h3 (div9 h0 h1), put_lead h5 (fun e => Nat.div_pos (h6 e) h0), fun e => by omega, by omega⟩
theorem Mid3.drop {g g' : Nat → Nat} {nd T r0 i n : Nat} {tr tr' : Bool} (h : Mid3 g g' nd T r0 i n tr tr') (h0 : 0 < T) (hi : 800 ≤ i) (hn : 0 < n) (tr2 : Bool) (ht : tr2 = if 0 < n / T then true else tr') :
    Mid3 g g' nd T r0 i (n % T * 10) tr tr2 := by
  obtain ⟨h1, ⟨a, nst, e1, e2, e3, e4, e5, e6⟩, h3, h5, h6, h7⟩ := h
  have hm := Nat.mod_lt n h0
  have hdm := Nat.div_add_mod n T
  refine ⟨by omega, ⟨a, nst, e1, e2, e3, fun e => by omega, fun e => ?_, fun e => ?_⟩, h3, h5, fun e => by omega, h7⟩
  · have := e5 e; omega
  · by_cases hd : 0 < n / T
    · right; rw [ht, if_pos hd]
    · left
      have : n / T = 0 := Nat.eq_zero_of_not_pos hd
      rw [this, Nat.mul_zero] at hdm
      omega
theorem Mid3.end_ {g g' : Nat → Nat} {nd k r0 i : Nat} {dp dp' : Int} {tr tr' : Bool} (h : Mid3 g g' nd (2 ^ k) r0 i 0 tr tr') (hd : dp' = dp - r0 + 1) (hdp : -2000 ≤ dp') :
    Dok g' i ∧ Cut (dV g nd dp) (dV g' i dp') (2 ^ k) (dp' - 800 + oo).toNat tr tr' := by
  obtain ⟨h1, ⟨a, nst, e1, e2, e3, e4, e5, e6⟩, h3, h5, h6, h7⟩ := h
  have hi0 : 0 < i := by
    rcases Nat.eq_zero_or_pos i with h | h
    · have := h6 h
      have := Nat.two_pow_pos k
      omega
    · exact h
  refine ⟨⟨h3, h7, hi0, h5 hi0⟩, ?_⟩
  refine right_cut e2 e1 e3 ?_ hd rfl h7 hdp
  rcases Nat.eq_zero_or_pos nst with h0 | h0
  · exact .inl ⟨h0, (e5 h0).2⟩
  · refine .inr ⟨h0, ?_, ?_⟩
    · rcases Nat.lt_or_ge i 800 with h8 | h8
      · have := (e4 h8).1; omega
      · omega
    · rcases e6 h0 with h8 | h8
      · omega
      · exact h8
/-- Noughts of two at the end: how many rounds are left. -/
theorem two_step {k T gk n : Nat} (hT : T = 2 ^ k) (hg : 0 < gk) (h1 : gk ≤ k + 1) (h2 : 2 ^ (k + 1 - gk) ∣ n) : 2 ^ (k + 1 - (gk - 1)) ∣ n % T * 10 ∧ (gk - 1 = 0 → n % T * 10 = 0) := by
  have h3 : 2 ^ (k + 1 - gk) ∣ T := by rw [hT]; exact Nat.pow_dvd_pow 2 (by omega)
  have h4 : 2 ^ (k + 1 - gk) ∣ n % T := (Nat.dvd_mod_iff h3).2 h2
  constructor
  · obtain ⟨q, hq⟩ := h4
    refine ⟨q * 5, ?_⟩
    rw [hq, show k + 1 - (gk - 1) = (k + 1 - gk) + 1 by omega, Nat.pow_succ]; grind
  · intro h5
    have : gk = 1 := by omega
    subst this
    rw [Nat.add_sub_cancel, ← hT] at h2
    rw [Nat.mod_eq_zero_of_dvd h2]

theorem dig8 {n T : Nat} (h : n / T ≤ 9) : IntKind.u64.wrap ((n : Int) / (T : Int) + 48) % 256 = ((n / T + 48 : Nat) : Int) := by
  rw [← Int.natCast_ediv]
  generalize n / T = x at *
  have : IntKind.u64.wrap ((x : Int) + 48) = (x : Int) + 48 := by simp [IntKind.wrap, IntKind.signed, IntKind.bits]; omega
  rw [this]; omega
theorem Took.r_le {g : Nat → Nat} {nd T r n : Nat} (h : Took g nd T r n) (hok : Dok g nd) (hT : T ≤ 1152921504606846976) : r ≤ 20 := by
  obtain ⟨j, a, h1, h2, h3, h4, h5, h6, h7, h8⟩ := h
  rcases Nat.eq_zero_or_pos j with hj | hj
  · have := hok.pos
    subst hj
    rw [show pre g 0 = 0 from rfl, Nat.zero_mul] at h4
    omega
  · obtain ⟨m, rfl⟩ : ∃ m, j = m + 1 := ⟨j - 1, by omega⟩
    have hg := pre_ge (n := m) hok.hi
    have k1 : 10 ^ (m + a) ≤ n := by rw [h4, Nat.pow_add]; exact Nat.mul_le_mul_right _ hg
    have k2 : (10 : Nat) ^ (m + a) < 10 ^ 20 := Nat.lt_of_le_of_lt k1 (by omega)
    have := (Nat.pow_lt_pow_iff_right (by decide)).1 k2
    omega

/-- What a shift leaves: other digits, cut at 800. -/
def ShPost (X m b : Nat) (dp : Int) (tr : Bool) (w : World) (e : Ending) (w' : World) : Prop :=
  e = .returned (.tuple #[]) ∧ ∃ (g' : Nat → Nat) (nd' : Nat) (dp' : Int) (tr' : Bool), Dc w' b g' nd' dp' tr' ∧ Dok g' nd' ∧ g' (nd' - 1) ≠ 48 ∧ dp - 20 ≤ dp' ∧ dp' ≤ dp + 20 ∧ Cut X (dV g' nd' dp') m (dp' - 800 + oo).toNat tr tr' ∧ w.grownBy w' (some b)

set_option maxRecDepth 100000 in
set_option maxHeartbeats 2000000 in
theorem rs_any (b : Nat) (g : Nat → Nat) (nd k T : Nat) (dp : Int) (tr : Bool) (hok : Dok g nd) (w : World) (hD : Dc w b g nd dp tr) (hk : k ≤ 60) (hT0 : 0 < T) (hT : T ≤ 1152921504606846976)
    (hd1 : -1000 ≤ dp) (hd2 : dp ≤ 1000) (HT : Hid (T = 2 ^ k))
    (HS : ∀ n : Nat, (n : Int) / 2 ^ k = ((n / T : Nat) : Int)) (hmk : IntKind.u64.wrap (IntKind.u64.wrap (2 ^ k) - 1) = ((T - 1 : Nat) : Int))
    (HA : Hid (∀ n : Nat, n < 18446744073709551616 → bits .and .u64 (n : Int) ((T - 1 : Nat) : Int) = ((n % T : Nat) : Int))) :
    Calls Tryz.prog 153 #[.pointer (some ⟨b, 0, none⟩), .int .u64 (k : Int)] w (ShPost (dV g nd dp) (2 ^ k) b dp tr w) := by
  have HD := Lib.hid hD
  have HOK := Lib.hid hok
  have hn := hok.le
  have h0 := hok.pos
  clear hD hok
  go_enter Tryz.func153, Tryz.ntmps153
  go_upto_block 0 with fail
  go_cut [4, 6] from 12 to 48 (fun r n wr => ∃ r' n' : Nat, r = .int .i64 r' ∧ n = .int .u64 n' ∧ Hid (Took g nd T r' n') ∧ Hid (Dc wr b g nd dp tr) ∧ Hid (w.grownBy wr (some b)))
  case first =>
    go_wp2_with fail
    go_loopg [4, 6] nd (fun gk r n wr => ∃ j m : Nat, j + gk = nd ∧ r = .int .i64 j ∧ n = .int .u64 m ∧ m < 10 * T ∧ Hid (m = pre g j) ∧ Hid (Dc wr b g nd dp tr) ∧ Hid (w.grownBy wr (some b)))
    case atStart => exact ⟨0, 0, by omega, rfl, rfl, by omega, rfl, HD, World.grownBy.refl w _⟩
    case round =>
      obtain ⟨j, m, hj, rfl, rfl, hm, HM, HDr, HG⟩ := hrel
      rcases Nat.lt_or_ge m T with hmT | hmT
      · have q0 : (((m / T : Nat) : Int) == 0) = true := by rw [Nat.div_eq_of_lt hmT]; rfl
        have hs := HS m
        have c0 := HDr.out.nd_
        rcases Nat.eq_zero_or_pos gk with hg0 | hg0
        · have hjn : j = nd := by omega
          have hpos : 0 < m := by rw [HM.out, hjn]; exact pre_pos HOK.out.hi h0
          have HM2 := Lib.hid (show m = pre g nd by rw [HM.out, hjn])
          subst hjn
          have qz : ((m : Int) == 0) = false := beq_eq_false_iff_ne.2 (by omega)
          go_wp2_with fail
          go_loopg [4, 6] (T - m) (fun gi r n wq => wr = wq ∧ ∃ a m' : Nat, gi = T - m' ∧ r = .int .i64 ((j : Int) + (a : Int)) ∧ n = .int .u64 m' ∧ 0 < m' ∧ m' < 10 * T ∧ a < 25 ∧ Hid (m' = pre g j * 10 ^ a))
          case atStart => exact ⟨rfl, 0, m, rfl, by go_num, rfl, hpos, by omega, by omega, Lib.hid (by rw [HM2.out, Nat.pow_zero, Nat.mul_one])⟩
          case round =>
            obtain ⟨rfl, a, m', rfl, rfl, rfl, hm0, hm1, ha25, HM3⟩ := hrel
            have hs := HS m'
            rcases Nat.lt_or_ge m' T with hmT' | hmT'
            · have q1 : (((m' / T : Nat) : Int) == 0) = true := by rw [Nat.div_eq_of_lt hmT']; rfl
              have ha19 := ten_small (pre_pos HOK.out.hi h0) HM3.out (by omega)
              go_wp2_with fail
              go_roundg (T - m' * 10)
              case rel => exact ⟨rfl, a + 1, m' * 10, rfl, by go_num, by go_num, by omega, by omega, by omega, Lib.hid (by rw [HM3.out, Nat.pow_succ, Nat.mul_assoc])⟩
              case measure => omega
            · have q1 : (((m' / T : Nat) : Int) == 0) = false := beq_eq_false_iff_ne.2 (by have := Nat.div_pos hmT' hT0; omega)
              go_wp2_with fail
              go_meet
              case rel => exact ⟨j + a, m', by go_num, rfl, ⟨j, a, rfl, Nat.le_refl _, .inr rfl, HM3.out, hmT', hm1, by omega, ha25⟩, HDr.out, HG.out⟩
        · have c1 := HDr.out.dig (i := j) (by omega)
          obtain ⟨d1, d2⟩ := HOK.out.dig j (by omega)
          have HM2 := Lib.hid (show m * 10 + (g j - 48) = pre g (j + 1) by rw [HM.out]; rfl)
          go_wp2_with fail
          go_roundg (gk - 1)
          case rel => exact ⟨j + 1, m * 10 + (g j - 48), by omega, by go_num, by go_num, by omega, HM2.out, HDr.out, HG.out⟩
          case measure => omega
      · have q0 : (((m / T : Nat) : Int) == 0) = false := beq_eq_false_iff_ne.2 (by have := Nat.div_pos hmT hT0; omega)
        have hs := HS m
        go_wp2_with fail
        go_meet
        case rel => exact ⟨j, m, rfl, rfl, ⟨j, 0, rfl, by omega, .inl rfl, by rw [HM.out, Nat.pow_zero, Nat.mul_one], hmT, hm, by rcases Nat.eq_zero_or_pos j with h | h; exfalso; subst h; have := HM.out; simp [pre] at this; omega; exact h, by omega⟩, HDr.out, HG.out⟩
  case rest =>
    obtain ⟨r0, n0, rfl, rfl, HTK, HDr, HG⟩ := hcut
    have c0 := HDr.out.dp_
    have f0 := HDr.out.free 801
    obtain ⟨hr1, hr2, hn0⟩ : 1 ≤ r0 ∧ r0 ≤ 20 ∧ n0 < 10 * T := by obtain ⟨j, a, h1, h2, _, _, _, h3, h4, h5⟩ := HTK.out; exact ⟨h4, HTK.out.r_le HOK.out hT, h3⟩
    have HM0 := Lib.hid (show Mid2 g g nd T r0 0 n0 by
      obtain ⟨j, a, h1, h2, h3, h4, h5, h6, h7, h8⟩ := HTK.out
      exact ⟨h6, ⟨j, a, h1, h2, h3, by rw [← h4]; show n0 = 10 * T * 0 + n0; omega⟩, fun x hx => absurd hx (by omega), fun _ _ => rfl, fun h => absurd h (by omega), fun _ => h5, .inl rfl⟩)
    go_wp2_with fail
    go_loopg [4, 5, 6] (nd - r0) (fun gk r i n wr => ∃ i' n' : Nat, ∃ g' : Nat → Nat, gk = nd - (r0 + i') ∧ r = .int .i64 ((r0 : Int) + (i' : Int)) ∧ i = .int .i64 i' ∧ n = .int .u64 n' ∧ n' < 10 * T ∧ i' ≤ 800 ∧ Hid (Mid2 g g' nd T r0 i' n') ∧ Hid (Dc wr b g' nd (dp - ((r0 : Int) - 1)) tr) ∧ Hid (w.grownBy wr (some b)))
    case atStart => exact ⟨0, n0, g, rfl, by go_num, rfl, rfl, hn0, by omega, HM0, HDr.out.setDp _, only_setCell HG.out (.inl rfl) _⟩
    case round =>
      obtain ⟨i, n, g', rfl, rfl, rfl, rfl, hn1, hi8, HM, HDq, HGq⟩ := hrel
      have c2 := HDq.out.nd_
      by_cases hri : r0 + i < nd
      · have c3 := HDq.out.dig (i := r0 + i) (by omega)
        have f3 := HDq.out.free i
        have c4 := HDq.out.dig (i := i) (by omega)
        obtain ⟨d1, d2⟩ := HOK.out.dig (r0 + i) hri
        have hg' := HM.out.far (r0 + i) (by omega)
        rw [hg'] at c3
        have hs := HS n
        have ha := HA.out n (by omega)
        have h9 := div9 hT0 hn1
        have hml := Nat.mod_lt n hT0
        have HMn := Lib.hid (HM.out.put hT0 hri ⟨d1, d2⟩)
        go_wp2_with fail
        go_roundg (nd - (r0 + (i + 1)))
        case rel => exact ⟨i + 1, n % T * 10 + (g (r0 + i) - 48), updG g' i (n / T + 48), rfl, by go_num, by go_num, by go_num, by omega, by omega, HMn, Lib.hid (by rw [dig8 h9]; exact HDq.out.setDig _ (by omega)), only_setCell HGq.out (.inl rfl) _⟩
        case measure => omega
      · have HM3 := Lib.hid (HM.out.done (tr := tr) (by omega) hn)
        go_wp2_with fail
        have HT2 := HT
        go_loopg [5, 6] (k + 1) (fun gk iv nv wr => ∃ i' n' : Nat, ∃ g' : Nat → Nat, ∃ tr' : Bool, gk ≤ k + 1 ∧ 2 ^ (k + 1 - gk) ∣ n' ∧ (gk = 0 → n' = 0) ∧ iv = .int .i64 i' ∧ nv = .int .u64 n' ∧ n' < 10 * T ∧ i' ≤ 800 ∧ Hid (Mid3 g g' nd T r0 i' n' tr tr') ∧ Hid (Dc wr b g' nd (dp - ((r0 : Int) - 1)) tr') ∧ Hid (w.grownBy wr (some b)))
        case atStart => exact ⟨i, n, g', tr, Nat.le_refl _, by rw [Nat.sub_self]; exact Nat.one_dvd _, fun h => absurd h (by omega), rfl, rfl, hn1, hi8, HM3, HDq, HGq⟩
        case round =>
          obtain ⟨i3, n3, g3, tr3, hk1, hk2, hk3, rfl, rfl, hn3, hi3, HMq, HDw, HGw⟩ := hrel
          rcases Nat.eq_zero_or_pos n3 with hz | hz
          · subst hz
            have f3 := HDw.out.free 800
            have c4 := HDw.out.nd_
            have HME := Lib.hid (Mid3.end_ (k := k) (dp := dp) (dp' := dp - ((r0 : Int) - 1)) (by rw [← HT2.out]; exact HMq.out) (by omega) (by omega))
            go_wp2_with (go_at_call 151; refine (strim_any b g3 i3 _ tr3 hi3 _ (HDw.out.setNd i3)).mono ?_; rintro e w' ⟨rfl, hD', hG'⟩; have HDv := Lib.hid hD'; have HGv := Lib.hid hG'; clear hD' hG')
            go_end0
            obtain ⟨k1, k2⟩ := HME.out
            refine ⟨rfl, g3, tzN g3 i3, dp - ((r0 : Int) - 1), tr3, ?_, k1.trim, tz_last (tz_pos k1.lead k1.pos), by omega, by omega, ?_, ?_⟩
            · have h := HDv.out
              rw [if_neg (by have := tz_pos k1.lead k1.pos; omega)] at h
              exact h
            · rw [dV_trim k1 (by omega)]; exact k2
            · exact (only_setCell HGw.out (.inl rfl) _).trans HGv.out
          · have hgp : 0 < gk := by rcases Nat.eq_zero_or_pos gk with h | h; exact absurd (hk3 h) (by omega); exact h
            obtain ⟨ht1, ht2⟩ := two_step HT2.out hgp hk1 hk2
            have HT3 := Lib.hid ht1
            have HT4 := Lib.hid ht2
            clear ht1 ht2 hk2 hk3
            have hs := HS n3
            have ha := HA.out n3 (by omega)
            have h9 := div9 hT0 hn3
            have hml := Nat.mod_lt n3 hT0
            by_cases hi8' : i3 < 800
            · have f3 := HDw.out.free i3
              have c4 := HDw.out.dig (i := i3) hi8'
              have HMn := Lib.hid (HMq.out.put hT0 hi8')
              go_wp2_with fail
              go_roundg (gk - 1)
              case rel => exact ⟨i3 + 1, n3 % T * 10, updG g3 i3 (n3 / T + 48), tr3, by omega, HT3.out, HT4.out, by go_num, by go_num, by omega, by omega, HMn, Lib.hid (by rw [dig8 h9]; exact HDw.out.setDig _ hi8'), only_setCell HGw.out (.inl rfl) _⟩
              case measure => omega
            · have f3 := HDw.out.free 803
              have c4 := HDw.out.tr_
              rcases Nat.eq_zero_or_pos (n3 / T) with hd0 | hd0
              · have q2 : decide (0 < ((n3 / T : Nat) : Int)) = false := decide_eq_false (by omega)
                have HMn := Lib.hid (HMq.out.drop hT0 (by omega) hz tr3 (if_neg (by omega)).symm)
                go_wp2_with fail
                go_roundg (gk - 1)
                case rel => exact ⟨i3, n3 % T * 10, g3, tr3, by omega, HT3.out, HT4.out, rfl, by go_num, by omega, by omega, HMn, HDw.out, HGw.out⟩
                case measure => omega
              · have q2 : decide (0 < ((n3 / T : Nat) : Int)) = true := decide_eq_true (by omega)
                have HMn := Lib.hid (HMq.out.drop hT0 (by omega) hz true (if_pos hd0).symm)
                go_wp2_with fail
                go_roundg (gk - 1)
                case rel => exact ⟨i3, n3 % T * 10, g3, true, by omega, HT3.out, HT4.out, rfl, by go_num, by omega, by omega, HMn, HDw.out.setTr _, only_setCell HGw.out (.inl rfl) _⟩
                case measure => omega
theorem two60 {k : Nat} (hk : k ≤ 60) : 2 ^ k ≤ 1152921504606846976 := Nat.le_trans (Nat.pow_le_pow_right (by decide) hk) (by decide)
theorem wrap_pow {k : Nat} (hk : k ≤ 60) : IntKind.u64.wrap (2 ^ k) = ((2 ^ k : Nat) : Int) := by
  have h := two60 hk
  have e : ((2 : Int) ^ k) = ((2 ^ k : Nat) : Int) := by rw [Int.natCast_pow]; rfl
  rw [e]
  generalize 2 ^ k = T at *
  simp [IntKind.wrap, IntKind.signed, IntKind.bits]; omega
theorem rshift_any (b : Nat) (g : Nat → Nat) (nd k : Nat) (dp : Int) (tr : Bool) (hok : Dok g nd) (w : World) (hD : Dc w b g nd dp tr) (hk : k ≤ 60) (hd1 : -1000 ≤ dp) (hd2 : dp ≤ 1000) :
    Calls Tryz.prog 153 #[.pointer (some ⟨b, 0, none⟩), .int .u64 (k : Int)] w (ShPost (dV g nd dp) (2 ^ k) b dp tr w) := by
  refine rs_any b g nd k (2 ^ k) dp tr hok w hD hk (Nat.two_pow_pos k) (two60 hk) hd1 hd2 rfl (fun n => ?_) ?_ (fun n hn => ?_)
  · rw [Int.natCast_ediv, Int.natCast_pow]; rfl
  · rw [wrap_pow hk]
    have h := two60 hk
    have h0 := Nat.two_pow_pos k
    generalize 2 ^ k = T at *
    simp [IntKind.wrap, IntKind.signed, IntKind.bits]; omega
  · have h := two60 hk
    refine (u64_and_nat n (2 ^ k - 1) hn (by omega)).trans (congrArg Nat.cast ?_)
    exact Nat.and_two_pow_sub_one_eq_mod n k
end Go.Proofs.YtijncfidjjfmiaaGreatDoor

namespace FloM

/-- A text's bytes, as numbers. -/
def sb (c : List UInt8) : Nat → Nat := fun i => (c.getD i 0).toNat
theorem sb_at {c : List UInt8} {i : Nat} {x : UInt8} (h : c[i]? = some x) : sb c i = x.toNat := by
  unfold sb; rw [List.getD_eq_getElem?_getD, h]; rfl
theorem pre_strict {s : Nat → Nat} {L n : Nat} (hd : ∀ i, i < L → 48 ≤ s i ∧ s i ≤ 57) (hl : s (L - 1) ≠ 48) (h : n < L) : pre s n * 10 ^ (L - n) < pre s L := by
  obtain ⟨m, rfl⟩ : ∃ m, L = m + 1 := ⟨L - 1, by omega⟩
  have h1 := (pre_take (nd := m) (fun i hi => hd i (by omega)) (j := n) (by omega)).1
  have h2 := hd m (by omega)
  have h3 : s m ≠ 48 := hl
  show _ < pre s m * 10 + (s m - 48)
  rw [show m + 1 - n = (m - n) + 1 by omega, Nat.pow_succ, ← Nat.mul_assoc]
  omega
theorem less_end {g s : Nat → Nat} {nd L : Nat} (hd : ∀ i, i < nd → 48 ≤ g i ∧ g i ≤ 57) (he : ∀ i, i < L → g i = s i) (hL : L ≤ nd) : ¬ pre g nd * 10 ^ L < pre s L * 10 ^ nd := by
  have h1 := (pre_take hd hL).1
  rw [pre_congr he] at h1
  have h2 := Nat.mul_le_mul_right (10 ^ L) h1
  rw [Nat.mul_assoc, ← Nat.pow_add, Nat.sub_add_cancel hL] at h2
  omega
theorem less_out {g s : Nat → Nat} {nd L : Nat} (hd : ∀ i, i < L → 48 ≤ s i ∧ s i ≤ 57) (hl : s (L - 1) ≠ 48) (he : ∀ i, i < nd → g i = s i) (hL : nd < L) : pre g nd * 10 ^ L < pre s L * 10 ^ nd := by
  have h1 := pre_strict hd hl hL
  rw [← pre_congr he] at h1
  have h2 := Nat.mul_lt_mul_of_pos_right h1 (show 0 < 10 ^ nd from Nat.pow_pos (by decide))
  rw [Nat.mul_assoc, ← Nat.pow_add, Nat.sub_add_cancel (Nat.le_of_lt hL)] at h2
  exact h2
theorem less_one {g s : Nat → Nat} {nd L i : Nat} (hd : ∀ i, i < nd → 48 ≤ g i ∧ g i ≤ 57) (hs : ∀ i, i < L → 48 ≤ s i ∧ s i ≤ 57) (he : ∀ j, j < i → g j = s j) (h1 : i < nd) (h2 : i < L) (h3 : g i < s i) :
    pre g nd * 10 ^ L < pre s L * 10 ^ nd := by
  have a := (pre_take hd (j := i + 1) h1).2
  have b := (pre_take hs (j := i + 1) h2).1
  have e : pre g (i + 1) + 1 ≤ pre s (i + 1) := by
    show pre g i * 10 + (g i - 48) + 1 ≤ pre s i * 10 + (s i - 48)
    rw [pre_congr he]
    have := hd i h1
    omega
  have hp : 0 < 10 ^ L := Nat.pow_pos (by decide)
  calc pre g nd * 10 ^ L < (pre g (i + 1) + 1) * 10 ^ (nd - (i + 1)) * 10 ^ L := Nat.mul_lt_mul_of_pos_right a hp
    _ ≤ pre s (i + 1) * 10 ^ (nd - (i + 1)) * 10 ^ L := Nat.mul_le_mul_right _ (Nat.mul_le_mul_right _ e)
    _ = pre s (i + 1) * 10 ^ (L - (i + 1)) * 10 ^ nd := by
      rw [Nat.mul_assoc, Nat.mul_assoc, ← Nat.pow_add, ← Nat.pow_add]
      rw [show nd - (i + 1) + L = L - (i + 1) + nd by omega]
    _ ≤ pre s L * 10 ^ nd := Nat.mul_le_mul_right _ b
end FloM
namespace Go.Proofs.YtijncfidjjfmiaaGreatDoor
open Go.RowKit FloM

set_option maxRecDepth 100000 in
set_option maxHeartbeats 2000000 in
theorem prefix_any' (b nd cap L : Nat) (g : Nat → Nat) (dp : Int) (tr : Bool) (S : ByteArray) (c : List UInt8) (hok : Dok g nd) (hc : L = c.length) (hS : S.size = L) (hL : L ≤ 60)
    (G : Hid (∀ (k : Nat) (x : UInt8), c[k]? = some x → ∀ hk : k < S.size, S[k]'hk = x)) (hd : Hid (∀ i, i < L → 48 ≤ sb c i ∧ sb c i ≤ 57)) (hl : Hid (sb c (L - 1) ≠ 48)) (w : World) (hD : Dc w b g nd dp tr) :
    Calls Tryz.prog 166 #[.slice (some ⟨b, 0, none⟩) nd cap, .string S] w fun e w' => e = .returned (.bool (decide (pre g nd * 10 ^ L < pre (sb c) L * 10 ^ nd))) ∧ ∃ m, w' = w.drewN m := by
  have HD := Lib.hid hD
  have HOK := Lib.hid hok
  have HC := Lib.hid hc
  have hn := hok.le
  generalize hless : decide (pre g nd * 10 ^ L < pre (sb c) L * 10 ^ nd) = less
  have HLS := Lib.hid hless
  clear hD hok hc hless
  go_enter Tryz.func166, Tryz.ntmps166
  go_wp2_with fail
  go_loopg [5] L (fun gk iv wr => ∃ i : Nat, gk = L - i ∧ i ≤ L ∧ i ≤ nd ∧ iv = .int .i64 i ∧ Hid (∃ n, wr = w.drewN n) ∧ Hid (Dc wr b g nd dp tr) ∧ Hid (∀ j, j < i → g j = sb c j))
  case atStart => exact ⟨0, rfl, by omega, by omega, rfl, ⟨0, rfl⟩, HD, fun j hj => absurd hj (by omega)⟩
  case round =>
    obtain ⟨i, rfl, hi1, hi2, rfl, HW, HDr, HE⟩ := hrel
    by_cases hiL : i < L
    · by_cases hin : i < nd
      · obtain ⟨x, hx⟩ : ∃ x, c[i]? = some x := ⟨c[i]'(by have := HC.out; omega), List.getElem?_eq_getElem _⟩
        have hiS : i < S.size := by omega
        have gx := G.out i x hx hiS
        have hsx := sb_at hx
        have c1 := HDr.out.dig (i := i) (by omega)
        have hg := HOK.out.dig i hin
        have hs := hd.out i hiL
        rw [hsx] at hs
        by_cases hq : g i = x.toNat
        · have q : ((g i : Int) != (x.toNat : Int)) = false := by simp [hq]
          have HE2 := Lib.hid (show ∀ j, j < i + 1 → g j = sb c j from fun j hj => by
            by_cases hji : j = i
            · subst hji; rw [hsx]; exact hq
            · exact HE.out j (by omega))
          clear hq hsx hx
          go_wp2_with fail
          go_quiet (fail)
          go_wp2_with fail
          go_roundg (L - (i + 1))
          case rel => exact ⟨i + 1, rfl, by omega, by omega, by go_num, (by obtain ⟨n, e⟩ := HW.out; exact ⟨n + nq, by rw [e, World.drewN_drewN]⟩), HDr.out.drewN nq, HE2.out⟩
          case measure => omega
        · have q : ((g i : Int) != (x.toNat : Int)) = true := by simp; omega
          have HL := Lib.hid (show (decide (g i < x.toNat) = true ↔ pre g nd * 10 ^ L < pre (sb c) L * 10 ^ nd) by
            rw [decide_eq_true_iff]
            constructor
            · intro hlt
              exact less_one HOK.out.dig hd.out HE.out hin hiL (by rw [hsx]; exact hlt)
            · intro hlt
              rcases Nat.lt_or_ge (g i) x.toNat with h | h
              · exact h
              · have := less_one hd.out HOK.out.dig (fun j hj => (HE.out j hj).symm) hiL hin (by rw [hsx]; omega)
                omega)
          have q2 : decide ((g i : Int) < (x.toNat : Int)) = decide (g i < x.toNat) := by simp
          clear hq hsx hx
          go_wp2_with fail
          go_quiet (fail)
          go_wp2_with fail
          go_quiet (fail)
          go_wp2_with fail
          exact bodyPost_ret (v := .bool (decide (g i < x.toNat))) (by simp [results, Tryz.results166, go_sem]) rfl ⟨by rw [← HLS.out, decide_eq_decide.2 (decide_eq_true_iff.symm.trans HL.out)], (by obtain ⟨n, e⟩ := HW.out; exact ⟨_, by rw [e, World.drewN_drewN, World.drewN_drewN]⟩)⟩
      · have HL := Lib.hid (less_out hd.out hl.out (fun j hj => HE.out j (by omega)) (show nd < L by omega))
        go_wp2_with fail
        exact bodyPost_ret (v := .bool true) (by simp [results, Tryz.results166, go_sem]) rfl ⟨by rw [← HLS.out, decide_eq_true HL.out], HW.out⟩
    · have HL := Lib.hid (less_end HOK.out.dig (fun j hj => HE.out j (by omega)) (show L ≤ nd by omega))
      go_wp2_with fail
      exact bodyPost_ret (v := .bool false) (by simp [results, Tryz.results166, go_sem]) rfl ⟨by rw [← HLS.out, decide_eq_false HL.out], HW.out⟩
/-- Where the first loop stands: r digits are left, n is carried; M's digits lie from w on. -/
structure Lm (g g' : Nat → Nat) (M N w : Nat) (tr tr' : Bool) : Prop where
  put : ∀ i, w ≤ i → i < min N 800 → g' i = 48 + M / 10 ^ (N - 1 - i) % 10
  cut : tr' = (tr || decide (M % 10 ^ (N - max w 800) ≠ 0))
theorem Lm.start {g : Nat → Nat} {M N : Nat} {tr : Bool} : Lm g g M N N tr tr :=
  ⟨fun i h1 h2 => by omega, by rw [show N - max N 800 = 0 by omega, Nat.pow_zero, Nat.mod_one]; simp⟩
theorem div_ten {M a q : Nat} (h : M / 10 ^ a = q) : M / 10 ^ (a + 1) = q / 10 := by rw [Nat.pow_succ, ← Nat.div_div_eq_div_mul, h]
theorem Lm.put_ {g g' : Nat → Nat} {M N w q : Nat} {tr tr' : Bool} (h : Lm g g' M N (w + 1) tr tr') (hw : w + 1 ≤ N) (hq : M / 10 ^ (N - (w + 1)) = q) (h8 : w < 800) :
    Lm g (updG g' w (q % 10 + 48)) M N w tr tr' := by
  refine ⟨fun i h1 h2 => ?_, ?_⟩
  · by_cases hi : i = w
    · subst hi
      rw [updG_at, show N - 1 - i = N - (i + 1) by omega, hq, Nat.add_comm]
    · rw [updG_ne _ _ hi]; exact h.put i (by omega) h2
  · rw [h.cut, Nat.max_eq_right (by omega), Nat.max_eq_right (by omega)]
theorem Lm.drop {g g' : Nat → Nat} {M N w q : Nat} {tr tr' tr2 : Bool} (h : Lm g g' M N (w + 1) tr tr') (hw : w + 1 ≤ N) (hq : M / 10 ^ (N - (w + 1)) = q) (h8 : 800 ≤ w) (ht : tr2 = if q % 10 = 0 then tr' else true) :
    Lm g g' M N w tr tr2 := by
  refine ⟨fun i h1 h2 => by omega, ?_⟩
  have e1 : N - max w 800 = (N - (w + 1)) + 1 := by omega
  have e2 : N - max (w + 1) 800 = N - (w + 1) := by omega
  have hp : 0 < 10 ^ (N - (w + 1)) := Nat.pow_pos (by decide)
  have hc := h.cut
  rw [e2] at hc
  have key : M % 10 ^ (N - (w + 1) + 1) = q % 10 * 10 ^ (N - (w + 1)) + M % 10 ^ (N - (w + 1)) := by
    rw [Nat.pow_succ, Nat.mod_mul, hq]
    rw [Nat.mul_comm]; omega
  rw [e1, key, ht, hc]
  by_cases h0 : q % 10 = 0
  · rw [if_pos h0, h0, Nat.zero_mul, Nat.zero_add]
  · rw [if_neg h0]
    have : 0 < q % 10 * 10 ^ (N - (w + 1)) := Nat.mul_pos (by omega) hp
    rw [decide_eq_true (by omega), Bool.or_true]
/-- A digit more at hand. -/
theorem carry {P P' c T n a M : Nat} (hP : P' = P * 10 + c) (h : M / 10 ^ a = P' * T + n) : M / 10 ^ (a + 1) = P * T + (n + c * T) / 10 ∧ (P' * T + n) % 10 = (n + c * T) % 10 := by
  have e : P' * T + n = P * T * 10 + (n + c * T) := by rw [hP]; grind
  constructor
  · rw [div_ten h, e]; omega
  · rw [e]; omega
end Go.Proofs.YtijncfidjjfmiaaGreatDoor
