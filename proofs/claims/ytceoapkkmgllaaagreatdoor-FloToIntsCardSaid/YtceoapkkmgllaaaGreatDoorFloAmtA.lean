/- Amounts in memory: slices that read as digits; trim, cmpD. -/
import Derived.Test.YtceoapkkmgllaaaGreatDoorFloWalkA
import Derived.Test.YtceoapkkmgllaaaGreatDoorFloMem
import Derived.Test.YtceoapkkmgllaaaGreatDoorFloDig
import Derived.BigQuiet
namespace Go.Proofs.YtceoapkkmgllaaaGreatDoor
open Go.RowKit FloM

/-- Digits as cells. -/
def vals (ds : List Nat) : List Value := ds.map fun d : Nat => Value.int .u16 (d : Int)
theorem vals_len (ds : List Nat) : (vals ds).length = ds.length := by unfold vals; simp
theorem vals_get {n N k : Nat} (h : k < n) : (vals (fd n N))[k]? = some (.int .u16 (dg N k : Nat)) := by
  unfold vals; rw [List.getElem?_map, fd_get h]; rfl
theorem vals_one (ds : List Nat) : ∀ u ∈ vals ds, u.oneCell' = true := by
  intro u hu; unfold vals at hu; obtain ⟨d, _, rfl⟩ := List.mem_map.1 hu; rfl
theorem vals_app (a b : List Nat) : vals (a ++ b) = vals a ++ vals b := by unfold vals; simp

/-- A slice that reads as n digits of N. -/
def DS (w : World) (v : Value) (n N : Nat) : Prop := ∃ A c, v = .slice A n c ∧ n ≤ c ∧ c ≤ maxLen ∧ N < 65536 ^ n ∧ Reads w w.heap.size 1 A n (vals (fd n N))
/-- An amount: no noughts on top. -/
def D (w : World) (v : Value) (N : Nat) : Prop := DS w v (nd N) N

theorem DS.below {w w' : World} {v : Value} {n N : Nat} (h : DS w v n N) (hb : Below w.heap.size w w') : DS w' v n N := by
  obtain ⟨A, c, e, hc, hm, hN, hr⟩ := h
  exact ⟨A, c, e, hc, hm, hN, (hr.below hb).more hb.size⟩
theorem D.below {w w' : World} {v : Value} {N : Nat} (h : D w v N) (hb : Below w.heap.size w w') : D w' v N := DS.below h hb
theorem DS.drewN {w : World} {v : Value} {n N : Nat} (h : DS w v n N) (k : Nat) : DS (w.drewN k) v n N := h
theorem DS.take {w : World} {A : Option Addr} {c n m N : Nat} (hc : n ≤ c) (hx : c ≤ maxLen) (hr : Reads w w.heap.size 1 A n (vals (fd n N))) (hm : m ≤ n) (hN : N < 65536 ^ m) : DS w (.slice A m c) m N := by
  refine ⟨A, c, rfl, by omega, hx, hN, ?_⟩
  refine ⟨by rw [vals_len, fd_len]; omega, fun h => ?_⟩
  obtain ⟨ad, e, hb, hcell⟩ := hr.2 (by omega)
  refine ⟨ad, e, hb, fun j u hu => hcell j u ?_⟩
  have hj : j < m := by
    rcases Nat.lt_or_ge j m with h | h
    · exact h
    · rw [List.getElem?_eq_none (by rw [vals_len, fd_len]; exact h)] at hu; cases hu
  rw [vals_get hj] at hu
  rw [vals_get (by omega)]; exact hu

/-- A cell of it. -/
theorem DS.at_ {w : World} {A : Option Addr} {n N k : Nat} (hr : Reads w w.heap.size 1 A n (vals (fd n N))) (hk : k < n) : ∃ ad, A = some ad ∧ ad.block < w.heap.size ∧ w.cell? (ad.add k) = some (.int .u16 (dg N k : Nat)) := by
  obtain ⟨ad, u, e, hb, hx, hc⟩ := hr.at_ hk
  rw [vals_get hk] at hx
  injection hx with hx
  subst hx
  exact ⟨ad, e, hb, hc⟩

set_option maxRecDepth 100000 in
set_option maxHeartbeats 400000 in
theorem trim_any (A : Option Addr) (n c N : Nat) (w : World) (hc : n ≤ c) (hx : c ≤ 9223372036854775807) (hN : N < 65536 ^ n) (hr : Reads w w.heap.size 1 A n (vals (fd n N))) :
    Calls Tryz.prog 102 #[.slice A n c] w fun e w' => e = .returned (.slice A (nd N) c) ∧ w = w' := by
  have hnd := Lib.hid ((nd_le N n).2 hN)
  have hR := Lib.hid hr
  clear hr hN
  go_enter Tryz.func102, Tryz.ntmps102
  go_wp2
  go_loop [3] (fun i => ∃ k : Nat, k ≤ n ∧ nd N ≤ k ∧ i = .int .i64 k) (fun i => (intOf i).toNat)
  case atStart => exact ⟨n, Nat.le_refl _, hnd.out, rfl⟩
  case round =>
    obtain ⟨k, hk, hk2, rfl⟩ := hrel
    by_cases hlt : nd N < k
    · obtain ⟨ad, rfl, _, hcell⟩ := DS.at_ hR.out (show k - 1 < n by omega)
      have hz : dg N (k - 1) = 0 := dg_zero ((nd_le N _).1 (by omega))
      rw [hz] at hcell
      have h0 : 0 < k := by omega
      clear hz
      go_wp2
      go_round
      case rel => exact ⟨k - 1, by omega, by omega, by go_num⟩
      case measure => simp [intOf]; omega
    · have e : nd N = k := by omega
      by_cases h0 : k = 0
      · subst h0
        have HE := Lib.hid e
        clear e hlt hk2
        go_wp2
        go_ret
        exact ⟨by rw [HE.out]; rfl, rfl⟩
      · obtain ⟨ad, rfl, _, hcell⟩ := DS.at_ hR.out (show k - 1 < n by omega)
        have hN0 : N ≠ 0 := by rintro rfl; rw [nd_zero] at e; omega
        have htop := top_pos hN0
        rw [e] at htop
        have h1 : 0 < k := by omega
        have hb : (((dg N (k - 1) : Nat) : Int) == 0) = false := by rw [beq_eq_false_iff_ne]; omega
        have HE := Lib.hid e
        clear e hlt hk2 hN0 htop h0
        generalize dg N (k - 1) = x at *
        go_wp2
        go_ret
        exact ⟨by rw [HE.out]; rfl, rfl⟩

theorem cmpN_len_lt {a b : Nat} (h : nd a < nd b) : cmpN a b = -1 := by have := cmp_len h; unfold cmpN; rw [if_pos this]
theorem cmpN_len_gt {a b : Nat} (h : nd b < nd a) : cmpN a b = 1 := by have := cmp_len h; unfold cmpN; rw [if_neg (by omega), if_pos this]

theorem cmpN_lt {a b : Nat} (h : a < b) : cmpN a b = -1 := by unfold cmpN; rw [if_pos h]
theorem cmpN_gt {a b : Nat} (h : b < a) : cmpN a b = 1 := by unfold cmpN; rw [if_neg (by omega), if_pos h]
theorem cmpN_eq {a b : Nat} (h : a = b) : cmpN a b = 0 := by unfold cmpN; rw [if_neg (by omega), if_neg (by omega)]

set_option maxRecDepth 100000 in
set_option maxHeartbeats 1000000 in
theorem cmp_same (A B : Option Addr) (c d a b n : Nat) (w : World) (hb1 : n ≤ 100000) (hla : a < 65536 ^ n) (hlb : b < 65536 ^ n) (hr : Reads w w.heap.size 1 A n (vals (fd n a))) (hs : Reads w w.heap.size 1 B n (vals (fd n b))) :
    Calls Tryz.prog 105 #[.slice A n c, .slice B n d] w fun e w' => e = .returned (.int .i64 (cmpN a b)) ∧ ∃ k, w' = w.drewN k := by
  have hR := Lib.hid hr
  have hS := Lib.hid hs
  have hA : Hid (a / 65536 ^ n = b / 65536 ^ n) := by rw [Nat.div_eq_of_lt hla, Nat.div_eq_of_lt hlb]; exact rfl
  clear hr hs hla hlb
  have d1 : ((n : Int) != (n : Int)) = false := by simp
  go_enter Tryz.func105, Tryz.ntmps105
  go_wp2
  go_loopw [5] (fun i wr => (∃ q, wr = w.drewN q) ∧ ((i = .int .i64 (-1) ∧ a = b) ∨ (∃ j : Nat, j < n ∧ i = .int .i64 (j : Int) ∧ a / 65536 ^ (j + 1) = b / 65536 ^ (j + 1)))) (fun i _ => (intOf i + 1).toNat)
  case atStart =>
    refine ⟨⟨0, rfl⟩, ?_⟩
    rcases n with _ | n
    · left
      have := hA.out
      simp at this
      exact ⟨by go_num, this⟩
    · right
      exact ⟨n, by omega, by go_num, hA.out⟩
  case round =>
    obtain ⟨⟨q, rfl⟩, ⟨rfl, hab⟩ | ⟨j, hj, rfl, hab⟩⟩ := hrel
    · have HC := Lib.hid (cmpN_eq hab)
      clear hab
      go_wp2
      go_ret
      exact ⟨by rw [HC.out]; rfl, q, rfl⟩
    · obtain ⟨ad, rfl, _, hcell⟩ := DS.at_ hR.out hj
      obtain ⟨bd, rfl, _, hcell2⟩ := DS.at_ hS.out hj
      have st := cmp_step hab
      have hx := dg_lt a j
      have hy := dg_lt b j
      clear hab
      rcases Nat.lt_trichotomy (dg a j) (dg b j) with h | h | h
      · have HC := Lib.hid (cmpN_lt (st.1 h))
        have e1 : decide (((dg a j : Nat) : Int) < ((dg b j : Nat) : Int)) = true := decide_eq_true (by omega)
        clear st
        generalize dg a j = x at *
        generalize dg b j = y at *
        go_wp2
        go_quiet (fail)
        go_wp2
        go_ret
        exact ⟨by rw [HC.out]; rfl, _, World.drewN_drewN _ _ _⟩
      · have HC := Lib.hid (st.2.2 h)
        clear st
        rw [h] at hcell
        have e1 : ∀ x : Nat, decide ((x : Int) < (x : Int)) = false := fun x => decide_eq_false (by omega)
        clear h hx
        generalize dg b j = y at *
        go_wp2
        go_quiet (fail)
        go_wp2
        go_quiet (fail)
        go_wp2
        go_roundw
        case rel =>
          refine ⟨⟨_, rfl⟩, ?_⟩
          rcases j with _ | j
          · left
            have := HC.out
            simp at this
            exact ⟨by go_num, this⟩
          · right
            exact ⟨j, by omega, by go_num, HC.out⟩
        case measure => simp [intOf]
      · have HC := Lib.hid (cmpN_gt (st.2.1 h))
        have e1 : decide (((dg a j : Nat) : Int) < ((dg b j : Nat) : Int)) = false := decide_eq_false (by omega)
        have e2 : decide (((dg b j : Nat) : Int) < ((dg a j : Nat) : Int)) = true := decide_eq_true (by omega)
        clear st
        generalize dg a j = x at *
        generalize dg b j = y at *
        go_wp2
        go_quiet (fail)
        go_wp2
        go_quiet (fail)
        go_wp2
        go_ret
        exact ⟨by rw [HC.out]; rfl, _, by rw [World.drewN_drewN, World.drewN_drewN]⟩

set_option maxRecDepth 100000 in
set_option maxHeartbeats 400000 in
theorem cmp_any (A B : Option Addr) (c d a b : Nat) (w : World) (hb1 : nd a ≤ 100000) (hr : Reads w w.heap.size 1 A (nd a) (vals (fd (nd a) a))) (hs : Reads w w.heap.size 1 B (nd b) (vals (fd (nd b) b))) :
    Calls Tryz.prog 105 #[.slice A (nd a) c, .slice B (nd b) d] w fun e w' => e = .returned (.int .i64 (cmpN a b)) ∧ ∃ n, w' = w.drewN n := by
  have hR := Lib.hid hr
  have hS := Lib.hid hs
  clear hr hs
  have hla := lt_nd a
  have hlb := lt_nd b
  rcases Nat.lt_trichotomy (nd a) (nd b) with h | h | h
  · have HC := Lib.hid (cmpN_len_lt h)
    have d1 : ((nd a : Int) != (nd b : Int)) = true := by rw [bne_iff_ne]; omega
    have d2 : decide (nd a < nd b) = true := decide_eq_true h
    clear hla hlb h
    generalize nd a = m at *
    generalize nd b = n at *
    go_enter Tryz.func105, Tryz.ntmps105
    go_wp2
    go_ret
    exact ⟨by rw [HC.out]; rfl, 0, rfl⟩
  · rw [← h] at hS hlb ⊢
    exact cmp_same A B c d a b (nd a) w hb1 hla hlb hR.out hS.out
  · have HC := Lib.hid (cmpN_len_gt h)
    have d1 : ((nd a : Int) != (nd b : Int)) = true := by rw [bne_iff_ne]; omega
    have d2 : decide (nd a < nd b) = false := decide_eq_false (by omega)
    clear hla hlb h
    generalize nd a = m at *
    generalize nd b = n at *
    go_enter Tryz.func105, Tryz.ntmps105
    go_wp2
    go_ret
    exact ⟨by rw [HC.out]; rfl, 0, rfl⟩
end Go.Proofs.YtceoapkkmgllaaaGreatDoor
