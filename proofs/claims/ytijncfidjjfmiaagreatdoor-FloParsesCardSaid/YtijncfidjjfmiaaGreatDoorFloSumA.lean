/- Amounts in memory: slices that read as digits; trim, cmpD. Amounts: addD. Amounts: subD, timesD; what a call gives. Amounts: digit. -/
import Derived.Test.YtijncfidjjfmiaaGreatDoorFloWalkAB
import Derived.Test.YtijncfidjjfmiaaGreatDoorFloMem
import Derived.Test.YtijncfidjjfmiaaGreatDoorFloBase
import Derived.BigQuiet
import Derived.IntWalk
namespace Go.Proofs.YtijncfidjjfmiaaGreatDoor
open Go.RowKit FloM

/-- Digits as cells. -/
def vals (ds : List Nat) : List Value := ds.map fun d : Nat => Value.int .u16 (d : Int)
theorem vals_len (ds : List Nat) : (vals ds).length = ds.length := by unfold vals; simp
theorem vals_get {n N k : Nat} (h : k < n) : (vals (fd n N))[k]? = some (.int .u16 (dg N k : Nat)) := by
  unfold vals; rw [List.getElem?_map, fd_get h]; rfl
theorem vals_one (ds : List Nat) : ∀ u ∈ vals ds, u.oneCell' = true := by
  intro u hu; unfold vals at hu; obtain ⟨d, _, rfl⟩ := List.mem_map.1 hu; rfl
theorem vals_app (a b : List Nat) : vals (a ++ b) = vals a ++ vals b := by unfold vals; simp

/-- A slice that reads as n digits of N. -/
def DS (w : World) (v : Value) (n N : Nat) : Prop := ∃ A c, v = .slice A n c ∧ n ≤ c ∧ c ≤ maxLen ∧ N < 65536 ^ n ∧ Reads w w.heap.size 1 A n (vals (fd n N))
/-- An amount: no noughts on top. -/
def D (w : World) (v : Value) (N : Nat) : Prop := DS w v (nd N) N

theorem DS.below {w w' : World} {v : Value} {n N : Nat} (h : DS w v n N) (hb : Below w.heap.size w w') : DS w' v n N := by
  obtain ⟨A, c, e, hc, hm, hN, hr⟩ := h
  exact ⟨A, c, e, hc, hm, hN, (hr.below hb).more hb.size⟩
theorem D.below {w w' : World} {v : Value} {N : Nat} (h : D w v N) (hb : Below w.heap.size w w') : D w' v N := DS.below h hb
theorem DS.drewN {w : World} {v : Value} {n N : Nat} (h : DS w v n N) (k : Nat) : DS (w.drewN k) v n N := h
theorem DS.take {w : World} {A : Option Addr} {c n m N : Nat} (hc : n ≤ c) (hx : c ≤ maxLen) (hr : Reads w w.heap.size 1 A n (vals (fd n N))) (hm : m ≤ n) (hN : N < 65536 ^ m) : DS w (.slice A m c) m N := by
  refine ⟨A, c, rfl, by omega, hx, hN, ?_⟩
  refine ⟨by rw [vals_len, fd_len]; omega, fun h => ?_⟩
  obtain ⟨ad, e, hb, hcell⟩ := hr.2 (by omega)
  refine ⟨ad, e, hb, fun j u hu => hcell j u ?_⟩
  have hj : j < m := by
    rcases Nat.lt_or_ge j m with h | h
    · exact h
    · rw [List.getElem?_eq_none (by rw [vals_len, fd_len]; exact h)] at hu; cases hu
  rw [vals_get hj] at hu
  rw [vals_get (by omega)]; exact hu

/-- A cell of it. -/
theorem DS.at_ {w : World} {A : Option Addr} {n N k : Nat} (hr : Reads w w.heap.size 1 A n (vals (fd n N))) (hk : k < n) : ∃ ad, A = some ad ∧ ad.block < w.heap.size ∧ w.cell? (ad.add k) = some (.int .u16 (dg N k : Nat)) := by
  obtain ⟨ad, u, e, hb, hx, hc⟩ := hr.at_ hk
  rw [vals_get hk] at hx
  injection hx with hx
  subst hx
  exact ⟨ad, e, hb, hc⟩

set_option maxRecDepth 100000 in
set_option maxHeartbeats 400000 in
theorem trim_any (A : Option Addr) (n c N : Nat) (w : World) (hc : n ≤ c) (hx : c ≤ 9223372036854775807) (hN : N < 65536 ^ n) (hr : Reads w w.heap.size 1 A n (vals (fd n N))) :
    Calls Tryz.prog 58 #[.slice A n c] w fun e w' => e = .returned (.slice A (nd N) c) ∧ w = w' := by
  have hnd := Lib.hid ((nd_le N n).2 hN)
  have hR := Lib.hid hr
  clear hr hN
  go_enter Tryz.func58, Tryz.ntmps58
  go_wp2
  go_loop [3] (fun i => ∃ k : Nat, k ≤ n ∧ nd N ≤ k ∧ i = .int .i64 k) (fun i => (intOf i).toNat)
  case atStart => exact ⟨n, Nat.le_refl _, hnd.out, rfl⟩
  case round =>
    obtain ⟨k, hk, hk2, rfl⟩ := hrel
    by_cases hlt : nd N < k
    · obtain ⟨ad, rfl, _, hcell⟩ := DS.at_ hR.out (show k - 1 < n by omega)
      have hz : dg N (k - 1) = 0 := dg_zero ((nd_le N _).1 (by omega))
      rw [hz] at hcell
      have h0 : 0 < k := by omega
      clear hz
      go_wp2
      go_round
      case rel => exact ⟨k - 1, by omega, by omega, by go_num⟩
      case measure => simp [intOf]; omega
    · have e : nd N = k := by omega
      by_cases h0 : k = 0
      · subst h0
        have HE := Lib.hid e
        clear e hlt hk2
        go_wp2
        go_ret
        exact ⟨by rw [HE.out]; rfl, rfl⟩
      · obtain ⟨ad, rfl, _, hcell⟩ := DS.at_ hR.out (show k - 1 < n by omega)
        have hN0 : N ≠ 0 := by rintro rfl; rw [nd_zero] at e; omega
        have htop := top_pos hN0
        rw [e] at htop
        have h1 : 0 < k := by omega
        have hb : (((dg N (k - 1) : Nat) : Int) == 0) = false := by rw [beq_eq_false_iff_ne]; omega
        have HE := Lib.hid e
        clear e hlt hk2 hN0 htop h0
        generalize dg N (k - 1) = x at *
        go_wp2
        go_ret
        exact ⟨by rw [HE.out]; rfl, rfl⟩

theorem cmpN_len_lt {a b : Nat} (h : nd a < nd b) : cmpN a b = -1 := by have := cmp_len h; unfold cmpN; rw [if_pos this]
theorem cmpN_len_gt {a b : Nat} (h : nd b < nd a) : cmpN a b = 1 := by have := cmp_len h; unfold cmpN; rw [if_neg (by omega), if_pos this]

theorem cmpN_lt {a b : Nat} (h : a < b) : cmpN a b = -1 := by unfold cmpN; rw [if_pos h]
theorem cmpN_gt {a b : Nat} (h : b < a) : cmpN a b = 1 := by unfold cmpN; rw [if_neg (by omega), if_pos h]
theorem cmpN_eq {a b : Nat} (h : a = b) : cmpN a b = 0 := by unfold cmpN; rw [if_neg (by omega), if_neg (by omega)]

set_option maxRecDepth 100000 in
set_option maxHeartbeats 1000000 in
theorem cmp_same (A B : Option Addr) (c d a b n : Nat) (w : World) (hb1 : n ≤ 100000) (hla : a < 65536 ^ n) (hlb : b < 65536 ^ n) (hr : Reads w w.heap.size 1 A n (vals (fd n a))) (hs : Reads w w.heap.size 1 B n (vals (fd n b))) :
    Calls Tryz.prog 103 #[.slice A n c, .slice B n d] w fun e w' => e = .returned (.int .i64 (cmpN a b)) ∧ ∃ k, w' = w.drewN k := by
  have hR := Lib.hid hr
  have hS := Lib.hid hs
  have hA : Hid (a / 65536 ^ n = b / 65536 ^ n) := by rw [Nat.div_eq_of_lt hla, Nat.div_eq_of_lt hlb]; exact rfl
  clear hr hs hla hlb
  have d1 : ((n : Int) != (n : Int)) = false := by simp
  go_enter Tryz.func103, Tryz.ntmps103
  go_wp2
  go_loopw [5] (fun i wr => (∃ q, wr = w.drewN q) ∧ ((i = .int .i64 (-1) ∧ a = b) ∨ (∃ j : Nat, j < n ∧ i = .int .i64 (j : Int) ∧ a / 65536 ^ (j + 1) = b / 65536 ^ (j + 1)))) (fun i _ => (intOf i + 1).toNat)
  case atStart =>
    refine ⟨⟨0, rfl⟩, ?_⟩
    rcases n with _ | n
    · left
      have := hA.out
      simp at this
      exact ⟨by go_num, this⟩
    · right
      exact ⟨n, by omega, by go_num, hA.out⟩
  case round =>
    obtain ⟨⟨q, rfl⟩, ⟨rfl, hab⟩ | ⟨j, hj, rfl, hab⟩⟩ := hrel
    · have HC := Lib.hid (cmpN_eq hab)
      clear hab
      go_wp2
      go_ret
      exact ⟨by rw [HC.out]; rfl, q, rfl⟩
    · obtain ⟨ad, rfl, _, hcell⟩ := DS.at_ hR.out hj
      obtain ⟨bd, rfl, _, hcell2⟩ := DS.at_ hS.out hj
      have st := cmp_step hab
      have hx := dg_lt a j
      have hy := dg_lt b j
      clear hab
      rcases Nat.lt_trichotomy (dg a j) (dg b j) with h | h | h
      · have HC := Lib.hid (cmpN_lt (st.1 h))
        have e1 : decide (((dg a j : Nat) : Int) < ((dg b j : Nat) : Int)) = true := decide_eq_true (by omega)
        clear st
        generalize dg a j = x at *
        generalize dg b j = y at *
        go_wp2
        go_quiet (fail)
        go_wp2
        go_ret
        exact ⟨by rw [HC.out]; rfl, _, World.drewN_drewN _ _ _⟩
      · have HC := Lib.hid (st.2.2 h)
        clear st
        rw [h] at hcell
        have e1 : ∀ x : Nat, decide ((x : Int) < (x : Int)) = false := fun x => decide_eq_false (by omega)
        clear h hx
        generalize dg b j = y at *
        go_wp2
        go_quiet (fail)
        go_wp2
        go_quiet (fail)
        go_wp2
        go_roundw
        case rel =>
          refine ⟨⟨_, rfl⟩, ?_⟩
          rcases j with _ | j
          · left
            have := HC.out
            simp at this
            exact ⟨by go_num, this⟩
          · right
            exact ⟨j, by omega, by go_num, HC.out⟩
        case measure => simp [intOf]
      · have HC := Lib.hid (cmpN_gt (st.2.1 h))
        have e1 : decide (((dg a j : Nat) : Int) < ((dg b j : Nat) : Int)) = false := decide_eq_false (by omega)
        have e2 : decide (((dg b j : Nat) : Int) < ((dg a j : Nat) : Int)) = true := decide_eq_true (by omega)
        clear st
        generalize dg a j = x at *
        generalize dg b j = y at *
        go_wp2
        go_quiet (fail)
        go_wp2
        go_quiet (fail)
        go_wp2
        go_ret
        exact ⟨by rw [HC.out]; rfl, _, by rw [World.drewN_drewN, World.drewN_drewN]⟩

set_option maxRecDepth 100000 in
set_option maxHeartbeats 400000 in
theorem cmp_any (A B : Option Addr) (c d a b : Nat) (w : World) (hb1 : nd a ≤ 100000) (hr : Reads w w.heap.size 1 A (nd a) (vals (fd (nd a) a))) (hs : Reads w w.heap.size 1 B (nd b) (vals (fd (nd b) b))) :
    Calls Tryz.prog 103 #[.slice A (nd a) c, .slice B (nd b) d] w fun e w' => e = .returned (.int .i64 (cmpN a b)) ∧ ∃ n, w' = w.drewN n := by
  have hR := Lib.hid hr
  have hS := Lib.hid hs
  clear hr hs
  have hla := lt_nd a
  have hlb := lt_nd b
  rcases Nat.lt_trichotomy (nd a) (nd b) with h | h | h
  · have HC := Lib.hid (cmpN_len_lt h)
    have d1 : ((nd a : Int) != (nd b : Int)) = true := by rw [bne_iff_ne]; omega
    have d2 : decide (nd a < nd b) = true := decide_eq_true h
    clear hla hlb h
    generalize nd a = m at *
    generalize nd b = n at *
    go_enter Tryz.func103, Tryz.ntmps103
    go_wp2
    go_ret
    exact ⟨by rw [HC.out]; rfl, 0, rfl⟩
  · rw [← h] at hS hlb ⊢
    exact cmp_same A B c d a b (nd a) w hb1 hla hlb hR.out hS.out
  · have HC := Lib.hid (cmpN_len_gt h)
    have d1 : ((nd a : Int) != (nd b : Int)) = true := by rw [bne_iff_ne]; omega
    have d2 : decide (nd a < nd b) = false := decide_eq_false (by omega)
    clear hla hlb h
    generalize nd a = m at *
    generalize nd b = n at *
    go_enter Tryz.func103, Tryz.ntmps103
    go_wp2
    go_ret
    exact ⟨by rw [HC.out]; rfl, 0, rfl⟩
end Go.Proofs.YtijncfidjjfmiaaGreatDoor

namespace Go.Proofs.YtijncfidjjfmiaaGreatDoor
open Go.RowKit FloM

theorem info16 : (Tryz.prog.info? 81).map (fun i => (i.zero, i.size, i.bytes)) = some (some (.int .u16 0), 1, 2) := by kernel_rfl
theorem und16 : Tryz.prog.underlying 52 = some (.slice 81) := by kernel_rfl

/-- What is gathered in a row of the call's own. -/
def Own (base : Nat) (w : World) (v : Value) (k N : Nat) : Prop := w.ownsRow base 81 1 v k (vals (fd k N))

theorem Own.DS {base : Nat} {w : World} {v : Value} {k N : Nat} (h : Own base w v k N) (hN : N < 65536 ^ k) : DS w v k N := by
  rcases h.2 with ⟨rfl, h0⟩ | ⟨g, cap, cur, rfl, h1, h2, h3, h4, h5⟩
  · subst h0
    exact ⟨none, 0, rfl, Nat.le_refl _, by unfold maxLen; omega, hN, Reads.none_⟩
  · exact ⟨_, _, rfl, h3, h4, hN, Reads.of_own (c := cap) h⟩

/-- One digit more. -/
theorem Own.more {base : Nat} {w : World} {v : Value} {k N : Nat} {d : Int} (h : w.ownsRow base 81 1 v (k + 1) (vals (fd k N) ++ [.int .u16 d])) (hd : d = (dg N k : Nat)) : Own base w v (k + 1) N := by
  unfold Own
  rw [fd_succ, vals_app]
  subst hd
  exact h

/-- The cells of the one digit that is appended. -/
theorem one_cell (w : World) (d : Int) (t : TypeId) : ∀ j u, [Value.int .u16 d][j]? = some u → (w.alloc (.cells #[.int .u16 d] t)).cell? ((⟨w.heap.size, 0, none⟩ : Addr).add j) = some u := by
  intro j u hj
  match j, hj with
  | 0, hj => simp at hj; subst hj; simp [Addr.add]
theorem one_one (d : Int) : ∀ u ∈ [Value.int .u16 d], u.oneCell' = true := by
  intro u hu; simp at hu; subst hu; rfl

set_option maxRecDepth 100000 in
set_option maxHeartbeats 1000000 in
theorem add_any' (A B : Option Addr) (c d a b : Nat) (w : World) (hb1 : nd a ≤ 100000) (hb2 : nd b ≤ 100000) (hr : Reads w w.heap.size 1 A (nd a) (vals (fd (nd a) a))) (hs : Reads w w.heap.size 1 B (nd b) (vals (fd (nd b) b))) :
    Calls Tryz.prog 54 #[.slice A (nd a) c, .slice B (nd b) d] w fun e w' => ∃ v, e = .returned v ∧ Own w.heap.size w' v (nd (a + b)) (a + b) ∧ Below w.heap.size w w' := by
  obtain ⟨i0, hi0, hz0, hz1, hz2⟩ := info_parts info16
  have hR := Lib.hid hr
  have hS := Lib.hid hs
  have hb3 : nd (a + b) ≤ 100001 := by
    have := cyA_done (a := a) (b := b) (i := max (nd a) (nd b) + 1) (by omega) (by omega) (by
      unfold cyA
      have h1 : a < 65536 ^ max (nd a) (nd b) := (nd_le a _).1 (by omega)
      have h2 : b < 65536 ^ max (nd a) (nd b) := (nd_le b _).1 (by omega)
      apply Nat.div_eq_of_lt
      have h3 := Nat.mod_le a (65536 ^ (max (nd a) (nd b) + 1))
      have h4 := Nat.mod_le b (65536 ^ (max (nd a) (nd b) + 1))
      rw [Nat.pow_succ] at *
      omega)
    omega
  clear hr hs
  go_enter Tryz.func54, Tryz.ntmps54
  go_wp2
  go_loopw [5, 6, 7] (fun o cy i wr => ∃ k : Nat, k ≤ nd (a + b) ∧ Own w.heap.size wr o k (a + b) ∧ cy = .int .u32 (cyA a b k : Nat) ∧ i = .int .i64 k ∧ Below w.heap.size w wr) (fun _ _ i _ => nd (a + b) - (intOf i).toNat)
  case atStart => exact ⟨0, Nat.zero_le _, World.ownsRow_nil _ _ _ _, by rw [cyA_zero]; rfl, rfl, Below.refl _ _⟩
  case round =>
    obtain ⟨k, hk, hown, rfl, rfl, hbel⟩ := hrel
    have hcy := cyA_le a b k
    have hstep := cyA_step a b k
    by_cases h1 : k < nd a
    · have hm := cyA_more (b := b) (.inl h1)
      obtain ⟨ad, rfl, ha, hcell⟩ := DS.at_ hR.out h1
      rw [← hbel.cell (by rw [block_of_add]; exact ha)] at hcell
      have hx := dg_lt a k
      by_cases h2 : k < nd b
      · obtain ⟨bd, rfl, hb, hcell2⟩ := DS.at_ hS.out h2
        rw [← hbel.cell (by rw [block_of_add]; exact hb)] at hcell2
        have hy := dg_lt b k
        have HS := Lib.hid hstep
        clear hstep
        generalize dg a k = x at *
        generalize dg b k = y at *
        generalize cyA a b k = cy at *
        have hown' : wr.ownsRow w.heap.size 81 1 _ k (vals (fd k (a + b))) := hown
        have hsz := hbel.size
        clear hown
        go_wp2_with (at_builtin; refine wpList_append_own _ rfl _ _ 52 rfl w.heap.size 81 i0 (.int .u16 0) 1 2 und16 hi0 hz0 hz1 hz2 rfl (by decide) _ _ _ rfl (hown'.alloc _) ⟨wr.heap.size, 0, none⟩ 1 1 [_] rfl rfl (one_cell wr _ _) (one_one _) (by unfold maxLen; omega) (by omega) (by simp; omega) ?_)
        intro v' w1 hown1 hgrow _
        have hown2 := Own.more hown1 (by have := HS.out.1; first | (rw [IntKind.wrap_u16]; omega) | omega)
        have bel2 := (hbel.alloc hsz _).grown hgrow (by simp; omega) (fun j hj => (hown'.lt j hj).1)
        clear hown1 hgrow hown' hbel
        go_wp2
        go_roundw
        case rel => exact ⟨k + 1, hm, hown2, by have := HS.out.2; go_num, by go_num, bel2⟩
        case measure => simp [intOf]; omega
      · have d2 : decide (k < nd b) = false := decide_eq_false h2
        rw [dg_zero ((nd_le b k).1 (by omega)), Nat.add_zero] at hstep
        clear h2
        have HS := Lib.hid hstep
        clear hstep
        generalize dg a k = x at *
        generalize cyA a b k = cy at *
        have hown' : wr.ownsRow w.heap.size 81 1 _ k (vals (fd k (a + b))) := hown
        have hsz := hbel.size
        clear hown
        go_wp2_with (at_builtin; refine wpList_append_own _ rfl _ _ 52 rfl w.heap.size 81 i0 (.int .u16 0) 1 2 und16 hi0 hz0 hz1 hz2 rfl (by decide) _ _ _ rfl (hown'.alloc _) ⟨wr.heap.size, 0, none⟩ 1 1 [_] rfl rfl (one_cell wr _ _) (one_one _) (by unfold maxLen; omega) (by omega) (by simp; omega) ?_)
        intro v' w1 hown1 hgrow _
        have hown2 := Own.more hown1 (by have := HS.out.1; first | (rw [IntKind.wrap_u16]; omega) | omega)
        have bel2 := (hbel.alloc hsz _).grown hgrow (by simp; omega) (fun j hj => (hown'.lt j hj).1)
        clear hown1 hgrow hown' hbel
        go_wp2
        go_roundw
        case rel => exact ⟨k + 1, hm, hown2, by have := HS.out.2; go_num, by go_num, bel2⟩
        case measure => simp [intOf]; omega
    · have d1 : decide (k < nd a) = false := decide_eq_false h1
      by_cases h2 : k < nd b
      · have hm := cyA_more (a := a) (.inr (.inl h2))
        obtain ⟨bd, rfl, hb, hcell2⟩ := DS.at_ hS.out h2
        rw [← hbel.cell (by rw [block_of_add]; exact hb)] at hcell2
        have hy := dg_lt b k
        rw [dg_zero ((nd_le a k).1 (by omega)), Nat.add_zero] at hstep
        clear h1
        have HS := Lib.hid hstep
        clear hstep
        generalize dg b k = y at *
        generalize cyA a b k = cy at *
        have hown' : wr.ownsRow w.heap.size 81 1 _ k (vals (fd k (a + b))) := hown
        have hsz := hbel.size
        clear hown
        go_wp2_with (at_builtin; refine wpList_append_own _ rfl _ _ 52 rfl w.heap.size 81 i0 (.int .u16 0) 1 2 und16 hi0 hz0 hz1 hz2 rfl (by decide) _ _ _ rfl (hown'.alloc _) ⟨wr.heap.size, 0, none⟩ 1 1 [_] rfl rfl (one_cell wr _ _) (one_one _) (by unfold maxLen; omega) (by omega) (by simp; omega) ?_)
        intro v' w1 hown1 hgrow _
        have hown2 := Own.more hown1 (by have := HS.out.1; first | (rw [IntKind.wrap_u16]; omega) | omega)
        have bel2 := (hbel.alloc hsz _).grown hgrow (by simp; omega) (fun j hj => (hown'.lt j hj).1)
        clear hown1 hgrow hown' hbel
        go_wp2
        go_roundw
        case rel => exact ⟨k + 1, hm, hown2, by have := HS.out.2; go_num, by go_num, bel2⟩
        case measure => simp [intOf]; omega
      · have d2 : decide (k < nd b) = false := decide_eq_false h2
        rw [dg_zero ((nd_le a k).1 (by omega)), dg_zero ((nd_le b k).1 (by omega)), Nat.add_zero, Nat.add_zero] at hstep
        by_cases h3 : 0 < cyA a b k
        · have hm := cyA_more (.inr (.inr h3))
          clear h1 h2
          have HS := Lib.hid hstep
          clear hstep
          generalize cyA a b k = cy at *
          have hown' : wr.ownsRow w.heap.size 81 1 _ k (vals (fd k (a + b))) := hown
          have hsz := hbel.size
          clear hown
          go_wp2_with (at_builtin; refine wpList_append_own _ rfl _ _ 52 rfl w.heap.size 81 i0 (.int .u16 0) 1 2 und16 hi0 hz0 hz1 hz2 rfl (by decide) _ _ _ rfl (hown'.alloc _) ⟨wr.heap.size, 0, none⟩ 1 1 [_] rfl rfl (one_cell wr _ _) (one_one _) (by unfold maxLen; omega) (by omega) (by simp; omega) ?_)
          intro v' w1 hown1 hgrow _
          have hown2 := Own.more hown1 (by have := HS.out.1; first | (rw [IntKind.wrap_u16]; omega) | omega)
          have bel2 := (hbel.alloc hsz _).grown hgrow (by simp; omega) (fun j hj => (hown'.lt j hj).1)
          clear hown1 hgrow hown' hbel
          go_wp2
          go_roundw
          case rel => exact ⟨k + 1, hm, hown2, by have := HS.out.2; go_num, by go_num, bel2⟩
          case measure => simp [intOf]; omega
        · have HE := Lib.hid (show nd (a + b) = k from Nat.le_antisymm (cyA_done (by omega) (by omega) (by omega)) hk)
          have hcz : cyA a b k = 0 := by omega
          rw [hcz]
          have HO := Lib.hid hown
          have HB := Lib.hid hbel
          clear hstep hcz h3 hcy h1 h2 hown hbel hk
          go_wp2
          go_ret
          refine ⟨_, rfl, ?_, HB.out⟩
          rw [HE.out]
          exact HO.out
end Go.Proofs.YtijncfidjjfmiaaGreatDoor

namespace Go.Proofs.YtijncfidjjfmiaaGreatDoor
open Go.RowKit FloM

/-- What a call that makes an amount gives. -/
def Fr (lo : Nat) (v : Value) : Prop := ∀ g, v.ownBlock = some g → lo ≤ g
theorem Own.fr {base : Nat} {w : World} {v : Value} {k N : Nat} (h : Own base w v k N) : Fr base v := fun g hg => (World.ownsRow.lt h g hg).1
theorem Fr.of {lo : Nat} {v v' : Value} (h : Fr lo v) (e : v'.ownBlock = v.ownBlock) : Fr lo v' := fun g hg => h g (e.symm.trans hg)
def GivesD (w : World) (N : Nat) (e : Ending) (w' : World) : Prop := ∃ v, e = .returned v ∧ D w' v N ∧ Fr w.heap.size v ∧ Below w.heap.size w w'

/-- trim, at a row. -/
theorem trim_D (v : Value) (n N : Nat) (w : World) (h : DS w v n N) : Calls Tryz.prog 58 #[v] w fun e w' => (∃ v', e = .returned v' ∧ D w v' N ∧ v'.ownBlock = v.ownBlock) ∧ w = w' := by
  obtain ⟨A, c, rfl, hc, hx, hN, hr⟩ := h
  refine (trim_any A n c N w hc hx hN hr).mono ?_
  rintro e w' ⟨rfl, rfl⟩
  exact ⟨⟨_, rfl, DS.take hc hx hr ((nd_le N n).2 hN) (lt_nd N), by cases A <;> rfl⟩, rfl⟩

theorem add_D (va vb : Value) (a b : Nat) (w : World) (hb1 : nd a ≤ 100000) (hb2 : nd b ≤ 100000) (ha : D w va a) (hb : D w vb b) :
    Calls Tryz.prog 54 #[va, vb] w (GivesD w (a + b)) := by
  obtain ⟨A, c, rfl, _, _, _, hr⟩ := ha
  obtain ⟨B, d, rfl, _, _, _, hs⟩ := hb
  refine (add_any' A B c d a b w hb1 hb2 hr hs).mono ?_
  rintro e w' ⟨v, rfl, ho, hbel⟩
  exact ⟨v, rfl, ho.DS (lt_nd _), ho.fr, hbel⟩

theorem cmp_D (va vb : Value) (a b : Nat) (w : World) (hb1 : nd a ≤ 100000) (ha : D w va a) (hb : D w vb b) :
    Calls Tryz.prog 103 #[va, vb] w fun e w' => e = .returned (.int .i64 (cmpN a b)) ∧ ∃ n, w' = w.drewN n := by
  obtain ⟨A, c, rfl, _, _, _, hr⟩ := ha
  obtain ⟨B, d, rfl, _, _, _, hs⟩ := hb
  exact cmp_any A B c d a b w hb1 hr hs

set_option maxRecDepth 100000 in
set_option maxHeartbeats 1600000 in
/-- subD: b + r less b. -/
theorem sub_any' (A B : Option Addr) (c d b r : Nat) (w : World) (hb1 : nd (b + r) ≤ 100000) (hr : Reads w w.heap.size 1 A (nd (b + r)) (vals (fd (nd (b + r)) (b + r)))) (hs : Reads w w.heap.size 1 B (nd b) (vals (fd (nd b) b))) :
    Calls Tryz.prog 131 #[.slice A (nd (b + r)) c, .slice B (nd b) d] w (GivesD w r) := by
  obtain ⟨i0, hi0, hz0, hz1, hz2⟩ := info_parts info16
  have hR := Lib.hid hr
  have hS := Lib.hid hs
  have hbn : nd b ≤ nd (b + r) := nd_mono (by omega)
  have hrn := Lib.hid (Nat.lt_of_le_of_lt (show r ≤ b + r by omega) (lt_nd (b + r)))
  clear hr hs
  go_enter Tryz.func131, Tryz.ntmps131
  go_wp2
  go_loopw [5, 6, 7] (fun o cy i wr => ∃ k : Nat, k ≤ nd (b + r) ∧ Own w.heap.size wr o k r ∧ cy = .int .i32 (cyA b r k : Nat) ∧ i = .int .i64 k ∧ Below w.heap.size w wr) (fun _ _ i _ => nd (b + r) - (intOf i).toNat)
  case atStart => exact ⟨0, Nat.zero_le _, World.ownsRow_nil _ _ _ _, by rw [cyA_zero]; rfl, rfl, Below.refl _ _⟩
  case round =>
    obtain ⟨k, hk, hown, rfl, rfl, hbel⟩ := hrel
    by_cases h1 : k < nd (b + r)
    · have hcy := cyA_le b r k
      have hcy2 := cyA_le b r (k + 1)
      have st := sub_step b r k
      obtain ⟨ad, rfl, ha, hcell⟩ := DS.at_ hR.out h1
      rw [← hbel.cell (by rw [block_of_add]; exact ha)] at hcell
      have hx := dg_lt (b + r) k
      generalize dg (b + r) k = x at *
      generalize cyA b r k = cy at *
      by_cases h2 : k < nd b
      · obtain ⟨bd, rfl, hb, hcell2⟩ := DS.at_ hS.out h2
        rw [← hbel.cell (by rw [block_of_add]; exact hb)] at hcell2
        have hy := dg_lt b k
        generalize dg b k = y at *
        by_cases hneg : (((x : Nat) : Int) - (cy : Nat) - (y : Nat)) < 0
        · have hown' : wr.ownsRow w.heap.size 81 1 _ k (vals (fd k r)) := hown
          have e1 : decide ((((x : Nat) : Int) - (cy : Nat) - (y : Nat)) < 0) = true := decide_eq_true hneg
          have HS := Lib.hid (show ((dg r k : Nat) : Int) = (((x : Nat) : Int) - (cy : Nat) - (y : Nat)) + 65536 ∧ cyA b r (k + 1) = 1 from by omega)
          clear st hcy2

          have hsz := hbel.size
          clear hown
          go_wp2_with (at_builtin; refine wpList_append_own _ rfl _ _ 52 rfl w.heap.size 81 i0 (.int .u16 0) 1 2 und16 hi0 hz0 hz1 hz2 rfl (by decide) _ _ _ rfl (hown'.alloc _) ⟨wr.heap.size, 0, none⟩ 1 1 [_] rfl rfl (one_cell wr _ _) (one_one _) (by unfold maxLen; omega) (by omega) (by simp; omega) ?_)
          intro v' w1 hown1 hgrow _
          have hown2 := Own.more hown1 (by have := HS.out; first | (rw [IntKind.wrap_u16]; omega) | omega)
          have bel2 := (hbel.alloc hsz _).grown hgrow (by simp; omega) (fun j hj => (hown'.lt j hj).1)
          clear hown1 hgrow hown' hbel
          go_wp2
          go_roundw
          case rel => exact ⟨k + 1, by omega, hown2, by have := HS.out; go_num, by go_num, bel2⟩
          case measure => simp [intOf]; omega
        · have hown' : wr.ownsRow w.heap.size 81 1 _ k (vals (fd k r)) := hown
          have e1 : decide ((((x : Nat) : Int) - (cy : Nat) - (y : Nat)) < 0) = false := decide_eq_false hneg
          have HS := Lib.hid (show ((dg r k : Nat) : Int) = (((x : Nat) : Int) - (cy : Nat) - (y : Nat)) ∧ cyA b r (k + 1) = 0 from by omega)
          clear st hcy2

          have hsz := hbel.size
          clear hown
          go_wp2_with (at_builtin; refine wpList_append_own _ rfl _ _ 52 rfl w.heap.size 81 i0 (.int .u16 0) 1 2 und16 hi0 hz0 hz1 hz2 rfl (by decide) _ _ _ rfl (hown'.alloc _) ⟨wr.heap.size, 0, none⟩ 1 1 [_] rfl rfl (one_cell wr _ _) (one_one _) (by unfold maxLen; omega) (by omega) (by simp; omega) ?_)
          intro v' w1 hown1 hgrow _
          have hown2 := Own.more hown1 (by have := HS.out; first | (rw [IntKind.wrap_u16]; omega) | omega)
          have bel2 := (hbel.alloc hsz _).grown hgrow (by simp; omega) (fun j hj => (hown'.lt j hj).1)
          clear hown1 hgrow hown' hbel
          go_wp2
          go_roundw
          case rel => exact ⟨k + 1, by omega, hown2, by have := HS.out; go_num, by go_num, bel2⟩
          case measure => simp [intOf]; omega
      · have d2 : decide (k < nd b) = false := decide_eq_false h2
        rw [dg_zero ((nd_le b k).1 (by omega))] at st
        clear h2
        by_cases hneg : (((x : Nat) : Int) - (cy : Nat)) < 0
        · have hown' : wr.ownsRow w.heap.size 81 1 _ k (vals (fd k r)) := hown
          have e1 : decide ((((x : Nat) : Int) - (cy : Nat)) < 0) = true := decide_eq_true hneg
          have HS := Lib.hid (show ((dg r k : Nat) : Int) = (((x : Nat) : Int) - (cy : Nat)) + 65536 ∧ cyA b r (k + 1) = 1 from by omega)
          clear st hcy2

          have hsz := hbel.size
          clear hown
          go_wp2_with (at_builtin; refine wpList_append_own _ rfl _ _ 52 rfl w.heap.size 81 i0 (.int .u16 0) 1 2 und16 hi0 hz0 hz1 hz2 rfl (by decide) _ _ _ rfl (hown'.alloc _) ⟨wr.heap.size, 0, none⟩ 1 1 [_] rfl rfl (one_cell wr _ _) (one_one _) (by unfold maxLen; omega) (by omega) (by simp; omega) ?_)
          intro v' w1 hown1 hgrow _
          have hown2 := Own.more hown1 (by have := HS.out; first | (rw [IntKind.wrap_u16]; omega) | omega)
          have bel2 := (hbel.alloc hsz _).grown hgrow (by simp; omega) (fun j hj => (hown'.lt j hj).1)
          clear hown1 hgrow hown' hbel
          go_wp2
          go_roundw
          case rel => exact ⟨k + 1, by omega, hown2, by have := HS.out; go_num, by go_num, bel2⟩
          case measure => simp [intOf]; omega
        · have hown' : wr.ownsRow w.heap.size 81 1 _ k (vals (fd k r)) := hown
          have e1 : decide ((((x : Nat) : Int) - (cy : Nat)) < 0) = false := decide_eq_false hneg
          have HS := Lib.hid (show ((dg r k : Nat) : Int) = (((x : Nat) : Int) - (cy : Nat)) ∧ cyA b r (k + 1) = 0 from by omega)
          clear st hcy2

          have hsz := hbel.size
          clear hown
          go_wp2_with (at_builtin; refine wpList_append_own _ rfl _ _ 52 rfl w.heap.size 81 i0 (.int .u16 0) 1 2 und16 hi0 hz0 hz1 hz2 rfl (by decide) _ _ _ rfl (hown'.alloc _) ⟨wr.heap.size, 0, none⟩ 1 1 [_] rfl rfl (one_cell wr _ _) (one_one _) (by unfold maxLen; omega) (by omega) (by simp; omega) ?_)
          intro v' w1 hown1 hgrow _
          have hown2 := Own.more hown1 (by have := HS.out; first | (rw [IntKind.wrap_u16]; omega) | omega)
          have bel2 := (hbel.alloc hsz _).grown hgrow (by simp; omega) (fun j hj => (hown'.lt j hj).1)
          clear hown1 hgrow hown' hbel
          go_wp2
          go_roundw
          case rel => exact ⟨k + 1, by omega, hown2, by have := HS.out; go_num, by go_num, bel2⟩
          case measure => simp [intOf]; omega
    · have e : k = nd (b + r) := by omega
      have hds : DS wr u5 k r := Own.DS hown (by rw [e]; exact hrn.out)
      have hT := Lib.hid (trim_D u5 k r wr hds)
      have hF := Lib.hid (Own.fr hown)
      have HB := Lib.hid hbel
      clear hown hbel hds e hk
      go_wp2_with (go_at_call 58; refine hT.out.mono ?_; rintro e w' ⟨⟨v', rfl, hv', ho'⟩, rfl⟩; have HV := Lib.hid hv'; have HO := Lib.hid ho'; clear hv' ho')
      go_ret
      exact ⟨_, rfl, HV.out, Fr.of hF.out HO.out, HB.out⟩

theorem sub_D (va vb : Value) (a b : Nat) (w : World) (hb1 : nd a ≤ 100000) (hle : b ≤ a) (ha : D w va a) (hb : D w vb b) :
    Calls Tryz.prog 131 #[va, vb] w (GivesD w (a - b)) := by
  obtain ⟨r, rfl⟩ : ∃ r, a = b + r := ⟨a - b, by omega⟩
  rw [Nat.add_sub_cancel_left]
  obtain ⟨A, c, rfl, _, _, _, hr⟩ := ha
  obtain ⟨B, d, rfl, _, _, _, hs⟩ := hb
  exact sub_any' A B c d b r w hb1 hr hs

set_option maxRecDepth 100000 in
set_option maxHeartbeats 1600000 in
theorem times_any' (A : Option Addr) (c a n : Nat) (w : World) (hb1 : nd a ≤ 100000) (hn : n < 65536) (hr : Reads w w.heap.size 1 A (nd a) (vals (fd (nd a) a))) :
    Calls Tryz.prog 67 #[.slice A (nd a) c, .int .u32 n] w (GivesD w (a * n)) := by
  obtain ⟨i0, hi0, hz0, hz1, hz2⟩ := info_parts info16
  have hR := Lib.hid hr
  have hla := Lib.hid (lt_nd a)
  clear hr
  go_enter Tryz.func67, Tryz.ntmps67
  go_wp2
  go_loopw [5, 6, 7] (fun o cy i wr => ∃ k : Nat, k ≤ nd a ∧ Own w.heap.size wr o k (a * n) ∧ cy = .int .u32 (cyT a n k : Nat) ∧ i = .int .i64 k ∧ Below w.heap.size w wr) (fun _ _ i _ => nd a - (intOf i).toNat)
  case atStart => exact ⟨0, Nat.zero_le _, World.ownsRow_nil _ _ _ _, by rw [cyT_zero]; rfl, rfl, Below.refl _ _⟩
  case round =>
    obtain ⟨k, hk, hown, rfl, rfl, hbel⟩ := hrel
    have hcy := cyT_lt a n k hn
    have hown' : wr.ownsRow w.heap.size 81 1 _ k (vals (fd k (a * n))) := hown
    by_cases h1 : k < nd a
    · have HS := Lib.hid (cyT_step a n k)
      obtain ⟨ad, rfl, ha, hcell⟩ := DS.at_ hR.out h1
      rw [← hbel.cell (by rw [block_of_add]; exact ha)] at hcell
      have hx := dg_lt a k
      generalize dg a k = x at *
      generalize cyT a n k = cy at *
      have hxn : (x : Int) * (n : Int) ≤ 4294836225 := by
        have : x * n ≤ 65535 * 65535 := Nat.mul_le_mul (by omega) (by omega)
        have h2 : ((x * n : Nat) : Int) ≤ 4294836225 := by omega
        rwa [Int.natCast_mul] at h2
      have hxn0 : 0 ≤ (x : Int) * (n : Int) := Int.mul_nonneg (by omega) (by omega)
      have HP := Lib.hid (Int.natCast_mul x n)
      have hsz := hbel.size
      clear hown
      go_wp2_with (at_builtin; refine wpList_append_own _ rfl _ _ 52 rfl w.heap.size 81 i0 (.int .u16 0) 1 2 und16 hi0 hz0 hz1 hz2 rfl (by decide) _ _ _ rfl (hown'.alloc _) ⟨wr.heap.size, 0, none⟩ 1 1 [_] rfl rfl (one_cell wr _ _) (one_one _) (by unfold maxLen; omega) (by omega) (by simp; omega) ?_)
      intro v' w1 hown1 hgrow _
      have hown2 := Own.more hown1 (by have := HS.out; have := HP.out; first | (rw [IntKind.wrap_u16]; omega) | omega)
      have bel2 := (hbel.alloc hsz _).grown hgrow (by simp; omega) (fun j hj => (hown'.lt j hj).1)
      clear hown1 hgrow hown' hbel
      go_wp2
      go_roundw
      case rel => exact ⟨k + 1, by omega, hown2, by have := HS.out; have := HP.out; go_num, by go_num, bel2⟩
      case measure => simp [intOf]; omega
    · have e : k = nd a := by omega
      have hct := cyT_top (a := a) (n := n) (i := k) (by rw [e]; exact hla.out) hn
      have HS := Lib.hid hct
      have HB := Lib.hid hbel
      have hsz := hbel.size
      clear hct hown e
      generalize cyT a n k = cy at *
      go_wp2_with (first
        | (at_builtin; refine wpList_append_own _ rfl _ _ 52 rfl w.heap.size 81 i0 (.int .u16 0) 1 2 und16 hi0 hz0 hz1 hz2 rfl (by decide) _ _ _ rfl (hown'.alloc _) ⟨wr.heap.size, 0, none⟩ 1 1 [_] rfl rfl (one_cell wr _ _) (one_one _) (by unfold maxLen; omega) (by omega) (by simp; omega) ?_)
        | fail)
      intro v' w1 hown1 hgrow _
      have hown2 := Own.more hown1 (by have := HS.out; first | (rw [IntKind.wrap_u16]; omega) | omega)
      have bel2 := Lib.hid ((hbel.alloc hsz _).grown hgrow (by simp; omega) (fun j hj => (hown'.lt j hj).1))
      have hT := Lib.hid (trim_D v' (k + 1) (a * n) w1 (hown2.DS HS.out.2))
      have hF := Lib.hid (Own.fr hown2)
      clear hown1 hgrow hown' hbel hown2
      go_wp2_with (go_at_call 58; refine hT.out.mono ?_; rintro e w' ⟨⟨v', rfl, hv', ho'⟩, rfl⟩; have HV := Lib.hid hv'; have HO := Lib.hid ho'; clear hv' ho')
      go_ret
      exact ⟨_, rfl, HV.out, Fr.of hF.out HO.out, bel2.out⟩

theorem times_D (va : Value) (a n : Nat) (w : World) (hb1 : nd a ≤ 100000) (hn : n < 65536) (ha : D w va a) :
    Calls Tryz.prog 67 #[va, .int .u32 n] w (GivesD w (a * n)) := by
  obtain ⟨A, c, rfl, _, _, _, hr⟩ := ha
  exact times_any' A c a n w hb1 hn hr
end Go.Proofs.YtijncfidjjfmiaaGreatDoor

namespace Go.Proofs.YtijncfidjjfmiaaGreatDoor
open Go.RowKit FloM

theorem times_I (va : Value) (a n : Nat) (x : Int) (w : World) (hb1 : nd a ≤ 100000) (hn : n < 65536) (ha : D w va a) (hx : x = (n : Int)) :
    Calls Tryz.prog 67 #[va, .int .u32 x] w (GivesD w (a * n)) := by
  subst hx; exact times_D va a n w hb1 hn ha

theorem nd_times (a n : Nat) (hn : n < 65536) : nd (a * n) ≤ nd a + 1 := (nd_le _ _).2 (cyT_top (lt_nd a) hn).2

def GivesQ (w : World) (q r : Nat) (e : Ending) (w' : World) : Prop := ∃ v, e = .returned (.tuple #[.int .u16 (q : Int), v]) ∧ D w' v r ∧ Fr w.heap.size v ∧ Below w.heap.size w w'

set_option maxRecDepth 100000 in
set_option maxHeartbeats 1600000 in
theorem digit_D (va vb : Value) (a b : Nat) (w : World) (hb1 : nd a ≤ 90000) (hb2 : nd b ≤ 90000) (hb0 : 0 < b) (hab : a < 65536 * b) (ha : D w va a) (hb : D w vb b) :
    Calls Tryz.prog 90 #[va, vb] w (GivesQ w (a / b) (a % b)) := by
  have hq : a / b ≤ 65535 := by
    have : a / b < 65536 := Nat.div_lt_of_lt_mul (by rw [Nat.mul_comm]; exact hab)
    omega
  have HM := Lib.hid (fun (m : Nat) => (Nat.le_div_iff_mul_le hb0 : m ≤ a / b ↔ m * b ≤ a))
  have HMOD := Lib.hid (Nat.div_add_mod a b)
  have HA := Lib.hid ha
  have HB := Lib.hid hb
  clear ha hb hab
  generalize a / b = q at *
  generalize a % b = r at *
  go_enter Tryz.func90, Tryz.ntmps90
  go_wp2
  go_loopw [6, 7] (fun l h wr => ∃ lo hi : Nat, lo ≤ q ∧ q ≤ hi ∧ hi ≤ 65535 ∧ l = .int .u32 lo ∧ h = .int .u32 hi ∧ Below w.heap.size w wr) (fun l h _ => (intOf h - intOf l).toNat)
  case atStart => exact ⟨0, 65535, by omega, hq, by omega, rfl, rfl, Below.refl _ _⟩
  case round =>
    obtain ⟨lo, hi, h1, h2, h3, rfl, rfl, hbel⟩ := hrel
    have hDa := Lib.hid (D.below HA.out hbel)
    have hDb := Lib.hid (D.below HB.out hbel)
    have hsz := hbel.size
    by_cases hlt : lo < hi
    · obtain ⟨mid, hmid⟩ : ∃ mid, mid = (lo + hi + 1) / 2 := ⟨_, rfl⟩
      have hm1 : lo < mid := by omega
      have hm2 : mid ≤ hi := by omega
      have HMID := Lib.hid hmid
      have HMm := HM.out mid
      have hnt := nd_times b mid (by omega)
      have HBEL := Lib.hid hbel
      clear hmid hbel
      go_wp2_with fail
      refine (times_I vb b mid _ _ (by omega) (by omega) hDb.out (by have := HMID.out; omega)).mono ?_
      rintro e w2 ⟨v2, rfl, hv2, _, hbel2⟩
      have HV2 := Lib.hid hv2
      have HB2 := Lib.hid hbel2
      clear hv2 hbel2
      go_wp2_with fail
      refine (cmp_D v2 va (b * mid) a _ (by omega) HV2.out (hDa.out.below HB2.out)).mono ?_
      rintro e w3 ⟨rfl, n3, rfl⟩
      by_cases hle : mid ≤ q
      · have e1 : decide (cmpN (b * mid) a ≤ 0) = true := by
          have : b * mid ≤ a := by rw [Nat.mul_comm]; exact HMm.1 hle
          apply decide_eq_true
          unfold cmpN; (repeat' split) <;> omega
        clear HMm hnt
        generalize cmpN (b * mid) a = x at *
        go_wp2_with fail
        go_roundw
        case rel => exact ⟨mid, hi, hle, h2, h3, by have := HMID.out; go_num, rfl, below_drewN (HBEL.out.trans (HB2.out.mono hsz)) n3⟩
        case measure => have := HMID.out; simp [intOf]; omega
      · have e1 : decide (cmpN (b * mid) a ≤ 0) = false := by
          have : ¬ b * mid ≤ a := by rw [Nat.mul_comm]; exact fun h => hle (HMm.2 h)
          apply decide_eq_false
          unfold cmpN; (repeat' split) <;> omega
        clear HMm hnt
        generalize cmpN (b * mid) a = x at *
        go_wp2_with fail
        go_roundw
        case rel => exact ⟨lo, mid - 1, h1, by omega, by omega, rfl, by have := HMID.out; go_num, below_drewN (HBEL.out.trans (HB2.out.mono hsz)) n3⟩
        case measure => have := HMID.out; simp [intOf]; omega
    · have e : lo = q := by omega
      have e2 : hi = q := by omega
      subst e
      subst e2
      have hnt := nd_times b hi (by omega)
      have hle : b * hi ≤ a := by have := HMOD.out; omega
      have hr : a - b * hi = r := by have := HMOD.out; omega
      have HR := Lib.hid hr
      have HBEL := Lib.hid hbel
      clear hr hbel
      go_wp2_with fail
      refine (times_I vb b hi _ _ (by omega) (by omega) hDb.out rfl).mono ?_
      rintro e w2 ⟨v2, rfl, hv2, _, hbel2⟩
      have HV2 := Lib.hid hv2
      have HB2 := Lib.hid hbel2
      clear hv2 hbel2
      go_wp2_with fail
      refine (sub_D va v2 a (b * hi) _ (by omega) hle (hDa.out.below HB2.out) HV2.out).mono ?_
      rintro e w3 ⟨v3, rfl, hv3, hf3, hbel3⟩
      have HF3 := Lib.hid hf3
      clear hf3
      rw [HR.out] at hv3
      have HV3 := Lib.hid hv3
      have HB3 := Lib.hid hbel3
      have hs2 := HB2.out.size
      clear hv3 hbel3 hle hnt
      go_wp2_with fail
      go_ret2
      exact ⟨v3, rfl, HV3.out, fun g hg => Nat.le_trans (Nat.le_trans hsz hs2) (HF3.out g hg), HBEL.out.trans ((HB2.out.trans (HB3.out.mono hs2)).mono hsz)⟩
end Go.Proofs.YtijncfidjjfmiaaGreatDoor
