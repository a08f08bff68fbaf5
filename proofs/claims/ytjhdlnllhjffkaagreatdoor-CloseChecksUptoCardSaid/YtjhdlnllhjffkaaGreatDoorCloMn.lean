/- Close: moves, both ways; kinds of arguments, what a node binds: the reference's way. Close, plain: the reference's form, kind by kind. -/
import Derived.Test.YtjhdlnllhjffkaaGreatDoorCpsD
import Derived.Test.YtjhdlnllhjffkaaGreatDoorCloMa
namespace Go.Proofs.YtjhdlnllhjffkaaGreatDoor
open Go.RowKit LamM CpsM CloM

set_option maxRecDepth 100000 in
theorem smove_any (k : Int) (w : World) : Calls Tryz.prog 37 #[.int .i64 k] w fun e w' => e = .returned (.bool (moveG k)) ∧ w = w' := by
  obtain ⟨r, hr⟩ : ∃ r, moveG k = r := ⟨_, rfl⟩
  rw [hr]
  unfold moveG at hr
  by_cases h1 : 5 ≤ k
  · have q1 := decide_eq_true h1
    by_cases h2 : k ≤ 15
    · have q2 := decide_eq_true h2
      by_cases h3 : k = 9
      · have q3 := n_false h3
        obtain rfl : r = false := by rw [← hr, q1, q2, decide_eq_false (fun h => h h3)]; rfl
        clear h1 h2 h3 hr
        go_enter Tryz.func37, Tryz.ntmps37
        go_wp2_with fail
        go_ret
        exact ⟨rfl, rfl⟩
      · have q3 := n_true h3
        by_cases h4 : k = 10
        · have q4 := n_false h4
          obtain rfl : r = false := by rw [← hr, q1, q2, decide_eq_true h3, decide_eq_false (fun h => h h4)]; rfl
          clear h1 h2 h3 h4 hr
          go_enter Tryz.func37, Tryz.ntmps37
          go_wp2_with fail
          go_ret
          exact ⟨rfl, rfl⟩
        · have q4 := n_true h4
          obtain rfl : r = true := by rw [← hr, q1, q2, decide_eq_true h3, decide_eq_true h4]; rfl
          clear h1 h2 h3 h4 hr
          go_enter Tryz.func37, Tryz.ntmps37
          go_wp2_with fail
          go_ret
          exact ⟨rfl, rfl⟩
    · have q2 := decide_eq_false h2
      obtain rfl : r = false := by rw [← hr, q1, q2]; rfl
      clear h1 h2 hr
      go_enter Tryz.func37, Tryz.ntmps37
      go_wp2_with fail
      go_ret
      exact ⟨rfl, rfl⟩
  · have q1 := decide_eq_false h1
    obtain rfl : r = false := by rw [← hr, q1]; rfl
    clear h1 hr
    go_enter Tryz.func37, Tryz.ntmps37
    go_wp2_with fail
    go_ret
    exact ⟨rfl, rfl⟩

set_option maxRecDepth 100000 in
theorem fmove_any (k : Int) (w : World) : Calls Tryz.prog 24 #[.int .i64 k] w fun e w' => e = .returned (.bool (moveG k)) ∧ w = w' := by
  obtain ⟨r, hr⟩ : ∃ r, moveG k = r := ⟨_, rfl⟩
  rw [hr]
  unfold moveG at hr
  by_cases h1 : 5 ≤ k
  · have q1 := decide_eq_true h1
    by_cases h2 : k ≤ 15
    · have q2 := decide_eq_true h2
      by_cases h3 : k = 9
      · have q3 := n_false h3
        obtain rfl : r = false := by rw [← hr, q1, q2, decide_eq_false (fun h => h h3)]; rfl
        clear h1 h2 h3 hr
        go_enter Tryz.func24, Tryz.ntmps24
        go_wp2_with fail
        go_ret
        exact ⟨rfl, rfl⟩
      · have q3 := n_true h3
        by_cases h4 : k = 10
        · have q4 := n_false h4
          obtain rfl : r = false := by rw [← hr, q1, q2, decide_eq_true h3, decide_eq_false (fun h => h h4)]; rfl
          clear h1 h2 h3 h4 hr
          go_enter Tryz.func24, Tryz.ntmps24
          go_wp2_with fail
          go_ret
          exact ⟨rfl, rfl⟩
        · have q4 := n_true h4
          obtain rfl : r = true := by rw [← hr, q1, q2, decide_eq_true h3, decide_eq_true h4]; rfl
          clear h1 h2 h3 h4 hr
          go_enter Tryz.func24, Tryz.ntmps24
          go_wp2_with fail
          go_ret
          exact ⟨rfl, rfl⟩
    · have q2 := decide_eq_false h2
      obtain rfl : r = false := by rw [← hr, q1, q2]; rfl
      clear h1 h2 hr
      go_enter Tryz.func24, Tryz.ntmps24
      go_wp2_with fail
      go_ret
      exact ⟨rfl, rfl⟩
  · have q1 := decide_eq_false h1
    obtain rfl : r = false := by rw [← hr, q1]; rfl
    clear h1 hr
    go_enter Tryz.func24, Tryz.ntmps24
    go_wp2_with fail
    go_ret
    exact ⟨rfl, rfl⟩

set_option maxRecDepth 100000 in
set_option maxHeartbeats 2000000 in
theorem skindsM_any (L : List Fl) (t : Fl) (vl vv kv av : Value) (a0 b0 : Nat) (w : World) (hN : NF w w.heap.size vl L) (hT : FV w w.heap.size t vv kv av) (hA : ∀ a ∈ t.args, 0 ≤ a ∧ a < (L.length : Int)) (hab : a0 ≤ b0) (hb : b0 ≤ t.args.length) :
    Calls Tryz.prog 39 #[vl, .agg (flVals t vv kv av).toArray, .int .i64 (a0 : Int), .int .i64 (b0 : Int), .bool true] w fun e w' => e = .returned (.bool (movesG L ((t.args.drop a0).take (b0 - a0)))) ∧ Below w.heap.size w w' := by
  obtain ⟨AA, ac, rfl, ha1, ha2⟩ := hT.a.len
  obtain ⟨A, c, rfl, hc1, hc2⟩ := hN.len
  have la := hT.la
  obtain ⟨W, hW⟩ : ∃ W, w.alloc (BoxF t vv kv (.slice AA t.args.length ac)) = W := ⟨_, rfl⟩
  have hbw : Below w.heap.size w W := by rw [← hW]; exact (Below.refl _ _).alloc (Nat.le_refl _) _
  have HB := Lib.hid hbw
  have HX := Lib.hid (show Blk W w.heap.size 43 #[.int .i64 t.k, .int .i64 t.n, .int .i64 t.m, .int .i64 t.i, .int .u64 t.b, .string ⟨t.t.toArray⟩, vv, kv, .slice AA t.args.length ac] by rw [← hW]; exact Blk.new _ _ _)
  have c8 : W.cell? ⟨w.heap.size, 8, none⟩ = some (.slice AA t.args.length ac) := HX.out.cell 8
  have HN := Lib.hid (hN.below hbw)
  have HV := Lib.hid (hT.a.below hbw)
  have HA := Lib.hid hA
  have HY := Lib.hid (fun j x (h1 : a0 ≤ j) (h2 : j < b0) (h : t.args[j]? = some x) (hf : moveG (kindC L x) = false) => kinds_no (f := fun x => moveG (kindC L x)) h1 h2 h hf)
  have HNO := Lib.hid (fun (h : ∀ j x, a0 ≤ j → j < b0 → t.args[j]? = some x → moveG (kindC L x) = true) => kinds_yes (f := fun x => moveG (kindC L x)) h)
  obtain ⟨R, hR⟩ : ∃ R, movesG L ((t.args.drop a0).take (b0 - a0)) = R := ⟨_, rfl⟩
  rw [hR]
  unfold movesG at hR
  rw [hR] at HY HNO
  unfold BoxF at hW
  unfold flVals
  clear hN hT hA hbw hR
  go_enter Tryz.func39, Tryz.ntmps39
  go_wp2
  go_loopw [11] (fun i wr => wr = W ∧ ∃ k : Nat, a0 ≤ k ∧ k ≤ b0 ∧ i = .int .i64 (k : Int) ∧ Hid (∀ j x, a0 ≤ j → j < k → t.args[j]? = some x → moveG (kindC L x) = true)) (fun i _ => b0 - (intOf i).toNat)
  case atStart => exact ⟨rfl, a0, Nat.le_refl _, hab, rfl, Lib.hid (fun j x h1 h2 => by omega)⟩
  case round =>
    obtain ⟨hwr, k, hk0, hk, rfl, HK⟩ := hrel
    subst hwr
    rcases Nat.lt_or_ge k b0 with hlt | hge
    · obtain ⟨a, ha⟩ : ∃ a, t.args[k]? = some a := ⟨_, List.getElem?_eq_getElem (by omega)⟩
      obtain ⟨aa, rfl, _, ca⟩ := HV.out.at_ ha
      obtain ⟨ha0, haL⟩ := HA.out a (List.mem_of_getElem? ha)
      obtain ⟨x, rfl⟩ : ∃ x : Nat, a = (x : Int) := ⟨a.toNat, by omega⟩
      obtain ⟨tx, htx⟩ : ∃ tx, L[x]? = some tx := ⟨_, List.getElem?_eq_getElem (by omega)⟩
      obtain ⟨adx, _, _, _, rfl, _, _, cxk, _⟩ := HN.out.at_ htx
      have hkx : kindC L (x : Int) = tx.k := kindC_at (by rw [Int.toNat_natCast]; exact htx)
      have HAT := Lib.hid (fun w' => smove_any tx.k w')
      have hm1 : (k : Int) < (t.args.length : Int) := by omega
      have hm2 : (k : Int) < (b0 : Int) := by omega
      cases hca : moveG tx.k
      · rw [hca] at HAT
        have HR := Lib.hid (HY.out k _ hk0 hlt ha (by rw [hkx]; exact hca))
        clear ha hca htx hkx
        go_wp2_with (go_at_call 37; ((with_reducible refine (HAT.out _).mono ?_); rintro e w' ⟨rfl, rfl⟩))
        go_ret
        exact ⟨by rw [HR.out]; rfl, HB.out⟩
      · rw [hca] at HAT
        have HK2 := Lib.hid (show ∀ j y, a0 ≤ j → j < k + 1 → t.args[j]? = some y → moveG (kindC L y) = true from fun j y h1 hj hy => by
          rcases Nat.lt_or_ge j k with h3 | h3
          · exact HK.out j y h1 h3 hy
          · obtain rfl : j = k := by omega
            rw [ha] at hy; rw [← Option.some.inj hy, hkx]; exact hca)
        clear ha hca htx hkx
        go_wp2_with (go_at_call 37; ((with_reducible refine (HAT.out _).mono ?_); rintro e w' ⟨rfl, rfl⟩))
        go_roundw
        case rel => exact ⟨by first | rfl | trivial, k + 1, by omega, by omega, by go_num, HK2⟩
        case measure => simp [intOf]; omega
    · have q : (b0 : Int) ≤ (k : Int) := by omega
      have HR := Lib.hid (HNO.out (fun j x h1 hj hx => HK.out j x h1 (by omega) hx))
      clear hge hk
      go_wp2_with fail
      go_ret
      exact ⟨by rw [HR.out]; rfl, HB.out⟩

set_option maxRecDepth 100000 in
set_option maxHeartbeats 2000000 in
theorem sbinds_any (t : Fl) (vv kv av : Value) (w : World) (_hT : FV w w.heap.size t vv kv av) :
    Calls Tryz.prog 41 #[.agg (flVals t vv kv av).toArray] w (GivesI w (bindsG t)) := by
  have HB1 := Lib.hid ((Below.refl w.heap.size w).alloc (Nat.le_refl _) (BoxF t vv kv av))
  have HB2 := Lib.hid (two_alloc w (BoxF t vv kv av) (.cells #[.int .i64 t.n] 3))
  have HON := Lib.hid (one_after w (BoxF t vv kv av) t.n)
  have HNI := Lib.hid (nil_IV (w.alloc (BoxF t vv kv av)) (w.alloc (BoxF t vv kv av)).heap.size)
  have HBL := Blk.new w 43 #[.int .i64 t.k, .int .i64 t.n, .int .i64 t.m, .int .i64 t.i, .int .u64 t.b, .string ⟨t.t.toArray⟩, vv, kv, av]
  have c0 := HBL.cell 0
  have c1 := HBL.cell 1
  have c6 := HBL.cell 6
  obtain ⟨R, hR⟩ : ∃ R, bindsG t = R := ⟨_, rfl⟩
  rw [hR]
  clear HBL
  unfold flVals
  unfold BoxF at HB1 HB2 HON HNI
  rcases (by omega : (t.k < 5 ∨ 8 < t.k) ∨ t.k = 5 ∨ t.k = 6 ∨ t.k = 7 ∨ t.k = 8) with h | h | h | h | h
  · have HR2 := Lib.hid ((show bindsG t = [] from by unfold bindsG; rw [if_neg (by omega)]).symm.trans hR)
    have q5 := b_false (show t.k ≠ 5 by omega)
    have q6 := b_false (show t.k ≠ 6 by omega)
    have q7 := b_false (show t.k ≠ 7 by omega)
    have q8 := b_false (show t.k ≠ 8 by omega)
    clear hR h
    go_enter Tryz.func41, Tryz.ntmps41
    go_wp2_with fail
    go_ret
    exact ⟨_, rfl, by rw [← HR2.out]; exact HNI.out, HB1.out⟩
  · have HR2 := Lib.hid ((show bindsG t = [t.n] from if_pos (.inl h)).symm.trans hR)
    have q5 := b_true h
    clear hR h
    go_enter Tryz.func41, Tryz.ntmps41
    go_wp2_with fail
    go_ret
    exact ⟨_, rfl, by rw [← HR2.out]; exact HON.out, HB2.out⟩
  · have HR2 := Lib.hid ((show bindsG t = [t.n] from if_pos (.inr (.inl h))).symm.trans hR)
    have q5 := b_false (show t.k ≠ 5 by omega)
    have q6 := b_true h
    clear hR h
    go_enter Tryz.func41, Tryz.ntmps41
    go_wp2_with fail
    go_ret
    exact ⟨_, rfl, by rw [← HR2.out]; exact HON.out, HB2.out⟩
  · have HR2 := Lib.hid ((show bindsG t = [t.n] from if_pos (.inr (.inr (.inl h)))).symm.trans hR)
    have q5 := b_false (show t.k ≠ 5 by omega)
    have q6 := b_false (show t.k ≠ 6 by omega)
    have q7 := b_true h
    clear hR h
    go_enter Tryz.func41, Tryz.ntmps41
    go_wp2_with fail
    go_ret
    exact ⟨_, rfl, by rw [← HR2.out]; exact HON.out, HB2.out⟩
  · have HR2 := Lib.hid ((show bindsG t = [t.n] from if_pos (.inr (.inr (.inr h)))).symm.trans hR)
    have q5 := b_false (show t.k ≠ 5 by omega)
    have q6 := b_false (show t.k ≠ 6 by omega)
    have q7 := b_false (show t.k ≠ 7 by omega)
    have q8 := b_true h
    clear hR h
    go_enter Tryz.func41, Tryz.ntmps41
    go_wp2_with fail
    go_ret
    exact ⟨_, rfl, by rw [← HR2.out]; exact HON.out, HB2.out⟩

end Go.Proofs.YtjhdlnllhjffkaaGreatDoor

namespace CloM
open LamM CpsM
theorem formedS_1 {L : List Fl} {t : Fl} (h : t.k = 1) : formedS L t = (decide (t.args.length = 0 ∧ 0 ≤ t.n)) := by unfold formedS; rw [if_pos (by omega)]
theorem formedS_2 {L : List Fl} {t : Fl} (h : t.k = 2) : formedS L t = (decide (t.args.length = 0 ∧ -4611686018427387904 ≤ t.i ∧ t.i ≤ 4611686018427387903)) := by unfold formedS; rw [if_neg (by omega), if_pos (by omega)]
theorem formedS_3 {L : List Fl} {t : Fl} (h : t.k = 3) : formedS L t = (decide (t.args.length = 0)) := by unfold formedS; rw [if_neg (by omega), if_neg (by omega), if_pos (by omega)]
theorem formedS_4 {L : List Fl} {t : Fl} (h : t.k = 4) : formedS L t = (decide (t.args.length = 0 ∧ t.t.length ≤ 65536)) := by unfold formedS; rw [if_neg (by omega), if_neg (by omega), if_neg (by omega), if_pos (by omega)]
theorem formedS_5 {L : List Fl} {t : Fl} (h : t.k = 5) : formedS L t = (decide (2 ≤ t.args.length ∧ t.args.length ≤ 1025 ∧ 0 ≤ t.n) && (atomsB L (t.args.take (t.args.length - 1)) && movesG L (t.args.drop (t.args.length - 1)))) := by unfold formedS; rw [if_neg (by omega), if_neg (by omega), if_neg (by omega), if_neg (by omega), if_pos (by omega)]
theorem formedS_67 {L : List Fl} {t : Fl} (h : t.k = 6 ∨ t.k = 7) : formedS L t = (decide (t.args.length = 2 ∧ 0 ≤ t.n ∧ 0 ≤ t.m) && (atomsB L (t.args.take 1) && movesG L (t.args.drop 1))) := by unfold formedS; rw [if_neg (by omega), if_neg (by omega), if_neg (by omega), if_neg (by omega), if_neg (by omega), if_pos (by omega)]
theorem formedS_8 {L : List Fl} {t : Fl} (h : t.k = 8) : formedS L t = (decide (0 ≤ t.n)) := by unfold formedS; rw [if_neg (by omega), if_neg (by omega), if_neg (by omega), if_neg (by omega), if_neg (by omega), if_neg (by omega), if_pos (by omega)]
theorem formedS_15 {L : List Fl} {t : Fl} (h : t.k = 15) : formedS L t = (decide (0 ≤ t.m ∧ t.args.length ≤ 65) && atomsB L t.args) := by unfold formedS; rw [if_neg (by omega), if_neg (by omega), if_neg (by omega), if_neg (by omega), if_neg (by omega), if_neg (by omega), if_neg (by omega), if_pos (by omega)]
theorem formedS_11 {L : List Fl} {t : Fl} (h : t.k = 11) : formedS L t = (decide (1 ≤ t.args.length ∧ t.args.length ≤ 65) && atomsB L t.args) := by unfold formedS; rw [if_neg (by omega), if_neg (by omega), if_neg (by omega), if_neg (by omega), if_neg (by omega), if_neg (by omega), if_neg (by omega), if_neg (by omega), if_pos (by omega)]
theorem formedS_12 {L : List Fl} {t : Fl} (h : t.k = 12) : formedS L t = (decide (t.args.length = 1 + t.keys.length ∨ t.args.length = 2 + t.keys.length) && (t.keys.all keyOk && (atomsB L (t.args.take 1) && movesG L (t.args.drop 1)))) := by unfold formedS; rw [if_neg (by omega), if_neg (by omega), if_neg (by omega), if_neg (by omega), if_neg (by omega), if_neg (by omega), if_neg (by omega), if_neg (by omega), if_neg (by omega), if_pos (by omega)]
theorem formedS_1314 {L : List Fl} {t : Fl} (h : t.k = 13 ∨ t.k = 14) : formedS L t = (decide (t.args.length = 1) && atomsB L t.args) := by unfold formedS; rw [if_neg (by omega), if_neg (by omega), if_neg (by omega), if_neg (by omega), if_neg (by omega), if_neg (by omega), if_neg (by omega), if_neg (by omega), if_neg (by omega), if_neg (by omega), if_pos (by omega)]
theorem formedS_no {L : List Fl} {t : Fl} (h : t.k < 1 ∨ 15 < t.k ∨ t.k = 9 ∨ t.k = 10) : formedS L t = false := by unfold formedS; rw [if_neg (by omega), if_neg (by omega), if_neg (by omega), if_neg (by omega), if_neg (by omega), if_neg (by omega), if_neg (by omega), if_neg (by omega), if_neg (by omega), if_neg (by omega), if_neg (by omega)]
end CloM
