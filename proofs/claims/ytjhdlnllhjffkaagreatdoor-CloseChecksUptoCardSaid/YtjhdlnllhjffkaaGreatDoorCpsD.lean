/- Cps: kinds of arguments, unlike variables: the reference's way; the program's Params. -/
import Derived.Test.YtjhdlnllhjffkaaGreatDoorCloMf
import Derived.Test.YtjhdlnllhjffkaaGreatDoorCloMd
namespace Go.Proofs.YtjhdlnllhjffkaaGreatDoor
open Go.RowKit LamM CpsM

theorem kinds_yes {l : List Int} {f : Int → Bool} {a b : Nat} (h : ∀ j x, a ≤ j → j < b → l[j]? = some x → f x = true) : ((l.drop a).take (b - a)).all f = true := by
  rw [List.all_eq_true]
  intro x hx
  obtain ⟨j, hj, e⟩ := List.getElem_of_mem hx
  have hjl : j < b - a := by rw [List.length_take] at hj; omega
  refine h (a + j) x (by omega) (by omega) ?_
  rw [List.getElem_take, List.getElem_drop] at e
  rw [← e]
  exact List.getElem?_eq_getElem _
theorem kinds_no {l : List Int} {f : Int → Bool} {a b j : Nat} {x : Int} (h1 : a ≤ j) (h2 : j < b) (h : l[j]? = some x) (hf : f x = false) : ((l.drop a).take (b - a)).all f = false := by
  rw [Bool.eq_false_iff]
  intro hc
  have := List.all_eq_true.1 hc x (by
    refine List.mem_of_getElem? (i := j - a) ?_
    rw [List.getElem?_take, if_pos (by omega), List.getElem?_drop, show a + (j - a) = j by omega]
    exact h)
  rw [hf] at this
  cases this
theorem parGo_step {s r : List Int} {v : Int} : parGo s (v :: r) = (!(decide (v < 0) || s.contains v) && parGo (s ++ [v]) r) := rfl
theorem take_snoc {α : Type} {l : List α} {k : Nat} {a : α} (h : l[k]? = some a) : l.take k ++ [a] = l.take (k + 1) := by
  rw [List.take_add_one, h]; rfl
theorem only_cell {bs : List Nat} {w w' : World} (h : Only bs w w') {p : Addr} {v : Value} (hp : p.block ∉ bs) (hc : w.cell? p = some v) : w'.cell? p = some v := (World.cell?_of_block (h.block _ (cell_lt hc) hp)).trans hc

set_option maxRecDepth 100000 in
set_option maxHeartbeats 2000000 in
theorem skindsA_any (L : List Fl) (t : Fl) (vl vv kv av : Value) (a0 b0 : Nat) (w : World) (hN : NF w w.heap.size vl L) (hT : FV w w.heap.size t vv kv av) (hA : ∀ a ∈ t.args, 0 ≤ a ∧ a < (L.length : Int)) (hab : a0 ≤ b0) (hb : b0 ≤ t.args.length) :
    Calls Tryz.prog 39 #[vl, .agg (flVals t vv kv av).toArray, .int .i64 (a0 : Int), .int .i64 (b0 : Int), .bool false] w fun e w' => e = .returned (.bool (atomsB L ((t.args.drop a0).take (b0 - a0)))) ∧ Below w.heap.size w w' := by
  obtain ⟨AA, ac, rfl, ha1, ha2⟩ := hT.a.len
  obtain ⟨A, c, rfl, hc1, hc2⟩ := hN.len
  have la := hT.la
  obtain ⟨W, hW⟩ : ∃ W, w.alloc (BoxF t vv kv (.slice AA t.args.length ac)) = W := ⟨_, rfl⟩
  have hbw : Below w.heap.size w W := by rw [← hW]; exact (Below.refl _ _).alloc (Nat.le_refl _) _
  have HB := Lib.hid hbw
  have HX := Lib.hid (show Blk W w.heap.size 43 #[.int .i64 t.k, .int .i64 t.n, .int .i64 t.m, .int .i64 t.i, .int .u64 t.b, .string ⟨t.t.toArray⟩, vv, kv, .slice AA t.args.length ac] by rw [← hW]; exact Blk.new _ _ _)
  have c8 : W.cell? ⟨w.heap.size, 8, none⟩ = some (.slice AA t.args.length ac) := HX.out.cell 8
  have HN := Lib.hid (hN.below hbw)
  have HV := Lib.hid (hT.a.below hbw)
  have HA := Lib.hid hA
  have HY := Lib.hid (fun j x (h1 : a0 ≤ j) (h2 : j < b0) (h : t.args[j]? = some x) (hf : atomB (kindC L x) = false) => kinds_no (f := fun x => atomB (kindC L x)) h1 h2 h hf)
  have HNO := Lib.hid (fun (h : ∀ j x, a0 ≤ j → j < b0 → t.args[j]? = some x → atomB (kindC L x) = true) => kinds_yes (f := fun x => atomB (kindC L x)) h)
  obtain ⟨R, hR⟩ : ∃ R, atomsB L ((t.args.drop a0).take (b0 - a0)) = R := ⟨_, rfl⟩
  rw [hR]
  unfold atomsB at hR
  rw [hR] at HY HNO
  unfold BoxF at hW
  unfold flVals
  clear hN hT hA hbw hR
  go_enter Tryz.func39, Tryz.ntmps39
  go_wp2
  go_loopw [11] (fun i wr => wr = W ∧ ∃ k : Nat, a0 ≤ k ∧ k ≤ b0 ∧ i = .int .i64 (k : Int) ∧ Hid (∀ j x, a0 ≤ j → j < k → t.args[j]? = some x → atomB (kindC L x) = true)) (fun i _ => b0 - (intOf i).toNat)
  case atStart => exact ⟨rfl, a0, Nat.le_refl _, hab, rfl, Lib.hid (fun j x h1 h2 => by omega)⟩
  case round =>
    obtain ⟨hwr, k, hk0, hk, rfl, HK⟩ := hrel
    subst hwr
    rcases Nat.lt_or_ge k b0 with hlt | hge
    · obtain ⟨a, ha⟩ : ∃ a, t.args[k]? = some a := ⟨_, List.getElem?_eq_getElem (by omega)⟩
      obtain ⟨aa, rfl, _, ca⟩ := HV.out.at_ ha
      obtain ⟨ha0, haL⟩ := HA.out a (List.mem_of_getElem? ha)
      obtain ⟨x, rfl⟩ : ∃ x : Nat, a = (x : Int) := ⟨a.toNat, by omega⟩
      obtain ⟨tx, htx⟩ : ∃ tx, L[x]? = some tx := ⟨_, List.getElem?_eq_getElem (by omega)⟩
      obtain ⟨adx, _, _, _, rfl, _, _, cxk, _⟩ := HN.out.at_ htx
      have hkx : kindC L (x : Int) = tx.k := kindC_at (by rw [Int.toNat_natCast]; exact htx)
      have HAT := Lib.hid (fun w' => satom_any tx.k w')
      have hm1 : (k : Int) < (t.args.length : Int) := by omega
      have hm2 : (k : Int) < (b0 : Int) := by omega
      cases hca : atomB tx.k
      · rw [hca] at HAT
        have HR := Lib.hid (HY.out k _ hk0 hlt ha (by rw [hkx]; exact hca))
        clear ha hca htx hkx
        go_wp2_with (go_at_call 42; ((with_reducible refine (HAT.out _).mono ?_); rintro e w' ⟨rfl, rfl⟩))
        go_ret
        exact ⟨by rw [HR.out]; rfl, HB.out⟩
      · rw [hca] at HAT
        have HK2 := Lib.hid (show ∀ j y, a0 ≤ j → j < k + 1 → t.args[j]? = some y → atomB (kindC L y) = true from fun j y h1 hj hy => by
          rcases Nat.lt_or_ge j k with h3 | h3
          · exact HK.out j y h1 h3 hy
          · obtain rfl : j = k := by omega
            rw [ha] at hy; rw [← Option.some.inj hy, hkx]; exact hca)
        clear ha hca htx hkx
        go_wp2_with (go_at_call 42; ((with_reducible refine (HAT.out _).mono ?_); rintro e w' ⟨rfl, rfl⟩))
        go_roundw
        case rel => exact ⟨by first | rfl | trivial, k + 1, by omega, by omega, by go_num, HK2⟩
        case measure => simp [intOf]; omega
    · have q : (b0 : Int) ≤ (k : Int) := by omega
      have HR := Lib.hid (HNO.out (fun j x h1 hj hx => HK.out j x h1 (by omega) hx))
      clear hge hk
      go_wp2_with fail
      go_ret
      exact ⟨by rw [HR.out]; rfl, HB.out⟩

set_option maxRecDepth 100000 in
set_option maxHeartbeats 2000000 in
theorem sunlike0_any (l : List Int) (v : Value) (B : Nat) (w : World) (hV : IV w B v l) :
    Calls Tryz.prog 35 #[v, .bool false] w fun e w' => e = .returned (.bool (l.all fun x => !decide (x < 0))) ∧ w = w' := by
  obtain ⟨A, c, rfl, h1, h2⟩ := hV.len
  have hl : l.length ≤ 9223372036854775807 := by unfold maxLen at h2; omega
  have HV := Lib.hid hV
  have HY := Lib.hid (fun (k : Nat) (x : Int) (h : l[k]? = some x) (hx : x < 0) => show (l.all fun x => !decide (x < 0)) = false by
    rw [Bool.eq_false_iff]; intro hc; have := List.all_eq_true.1 hc x (List.mem_of_getElem? h); simp [hx] at this)
  have HNO := Lib.hid (fun (h : ∀ (j : Nat) (x : Int), j < l.length → l[j]? = some x → 0 ≤ x) => show (l.all fun x => !decide (x < 0)) = true by
    rw [List.all_eq_true]; intro x hx; obtain ⟨j, hj, e⟩ := List.getElem_of_mem hx; have := h j x hj (by rw [List.getElem?_eq_getElem hj, e]); simp; omega)
  obtain ⟨r, hr⟩ : ∃ r, (l.all fun x => !decide (x < 0)) = r := ⟨_, rfl⟩
  rw [hr] at HY HNO ⊢
  clear hV hr
  go_enter Tryz.func35, Tryz.ntmps35
  go_wp2
  go_loopw [5] (fun i wr => wr = w ∧ ∃ k : Nat, k ≤ l.length ∧ i = .int .i64 (k : Int) ∧ Hid (∀ (j : Nat) (x : Int), j < k → l[j]? = some x → 0 ≤ x)) (fun i _ => l.length - (intOf i).toNat)
  case atStart => exact ⟨rfl, 0, Nat.zero_le _, rfl, Lib.hid (fun j x h => by omega)⟩
  case round =>
    obtain ⟨rfl, k, hk, rfl, HK⟩ := hrel
    rcases Nat.lt_or_ge k l.length with hlt | hge
    · obtain ⟨a, ha⟩ : ∃ a, l[k]? = some a := ⟨_, List.getElem?_eq_getElem hlt⟩
      obtain ⟨aa, rfl, _, ca⟩ := HV.out.at_ ha
      have hm1 : (k : Int) < (l.length : Int) := by omega
      by_cases h : a < 0
      · have HR := Lib.hid (HY.out k a ha h)
        have q := decide_eq_true h
        clear h ha
        go_wp2_with fail
        go_ret
        exact ⟨by rw [HR.out]; rfl, rfl⟩
      · have q := decide_eq_false h
        have HK2 := Lib.hid (show ∀ (j : Nat) (x : Int), j < k + 1 → l[j]? = some x → 0 ≤ x from fun j x hj hx => by
          rcases Nat.lt_or_ge j k with h3 | h3
          · exact HK.out j x h3 hx
          · obtain rfl : j = k := by omega
            rw [ha] at hx; rw [← Option.some.inj hx]; omega)
        clear h ha
        go_wp2_with fail
        go_loopw [6] (fun ix wr2 => ix = .int .i64 0 ∧ wr2 = wr) (fun _ _ => 0)
        case atStart => exact ⟨rfl, rfl⟩
        case round =>
          obtain ⟨rfl, rfl⟩ := hrel
          go_wp2_with fail
          go_roundw
          case rel => exact ⟨by first | rfl | trivial, k + 1, by omega, by go_num, HK2⟩
          case measure => simp [intOf]; omega
    · have HR := Lib.hid (HNO.out (fun j x hj hx => HK.out j x (by omega) hx))
      have q : (l.length : Int) ≤ (k : Int) := by omega
      clear hge hk
      go_wp2_with fail
      go_ret
      exact ⟨by rw [HR.out]; rfl, rfl⟩

set_option maxRecDepth 100000 in
set_option maxHeartbeats 2000000 in
theorem sunlike1_any (l : List Int) (v : Value) (B : Nat) (w : World) (hV : IV w B v l) :
    Calls Tryz.prog 35 #[v, .bool true] w fun e w' => e = .returned (.bool (parGo [] l)) ∧ Only [] w w' := by
  obtain ⟨A, c, rfl, h1, h2⟩ := hV.len
  have hl : l.length ≤ 9223372036854775807 := by unfold maxLen at h2; omega
  have HV := Lib.hid hV
  obtain ⟨r, hr⟩ : ∃ r, parGo [] l = r := ⟨_, rfl⟩
  have HQ := Lib.hid (show parGo (l.take 0) (l.drop 0) = r from hr)
  rw [hr]
  clear hV hr
  go_enter Tryz.func35, Tryz.ntmps35
  go_wp2
  go_loopw [5] (fun i wr => Hid (Only [] w wr) ∧ ∃ k : Nat, k ≤ l.length ∧ i = .int .i64 (k : Int) ∧ Hid (parGo (l.take k) (l.drop k) = r)) (fun i _ => l.length - (intOf i).toNat)
  case atStart => exact ⟨Lib.hid (Only.refl _ _), 0, Nat.zero_le _, rfl, HQ⟩
  case round =>
    obtain ⟨HW, k, hk, rfl, HK⟩ := hrel
    rcases Nat.lt_or_ge k l.length with hlt | hge
    · obtain ⟨a, ha⟩ : ∃ a, l[k]? = some a := ⟨_, List.getElem?_eq_getElem hlt⟩
      obtain ⟨aa, rfl, haa, ca0⟩ := HV.out.at_ ha
      have ca := only_cell HW.out (by simp) ca0
      have hm1 : (k : Int) < (l.length : Int) := by omega
      have hq := HK.out
      rw [drop_at ha, parGo_step, take_snoc ha] at hq
      by_cases h : a < 0
      · have HR := Lib.hid (show r = false by rw [decide_eq_true h] at hq; exact hq.symm)
        have q := decide_eq_true h
        clear h ha hq
        go_wp2_with fail
        go_ret
        exact ⟨by rw [HR.out]; rfl, HW.out⟩
      · rw [decide_eq_false h, Bool.false_or] at hq
        have HQ2 := Lib.hid hq
        have q := decide_eq_false h
        have HAA := Lib.hid ha
        clear h ha hq
        go_wp2_with fail
        go_loopw [6] (fun ix wr2 => Hid (Only [] w wr2) ∧ ∃ j : Nat, j ≤ k ∧ ix = .int .i64 (j : Int) ∧ Hid (∀ (i : Nat), i < j → l[i]? ≠ some a)) (fun ix _ => k - (intOf ix).toNat)
        case atStart => exact ⟨HW, 0, Nat.zero_le _, rfl, Lib.hid (fun i h => by omega)⟩
        case round =>
          obtain ⟨HW2, j, hj, rfl, HJ⟩ := hrel
          have ca2 := only_cell HW2.out (by simp) ca0
          rcases Nat.lt_or_ge j k with hjl | hjg
          · obtain ⟨b, hb⟩ : ∃ b, l[j]? = some b := ⟨_, List.getElem?_eq_getElem (by omega)⟩
            obtain ⟨ab, hab, _, cb0⟩ := HV.out.at_ hb
            obtain rfl := Option.some.inj hab
            have cb := only_cell HW2.out (by simp) cb0
            have hm2 : (j : Int) < (l.length : Int) := by omega
            have hm3 : (j : Int) < (k : Int) := by omega
            by_cases e : b = a
            · have HC := Lib.hid (show r = false by
                have := HQ2.out
                rw [show (l.take k).contains a = true from contains_at (k := j) (by rw [List.getElem?_take, if_pos hjl, hb, e])] at this
                exact this.symm)
              have q2 := b_true e
              clear e hb hab cb0
              go_wp2_with fail
              go_quiet (fail)
              go_wp2_with fail
              go_ret
              exact ⟨by rw [HC.out]; rfl, HW2.out.drewN _⟩
            · have q2 := b_false e
              have HJ2 := Lib.hid (show ∀ (i : Nat), i < j + 1 → l[i]? ≠ some a from fun i hi hx => by
                rcases Nat.lt_or_ge i j with h3 | h3
                · exact HJ.out i h3 hx
                · obtain rfl : i = j := by omega
                  rw [hb] at hx; exact e (Option.some.inj hx))
              clear e hb hab cb0
              go_wp2_with fail
              go_quiet (fail)
              go_wp2_with fail
              go_roundw
              case rel => exact ⟨Lib.hid (HW2.out.drewN _), j + 1, by omega, by go_num, HJ2⟩
              case measure => simp [intOf]; omega
          · have HR := Lib.hid (show parGo (l.take (k + 1)) (l.drop (k + 1)) = r by
              have := HQ2.out
              rw [show (l.take k).contains a = false from contains_no (fun i hi hx => by
                rw [List.length_take] at hi
                rw [List.getElem?_take, if_pos (by omega)] at hx
                exact HJ.out i (by omega) hx)] at this
              exact this)
            have q2 : (k : Int) ≤ (j : Int) := by omega
            clear hjg hj
            go_wp2_with fail
            go_roundw
            case rel => exact ⟨HW2, k + 1, by omega, by go_num, HR⟩
            case measure => simp [intOf]; omega
    · have HR := Lib.hid (show r = true by have := HK.out; rw [List.drop_eq_nil_of_le hge] at this; exact this.symm)
      have q : (l.length : Int) ≤ (k : Int) := by omega
      clear hge hk
      go_wp2_with fail
      go_ret
      exact ⟨by rw [HR.out]; rfl, HW.out⟩

set_option maxRecDepth 100000 in
set_option maxHeartbeats 2000000 in
theorem cparams_any (l : List Int) (v : Value) (B : Nat) (w : World) (hV : IV w B v l) :
    Calls Tryz.prog 54 #[v] w fun e w' => e = .returned (.bool (parOk l)) ∧ w = w' := by
  obtain ⟨A, c, rfl, h1, h2⟩ := hV.len
  have hl : l.length ≤ 9223372036854775807 := by unfold maxLen at h2; omega
  have HV := Lib.hid hV
  unfold parOk
  obtain ⟨r, hr⟩ : ∃ r, parGo [] l = r := ⟨_, rfl⟩
  have HQ := Lib.hid (show parGo (l.take 0) (l.drop 0) = r from hr)
  rw [hr]
  clear hV hr
  go_enter Tryz.func54, Tryz.ntmps54
  go_wp2
  go_loopw [7] (fun i wr => wr = w ∧ ∃ k : Nat, k ≤ l.length ∧ i = .int .i64 (k : Int) ∧ Hid (parGo (l.take k) (l.drop k) = r)) (fun i _ => l.length - (intOf i).toNat)
  case atStart => exact ⟨rfl, 0, Nat.zero_le _, rfl, HQ⟩
  case round =>
    obtain ⟨rfl, k, hk, rfl, HK⟩ := hrel
    rcases Nat.lt_or_ge k l.length with hlt | hge
    · obtain ⟨a, ha⟩ : ∃ a, l[k]? = some a := ⟨_, List.getElem?_eq_getElem hlt⟩
      have HCN := Lib.hid (con_any (l.take k) (.slice A k c) a B wr (iv_take HV.out (by omega)))
      obtain ⟨aa, rfl, haa, ca⟩ := HV.out.at_ ha
      have hm1 : (k : Int) < (l.length : Int) := by omega
      have hkc : (k : Int) ≤ (c : Int) := by omega
      have hc0 : ¬ c = 0 := by omega
      have hq := HK.out
      rw [drop_at ha, parGo_step, take_snoc ha] at hq
      by_cases h : a < 0
      · have HR := Lib.hid (show r = false by rw [decide_eq_true h] at hq; exact hq.symm)
        have q := decide_eq_true h
        clear h ha hq
        go_wp2_with fail
        go_ret
        exact ⟨by rw [HR.out]; rfl, rfl⟩
      · rw [decide_eq_false h, Bool.false_or] at hq
        have q := decide_eq_false h
        cases hcn : (l.take k).contains a
        · rw [hcn] at hq HCN
          have HQ2 := Lib.hid (show parGo (l.take (k + 1)) (l.drop (k + 1)) = r from hq)
          clear h ha hq hcn
          go_wp2_with (go_at_call 15; ((with_reducible refine (HCN.out).mono ?_); rintro e w' ⟨rfl, rfl⟩))
          go_roundw
          case rel => exact ⟨by first | rfl | trivial, k + 1, by omega, by go_num, HQ2⟩
          case measure => simp [intOf]; omega
        · rw [hcn] at hq HCN
          have HR := Lib.hid (show r = false from hq.symm)
          clear h ha hq hcn
          go_wp2_with (go_at_call 15; ((with_reducible refine (HCN.out).mono ?_); rintro e w' ⟨rfl, rfl⟩))
          go_ret
          exact ⟨by rw [HR.out]; rfl, rfl⟩
    · have HR := Lib.hid (show r = true by have := HK.out; rw [List.drop_eq_nil_of_le hge] at this; exact this.symm)
      have q : (l.length : Int) ≤ (k : Int) := by omega
      clear hge hk
      by_cases h64 : l.length ≤ 64
      · have q2 := decide_eq_true (show (l.length : Int) ≤ 64 by omega)
        have q3 := Lib.hid (decide_eq_true h64)
        clear h64
        go_wp2_with fail
        go_ret
        exact ⟨by rw [HR.out, q3.out]; rfl, rfl⟩
      · have q2 := decide_eq_false (show ¬ (l.length : Int) ≤ 64 by omega)
        have q3 := Lib.hid (decide_eq_false h64)
        clear h64
        go_wp2_with fail
        go_ret
        exact ⟨by rw [HR.out, q3.out]; rfl, rfl⟩
end Go.Proofs.YtjhdlnllhjffkaaGreatDoor
