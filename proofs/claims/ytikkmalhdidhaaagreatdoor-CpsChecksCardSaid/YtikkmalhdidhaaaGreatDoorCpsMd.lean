/- Lambda: the library's search among rising ints. Lambda: is one of a list's ints in a set; without. Lambda: without. Lambda: with, where the new one is the greatest. Lambda: the primitives' table: those of one type's order and sums. Lambda: which ints and texts are right; which keys are keys. Lambda: which keys are keys: the program's keyed. Lambda: which keys are keys: of a list, both ways. Lambda: which keys are keys: the reference's. Lambda: a node that binds functions: its form, both ways. -/
import Derived.Test.YtikkmalhdidhaaaGreatDoorCpsMc
import Derived.Lib.SliceRun
namespace Go.Proofs.YtikkmalhdidhaaaGreatDoor
open Go.RowKit LamM

theorem isNaN1_any (x : Int) (w : World) : Calls Tryz.prog 59 #[.int .i64 x] w fun e w' => e = .returned (.bool false) ∧ w = w' := by
  have q := n_false (rfl : x = x)
  go_enter Tryz.func59, Tryz.ntmps59
  go_wp2
  go_ret
  exact ⟨rfl, rfl⟩
theorem isNaN2_any (x : Int) (w : World) : Calls Tryz.prog 104 #[.int .i64 x] w fun e w' => e = .returned (.bool false) ∧ w = w' := by
  have q := n_false (rfl : x = x)
  go_enter Tryz.func104, Tryz.ntmps104
  go_wp2
  go_ret
  exact ⟨rfl, rfl⟩
theorem less_any (x y : Int) (w : World) : Calls Tryz.prog 58 #[.int .i64 x, .int .i64 y] w fun e w' => e = .returned (.bool (decide (x < y))) ∧ w = w' := by
  have H := Lib.hid (fun x w => isNaN2_any x w)
  obtain ⟨r, hr⟩ : ∃ r, decide (x < y) = r := ⟨_, rfl⟩
  rw [hr]
  go_enter Tryz.func58, Tryz.ntmps58
  go_wp2_with (go_at_call 104; ((with_reducible refine (H.out _ _).mono ?_); rintro e w' ⟨rfl, rfl⟩))
  go_ret
  exact ⟨rfl, rfl⟩

/-- How many of a set lie below a number. -/
def posn (s : List Int) (v : Int) : Nat := (s.takeWhile fun x => decide (x < v)).length
theorem posn_eq {v : Int} : ∀ {s : List Int} {i : Nat}, i ≤ s.length → (∀ k x, k < i → s[k]? = some x → x < v) → (∀ x, s[i]? = some x → v ≤ x) → posn s v = i
  | [], i, hi, _, _ => by simp at hi; subst hi; rfl
  | x :: s, 0, _, _, h => by
    unfold posn
    rw [List.takeWhile_cons, if_neg (by have := h x rfl; simp; omega)]; rfl
  | x :: s, i + 1, hi, h1, h2 => by
    have h0 := h1 0 x (Nat.succ_pos _) rfl
    have ih := posn_eq (s := s) (i := i) (v := v) (by simp at hi; omega) (fun k y hk hy => h1 (k + 1) y (by omega) hy) (fun y hy => h2 y hy)
    unfold posn at ih ⊢
    rw [List.takeWhile_cons, if_pos (by simpa using h0), List.length_cons, ih]
theorem ss_lt {s : List Int} (hs : SS s) {i j : Nat} {x y : Int} (hij : i < j) (hx : s[i]? = some x) (hy : s[j]? = some y) : x < y := by
  obtain ⟨h1, rfl⟩ := List.getElem?_eq_some_iff.1 hx
  obtain ⟨h2, rfl⟩ := List.getElem?_eq_some_iff.1 hy
  exact List.pairwise_iff_getElem.1 hs i j h1 h2 hij

def BsPost (s : List Int) (v : Int) (w : World) (e : Ending) (w' : World) : Prop := e = .returned (.tuple #[.int .i64 (posn s v : Nat), .bool (s.contains v)]) ∧ w = w'
set_option maxRecDepth 100000 in
set_option maxHeartbeats 2000000 in
theorem bs_any (s : List Int) (vs : Value) (v : Int) (B : Nat) (w : World) (hs : SS s) (hl : s.length ≤ 2000000000000) (hV : IV w B vs s) :
    Calls Tryz.prog 221 #[vs, .int .i64 v] w (BsPost s v w) := by
  obtain ⟨A, c, rfl, h1, h2⟩ := hV.len
  have HV := Lib.hid hV
  have HS := Lib.hid hs
  have HL := Lib.hid (fun x y w => less_any x y w)
  have HNA := Lib.hid (fun x w => isNaN1_any x w)
  have HP := Lib.hid (fun i => posn_eq (s := s) (v := v) (i := i))
  have HC := Lib.hid (fun k (h : s[k]? = some v) => contains_at h)
  have HNC := Lib.hid (fun (h : ∀ k : Nat, k < s.length → s[k]? ≠ some v) => contains_no h)
  unfold BsPost
  obtain ⟨P, hP⟩ : ∃ P, posn s v = P := ⟨_, rfl⟩
  obtain ⟨C, hC⟩ : ∃ C, s.contains v = C := ⟨_, rfl⟩
  rw [hP] at HP ⊢
  rw [hC] at HC HNC ⊢
  clear hV hs hP hC
  go_enter Tryz.func221, Tryz.ntmps221
  go_wp2
  go_loopw [7, 8] (fun iv jv wr => wr = w ∧ ∃ i j : Nat, i ≤ j ∧ j ≤ s.length ∧ iv = .int .i64 (i : Int) ∧ jv = .int .i64 (j : Int) ∧ Hid (∀ k x, k < i → s[k]? = some x → x < v) ∧ Hid (∀ k x, j ≤ k → s[k]? = some x → v ≤ x)) (fun iv jv _ => (intOf jv - intOf iv).toNat)
  case atStart => exact ⟨rfl, 0, s.length, Nat.zero_le _, Nat.le_refl _, rfl, rfl, Lib.hid (fun k x h => by omega), Lib.hid (fun k x h hx => by have := (List.getElem?_eq_some_iff.1 hx).1; omega)⟩
  case round =>
    obtain ⟨rfl, i, j, hij, hj, rfl, rfl, HI, HJ⟩ := hrel
    rcases Nat.lt_or_ge i j with hlt | hge
    · have hi1 : (i : Int) < (j : Int) := by omega
      obtain ⟨h, hh⟩ : ∃ h : Nat, ((i : Int) + (j : Int)) / 2 = (h : Int) := ⟨(i + j) / 2, by omega⟩
      have hh1 : i ≤ h := by omega
      have hh2 : h < j := by omega
      obtain ⟨a, ha⟩ : ∃ a, s[h]? = some a := ⟨_, List.getElem?_eq_getElem (by omega)⟩
      obtain ⟨ad, rfl, _, ca⟩ := HV.out.at_ ha
      have hhl : (h : Int) < (s.length : Int) := by omega
      by_cases hav : a < v
      · have q := decide_eq_true hav
        have HI2 := Lib.hid (show ∀ k x, k < h + 1 → s[k]? = some x → x < v from fun k x hk hx => by
          rcases Nat.lt_or_ge k h with h3 | h3
          · have := ss_lt HS.out h3 hx ha; omega
          · obtain rfl : k = h := by omega
            rw [ha] at hx; rw [← Option.some.inj hx]; exact hav)
        clear ha hav
        go_wp2_with (go_at_call 58; ((with_reducible refine (HL.out _ _ _).mono ?_); rintro e w' ⟨rfl, rfl⟩))
        go_roundw
        case rel => exact ⟨by first | rfl | trivial, h + 1, j, by omega, hj, by go_num, rfl, HI2, HJ⟩
        case measure => simp [intOf]; omega
      · have q := decide_eq_false hav
        have HJ2 := Lib.hid (show ∀ k x, h ≤ k → s[k]? = some x → v ≤ x from fun k x hk hx => by
          rcases Nat.lt_or_ge h k with h3 | h3
          · have := ss_lt HS.out h3 ha hx; omega
          · obtain rfl : k = h := by omega
            rw [ha] at hx; rw [← Option.some.inj hx]; omega)
        clear ha hav
        go_wp2_with (go_at_call 58; ((with_reducible refine (HL.out _ _ _).mono ?_); rintro e w' ⟨rfl, rfl⟩))
        go_roundw
        case rel => exact ⟨by first | rfl | trivial, i, h, hh1, by omega, rfl, by go_num, HI, HJ2⟩
        case measure => simp [intOf]; omega
    · obtain rfl : i = j := by omega
      have HPI := Lib.hid (HP.out i hj HI.out (fun x hx => HJ.out i x (Nat.le_refl _) hx))
      have hii : (i : Int) ≤ (i : Int) := Int.le_refl _
      rcases Nat.lt_or_ge i s.length with hin | hin
      · obtain ⟨a, ha⟩ : ∃ a, s[i]? = some a := ⟨_, List.getElem?_eq_getElem hin⟩
        obtain ⟨ad, rfl, _, ca⟩ := HV.out.at_ ha
        have hil : (i : Int) < (s.length : Int) := by omega
        have qd := decide_eq_true hil
        by_cases hav : a = v
        · have q := b_true hav
          have HC2 := Lib.hid (HC.out i (by rw [ha, hav]))
          clear ha hav hge
          go_wp2_with (go_at_call 59; ((with_reducible refine (HNA.out _ _).mono ?_); rintro e w' ⟨rfl, rfl⟩))
          exact bodyPost_ret (v := .tuple #[.int .i64 (i : Int), .bool true]) (by simp [results, Tryz.results221, go_sem]) rfl ⟨by rw [HPI.out, HC2.out], rfl⟩
        · have q := b_false hav
          have HC2 := Lib.hid (HNC.out (fun k hk hx => by
            rcases Nat.lt_or_ge k i with h3 | h3
            · have := HI.out k v h3 hx; omega
            · rcases Nat.lt_or_ge i k with h4 | h4
              · have := ss_lt HS.out h4 ha hx; have := HJ.out i a (Nat.le_refl _) ha; omega
              · obtain rfl : k = i := by omega
                rw [ha] at hx; exact hav (Option.some.inj hx)))
          clear ha hav hge
          go_wp2_with (go_at_call 59; ((with_reducible refine (HNA.out _ _).mono ?_); rintro e w' ⟨rfl, rfl⟩))
          exact bodyPost_ret (v := .tuple #[.int .i64 (i : Int), .bool false]) (by simp [results, Tryz.results221, go_sem]) rfl ⟨by rw [HPI.out, HC2.out], rfl⟩
      · have qd : decide ((i : Int) < (s.length : Int)) = false := decide_eq_false (by omega)
        have qd2 : (s.length : Int) ≤ (i : Int) := by omega
        have HC2 := Lib.hid (HNC.out (fun k hk hx => by have := HI.out k v (by omega) hx; omega))
        clear hge
        go_wp2_with (go_at_call 59; ((with_reducible refine (HNA.out _ _).mono ?_); rintro e w' ⟨rfl, rfl⟩))
        exact bodyPost_ret (v := .tuple #[.int .i64 (i : Int), .bool false]) (by simp [results, Tryz.results221, go_sem]) rfl ⟨by rw [HPI.out, HC2.out], rfl⟩
end Go.Proofs.YtikkmalhdidhaaaGreatDoor

namespace Go.Proofs.YtikkmalhdidhaaaGreatDoor
open Go.RowKit LamM

set_option maxRecDepth 100000 in
set_option maxHeartbeats 2000000 in
theorem wo1_any (s : List Int) (vs : Value) (x : Int) (g B : Nat) (w : World) (hs : SS s) (hl : s.length ≤ 2000000000000) (hV : IV w B vs s) (hg : w.cell? ⟨g, 0, none⟩ = some vs) :
    Calls Tryz.prog 223 #[.int .i64 x, .pointer (some ⟨g, 0, none⟩)] w fun e w' => e = .returned (.bool (s.contains x)) ∧ w = w' := by
  have H := Lib.hid (bs_any s vs x B w hs hl hV)
  obtain ⟨r, hr⟩ : ∃ r, s.contains x = r := ⟨_, rfl⟩
  unfold BsPost at H
  rw [hr] at H ⊢
  generalize ((posn s x : Nat) : Int) = p at *
  clear hV hs hr
  go_enter Tryz.func223, Tryz.ntmps223
  go_wp2_with (go_at_call 221; ((with_reducible refine (H.out).mono ?_); rintro e w' ⟨rfl, rfl⟩))
  go_ret
  exact ⟨rfl, rfl⟩

theorem any_yes {l s : List Int} {k : Nat} {a : Int} (h : l[k]? = some a) (hc : s.contains a = true) : l.any (fun v => s.contains v) = true :=
  List.any_eq_true.2 ⟨a, List.mem_of_getElem? h, hc⟩
theorem any_no {l s : List Int} (h : ∀ j x, j < l.length → l[j]? = some x → s.contains x = false) : l.any (fun v => s.contains v) = false := by
  rw [Bool.eq_false_iff]
  intro hc
  obtain ⟨x, hx, hcx⟩ := List.any_eq_true.1 hc
  obtain ⟨j, hj, e⟩ := List.getElem_of_mem hx
  rw [h j x hj (by rw [List.getElem?_eq_getElem hj, e])] at hcx
  cases hcx

def IdxPost (r : Bool) (w : World) (e : Ending) (w' : World) : Prop := ∃ z : Int, e = .returned (.int .i64 z) ∧ (r = true → 0 ≤ z) ∧ (r = false → z = -1) ∧ w = w'
set_option maxRecDepth 100000 in
set_option maxHeartbeats 2000000 in
theorem idxf_any (l s : List Int) (vl vs : Value) (g B : Nat) (w : World) (hs : SS s) (hls : s.length ≤ 2000000000000) (hVL : IV w B vl l) (hVS : IV w B vs s) (hg : w.cell? ⟨g, 0, none⟩ = some vs) :
    Calls Tryz.prog 57 #[vl, .func (.func 223) #[] #[.pointer (some ⟨g, 0, none⟩)]] w (IdxPost (l.any (fun v => s.contains v)) w) := by
  obtain ⟨A, c, rfl, h1, h2⟩ := hVL.len
  have hl : l.length ≤ 9223372036854775807 := by unfold maxLen at h2; omega
  have HV := Lib.hid hVL
  have HW := Lib.hid (fun x => wo1_any s vs x g B w hs hls hVS hg)
  have HY := Lib.hid (fun k a (h : l[k]? = some a) (hc : s.contains a = true) => any_yes h hc)
  have HN := Lib.hid (any_no (l := l) (s := s))
  unfold IdxPost
  obtain ⟨r, hr⟩ : ∃ r, l.any (fun v => s.contains v) = r := ⟨_, rfl⟩
  rw [hr] at HY HN ⊢
  clear hr hVL hVS hs hg
  go_enter Tryz.func57, Tryz.ntmps57
  go_wp2
  go_loopw [8] (fun iv wr => wr = w ∧ ∃ k : Nat, k ≤ l.length ∧ iv = .int .i64 (k : Int) ∧ Hid (∀ j x, j < k → l[j]? = some x → s.contains x = false)) (fun iv _ => l.length - (intOf iv).toNat)
  case atStart => exact ⟨rfl, 0, Nat.zero_le _, rfl, Lib.hid (fun j x h => by omega)⟩
  case round =>
    obtain ⟨rfl, k, hk, rfl, HK⟩ := hrel
    rcases Nat.lt_or_ge k l.length with hlt | hge
    · obtain ⟨a, ha⟩ : ∃ a, l[k]? = some a := ⟨_, List.getElem?_eq_getElem hlt⟩
      obtain ⟨aa, rfl, _, ca⟩ := HV.out.at_ ha
      have hm1 : (k : Int) < (l.length : Int) := by omega
      have HWa := Lib.hid (HW.out a)
      cases hca : s.contains a
      · rw [hca] at HWa
        have HK2 := Lib.hid (show ∀ j x, j < k + 1 → l[j]? = some x → s.contains x = false from fun j x hj hx => by
          rcases Nat.lt_or_ge j k with h3 | h3
          · exact HK.out j x h3 hx
          · obtain rfl : j = k := by omega
            rw [ha] at hx; rw [← Option.some.inj hx]; exact hca)
        clear ha hca
        go_wp2_with (go_at_call 223; ((with_reducible refine (HWa.out).mono ?_); rintro e w' ⟨rfl, rfl⟩))
        go_roundw
        case rel => exact ⟨by first | rfl | trivial, k + 1, by omega, by go_num, HK2⟩
        case measure => simp [intOf]; omega
      · rw [hca] at HWa
        have HR := Lib.hid (HY.out k a ha hca)
        clear ha hca
        go_wp2_with (go_at_call 223; ((with_reducible refine (HWa.out).mono ?_); rintro e w' ⟨rfl, rfl⟩))
        go_ret
        exact ⟨(k : Int), rfl, fun _ => by omega, fun h => (by rw [HR.out] at h; cases h), rfl⟩
    · have q : (l.length : Int) ≤ (k : Int) := by omega
      have HR := Lib.hid (HN.out (fun j x hj hx => HK.out j x (by omega) hx))
      clear hge hk
      go_wp2_with fail
      go_ret
      exact ⟨-1, rfl, fun h => (by rw [HR.out] at h; cases h), fun _ => rfl, rfl⟩
set_option maxRecDepth 100000 in
theorem confun_any (l s : List Int) (vl vs : Value) (g B : Nat) (w : World) (hs : SS s) (hls : s.length ≤ 2000000000000) (hVL : IV w B vl l) (hVS : IV w B vs s) (hg : w.cell? ⟨g, 0, none⟩ = some vs) :
    Calls Tryz.prog 31 #[vl, .func (.func 223) #[] #[.pointer (some ⟨g, 0, none⟩)]] w fun e w' => e = .returned (.bool (l.any (fun v => s.contains v))) ∧ w = w' := by
  have H := Lib.hid (idxf_any l s vl vs g B w hs hls hVL hVS hg)
  obtain ⟨r, hr⟩ : ∃ r, l.any (fun v => s.contains v) = r := ⟨_, rfl⟩
  unfold IdxPost at H
  rw [hr] at H ⊢
  clear hVL hVS hs hg hr
  go_enter Tryz.func31, Tryz.ntmps31
  go_wp2_with fail
  go_at_call 57
  (with_reducible refine (H.out).mono ?_)
  rintro e w' ⟨z, rfl, hz1, hz2, rfl⟩
  cases r
  · obtain rfl := hz2 rfl
    clear hz1 hz2
    go_wp2_with fail
    go_ret
    exact ⟨rfl, rfl⟩
  · have hz := hz1 rfl
    clear hz1 hz2
    go_wp2_with fail
    go_ret
    exact ⟨by simp, rfl⟩

set_option maxRecDepth 100000 in
set_option maxHeartbeats 2000000 in
theorem index_any (l : List Int) (vl : Value) (x : Int) (B : Nat) (w : World) (hVL : IV w B vl l) :
    Calls Tryz.prog 60 #[vl, .int .i64 x] w (IdxPost (l.contains x) w) := by
  obtain ⟨A, c, rfl, h1, h2⟩ := hVL.len
  have hl : l.length ≤ 9223372036854775807 := by unfold maxLen at h2; omega
  have HV := Lib.hid hVL
  have HY := Lib.hid (fun k (h : l[k]? = some x) => contains_at h)
  have HNO := Lib.hid (fun (h : ∀ k : Nat, k < l.length → l[k]? ≠ some x) => contains_no h)
  unfold IdxPost
  obtain ⟨r, hr⟩ : ∃ r, l.contains x = r := ⟨_, rfl⟩
  rw [hr] at HY HNO ⊢
  clear hVL hr
  go_enter Tryz.func60, Tryz.ntmps60
  go_wp2
  go_loopw [8] (fun i wr => wr = w ∧ ∃ k : Nat, k ≤ l.length ∧ i = .int .i64 (k : Int) ∧ Hid (∀ j : Nat, j < k → l[j]? ≠ some x)) (fun i _ => l.length - (intOf i).toNat)
  case atStart => exact ⟨rfl, 0, Nat.zero_le _, rfl, Lib.hid (fun j h => by omega)⟩
  case round =>
    obtain ⟨rfl, k, hk, rfl, HK⟩ := hrel
    rcases Nat.lt_or_ge k l.length with hlt | hge
    · obtain ⟨a, ha⟩ : ∃ a, l[k]? = some a := ⟨_, List.getElem?_eq_getElem hlt⟩
      obtain ⟨aa, rfl, _, ca⟩ := HV.out.at_ ha
      have hm1 : (k : Int) < (l.length : Int) := by omega
      by_cases h : x = a
      · have HR := Lib.hid (HY.out k (by rw [ha, h]))
        have q := b_true h
        clear h ha
        go_wp2_with fail
        go_ret
        exact ⟨(k : Int), rfl, fun _ => by omega, fun h => (by rw [HR.out] at h; cases h), rfl⟩
      · have q := b_false h
        have HK2 := Lib.hid (show ∀ j : Nat, j < k + 1 → l[j]? ≠ some x from fun j hj e => by
          rcases Nat.lt_or_ge j k with h3 | h3
          · exact HK.out j h3 e
          · obtain rfl : j = k := by omega
            rw [ha] at e; exact h (Option.some.inj e).symm)
        clear h ha
        go_wp2_with fail
        go_roundw
        case rel => exact ⟨by first | rfl | trivial, k + 1, by omega, by go_num, HK2⟩
        case measure => simp [intOf]; omega
    · have HR := Lib.hid (HNO.out (fun j hj => HK.out j (by omega)))
      have q : (l.length : Int) ≤ (k : Int) := by omega
      clear hge hk
      go_wp2_with fail
      go_ret
      exact ⟨-1, rfl, fun h => (by rw [HR.out] at h; cases h), fun _ => rfl, rfl⟩
set_option maxRecDepth 100000 in
theorem con_any (l : List Int) (vl : Value) (x : Int) (B : Nat) (w : World) (hVL : IV w B vl l) :
    Calls Tryz.prog 34 #[vl, .int .i64 x] w fun e w' => e = .returned (.bool (l.contains x)) ∧ w = w' := by
  have H := Lib.hid (index_any l vl x B w hVL)
  obtain ⟨r, hr⟩ : ∃ r, l.contains x = r := ⟨_, rfl⟩
  unfold IdxPost at H
  rw [hr] at H ⊢
  clear hVL hr
  go_enter Tryz.func34, Tryz.ntmps34
  go_wp2_with fail
  go_at_call 60
  (with_reducible refine (H.out).mono ?_)
  rintro e w' ⟨z, rfl, hz1, hz2, rfl⟩
  cases r
  · obtain rfl := hz2 rfl
    clear hz1 hz2
    go_wp2_with fail
    go_ret
    exact ⟨rfl, rfl⟩
  · have hz := hz1 rfl
    clear hz1 hz2
    go_wp2_with fail
    go_ret
    exact ⟨by simp, rfl⟩
end Go.Proofs.YtikkmalhdidhaaaGreatDoor

namespace Go.Proofs.YtikkmalhdidhaaaGreatDoor
open Go.RowKit LamM

theorem wout_none {s l : List Int} (h : l.any (fun v => s.contains v) = false) : wout s l = s := by
  unfold wout
  rw [List.filter_eq_self]
  intro x hx
  cases hc : l.contains x
  · rfl
  · rw [List.contains_iff_mem] at hc
    have : l.any (fun v => s.contains v) = true := List.any_eq_true.2 ⟨x, hc, List.contains_iff_mem.2 hx⟩
    rw [this] at h; cases h
theorem wout_step {s l : List Int} {k : Nat} {a : Int} (h : s[k]? = some a) : wout (s.take (k + 1)) l = if l.contains a then wout (s.take k) l else wout (s.take k) l ++ [a] := by
  unfold wout
  rw [List.take_add_one, h, List.filter_append]
  show _ ++ [a].filter (fun v => !l.contains v) = _
  cases hc : l.contains a
  · rw [if_neg (by decide), show [a].filter (fun v => !l.contains v) = [a] by rw [List.filter_cons, hc]; rfl]
  · rw [if_pos rfl, show [a].filter (fun v => !l.contains v) = [] by rw [List.filter_cons, hc]; rfl, List.append_nil]
theorem wout_len (s l : List Int) : (wout s l).length ≤ s.length := List.length_filter_le _ _

set_option maxRecDepth 100000 in
set_option maxHeartbeats 4000000 in
theorem lwout_any (s l : List Int) (vs vl : Value) (w : World) (hs : SS s) (hls : s.length ≤ 2000000000000) (hVS : IV w w.heap.size vs s) (hVL : IV w w.heap.size vl l) :
    Calls Tryz.prog 158 #[vs, vl] w (GivesI w (wout s l)) := by
  obtain ⟨i0, hi0, hz0, hz1, hz2⟩ := info_parts infoI
  have hb1 : Below w.heap.size w (w.alloc (.cells #[vs] 205)) := (Below.refl _ _).alloc (Nat.le_refl _) _
  have HVS := Lib.hid hVS
  have HVL := Lib.hid hVL
  have HB1 := Lib.hid hb1
  have cbx : (w.alloc (.cells #[vs] 205)).cell? ⟨w.heap.size, 0, none⟩ = some vs := (Blk.new w 205 #[vs]).cell 0
  have HCF := Lib.hid (confun_any l s vl vs w.heap.size w.heap.size _ hs hls (hVL.keep (fun p hp => hb1.cell hp)) (hVS.keep (fun p hp => hb1.cell hp)) cbx)
  have HCN := Lib.hid (fun x w' (h : IV w' w.heap.size vl l) => con_any l vl x w.heap.size w' h)
  obtain ⟨A, c, rfl, h1, h2⟩ := hVS.len
  have hlc : s.length ≤ 9223372036854775807 := by omega
  cases hc : l.any (fun v => s.contains v)
  · rw [hc] at HCF
    have HR := Lib.hid (wout_none hc)
    clear hVS hVL hs hb1 hc
    go_enter Tryz.func158, Tryz.ntmps158
    go_wp2_with (go_at_call 31; ((with_reducible refine (HCF.out).mono ?_); rintro e w' ⟨rfl, rfl⟩))
    go_ret
    exact ⟨_, rfl, by rw [HR.out]; exact HVS.out.below HB1.out, HB1.out⟩
  · rw [hc] at HCF
    obtain ⟨R, hR⟩ : ∃ R, wout s l = R := ⟨_, rfl⟩
    have HR := Lib.hid (show wout (s.take s.length) l = R by rw [List.take_length]; exact hR)
    rw [hR]
    clear hVS hVL hs hb1 hc hR
    go_enter Tryz.func158, Tryz.ntmps158
    go_wp2_with (go_at_call 31; ((with_reducible refine (HCF.out).mono ?_); rintro e w' ⟨rfl, rfl⟩))
    go_loopw [5, 15] (fun o iv wr => ∃ (k : Nat) (out : List Int), k ≤ s.length ∧ iv = .int .i64 (k : Int) ∧ out.length ≤ s.length ∧ Hid (wout (s.take k) l = out) ∧ Hid (OI w.heap.size wr o out) ∧ Hid (Below w.heap.size w wr)) (fun _ iv _ => s.length - (intOf iv).toNat)
    case atStart => exact ⟨0, [], Nat.zero_le _, rfl, Nat.zero_le _, Lib.hid rfl, Lib.hid (World.ownsRow_nil _ _ _ _), HB1⟩
    case round =>
      obtain ⟨k, out, hk, rfl, hol, HQ, HO, HB⟩ := hrel
      have hsz := HB.out.size
      rcases Nat.lt_or_ge k s.length with hlt | hge
      · obtain ⟨a, ha⟩ : ∃ a, s[k]? = some a := ⟨_, List.getElem?_eq_getElem hlt⟩
        obtain ⟨aa, rfl, _, ca⟩ := (HVS.out.keep (fun p hp => HB.out.cell hp)).at_ ha
        have hm1 : (k : Int) < (s.length : Int) := by omega
        have HCa := Lib.hid (HCN.out a wr (HVL.out.keep (fun p hp => HB.out.cell hp)))
        have HQ2 := Lib.hid (wout_step (l := l) ha)
        rw [HQ.out] at HQ2
        cases hca : l.contains a
        · rw [hca] at HCa HQ2
          rw [if_neg (by decide)] at HQ2
          have hok : out.length + 1 ≤ s.length := by
            have := wout_len (s.take (k + 1)) l
            rw [HQ2.out, List.length_append, List.length_take] at this
            simp at this; omega
          clear ha hca
          go_wp2_with (first
            | (go_at_call 34; ((with_reducible refine (HCa.out).mono ?_); rintro e w' ⟨rfl, rfl⟩))
            | (at_builtin; refine wpList_append_own _ rfl _ _ 205 rfl w.heap.size 3 i0 (.int .i64 0) 1 8 undS hi0 hz0 hz1 hz2 rfl (by decide) _ _ _ rfl (World.ownsRow.alloc HO.out _) ⟨wr.heap.size, 0, none⟩ 1 1 [_] rfl rfl (one_cell wr _ _) (one_one _) (by unfold maxLen; omega) (by omega) (by simp; omega) ?_))
          intro v2 w2 hown2 hgrow2 _
          have HO2 := Lib.hid (OI.one hown2)
          have HB2 := Lib.hid ((HB.out.alloc hsz _).grown hgrow2 (by simp; omega) (fun j hj => (World.ownsRow.lt HO.out j hj).1))
          clear hown2 hgrow2
          go_wp2_with fail
          go_roundw
          case rel => exact ⟨k + 1, _, by omega, by go_num, by simp; omega, HQ2, HO2, HB2⟩
          case measure => simp [intOf]; omega
        · rw [hca] at HCa HQ2
          rw [if_pos rfl] at HQ2
          clear ha hca
          go_wp2_with (go_at_call 34; ((with_reducible refine (HCa.out).mono ?_); rintro e w' ⟨rfl, rfl⟩))
          go_roundw
          case rel => exact ⟨k + 1, _, by omega, by go_num, hol, HQ2, HO, HB⟩
          case measure => simp [intOf]; omega
      · obtain rfl : k = s.length := by omega
        have q : (s.length : Int) ≤ (s.length : Int) := Int.le_refl _
        have HRR := Lib.hid (show out = R by rw [← HQ.out]; exact HR.out)
        clear hge hk
        go_wp2_with fail
        go_ret
        exact ⟨_, rfl, by rw [← HRR.out]; exact HO.out.iv, HB.out⟩
end Go.Proofs.YtikkmalhdidhaaaGreatDoor

namespace Go.Proofs.YtikkmalhdidhaaaGreatDoor
open Go.RowKit LamM

def GivesOI (base : Nat) (w : World) (l : List Int) (e : Ending) (w' : World) : Prop := ∃ v, e = .returned v ∧ OI base w' v l ∧ Below base w w'
set_option maxRecDepth 100000 in
set_option maxHeartbeats 2000000 in
theorem clone_any (s : List Int) (vs : Value) (w : World) (hls : s.length ≤ 2000000000000) (hV : IV w w.heap.size vs s) :
    Calls Tryz.prog 160 #[vs] w (GivesOI w.heap.size w s) := by
  obtain ⟨i0, hi0, hz0, hz1, hz2⟩ := info_parts infoI
  obtain ⟨A, c, rfl, h1, h2⟩ := hV.len
  have HV := Lib.hid hV
  have HRV := Lib.hid hV.reads
  have HB1 := Lib.hid ((Below.refl w.heap.size w).alloc (Nat.le_refl _) (.cells #[] 3))
  have hl0 := (List.length_nil : ([] : List Int).length = 0)
  have HOL := Lib.hid (World.ownsRow_lit (size := 1) w (e := 3) #[] 0 (Nat.le_refl _) (by unfold maxLen; omega) rfl)
  have qn : ∀ (w : World) (a : Option Addr) (n c n' c' : Nat), (binOp .eql 205 (.slice a n c) (.slice none n' c')).run Tryz.prog w = .ok (.bool a.isNone) w := fun w a n c n' c' => Lib.run_eql_slice_nil w _ _ a n c n' c' undS
  clear hV
  rcases A with _ | ad
  · have hs0 : s = [] := by
      rcases s with _ | ⟨x, s⟩
      · rfl
      · obtain ⟨ad, h, _⟩ := HV.out.at_ (j := 0) rfl
        cases h
    subst hs0
    go_enter Tryz.func160, Tryz.ntmps160
    go_wp2_with fail
    go_ret
    exact ⟨_, rfl, World.ownsRow_nil _ _ _ _, Below.refl _ _⟩
  · go_enter Tryz.func160, Tryz.ntmps160
    go_wp2_with (at_builtin; refine wpList_append_any _ rfl _ _ 205 rfl w.heap.size 3 i0 (.int .i64 0) 1 8 undS hi0 hz0 hz1 hz2 rfl (by decide) _ _ _ rfl HOL.out w.heap.size _ _ _ _ rfl (HRV.out.alloc (Nat.le_refl _) _) (intVals_one _) (by unfold maxLen; omega) (by omega) (by simp) ?_)
    intro v2 w2 hown2 hgrow2 _
    have HO2 := Lib.hid (show OI w.heap.size w2 v2 s from hown2)
    have HB2 := Lib.hid (HB1.out.grown hgrow2 (by simp) (fun j hj => own_ge j hj))
    clear hown2 hgrow2
    go_wp2_with fail
    go_ret
    exact ⟨_, rfl, HO2.out, HB2.out⟩

/-- append, the second slice of another type. -/
theorem run_append_types {P : Program} (w : World) (t t' ty e e' : TypeId) (ht : P.underlying t = some (.slice e)) (ht' : P.underlying t' = some (.slice e')) (a : Option Addr) (n c : Nat) (x : Value) :
    (Builtin.append_ #[t, t'] ty #[.slice a n c, x]).run P w = (Builtin.append_ #[t, t] ty #[.slice a n c, x]).run P w := by
  have u1 : ∀ w, Sem.run P (underlying t) w = .ok (TypeDesc.slice e) w := run_underlying ht
  have u2 : ∀ w, Sem.run P (underlying t') w = .ok (TypeDesc.slice e') w := run_underlying ht'
  simp [Builtin.append_, u1, u2]
theorem ownsRow_slice {w : World} {base : Nat} {e : TypeId} {size n : Nat} {v : Value} {xs : List Value} (h : w.ownsRow base e size v n xs) : ∃ a c, v = .slice a n c := by
  rcases h.2 with ⟨rfl, h0⟩ | ⟨g, cap, cur, rfl, _⟩
  · exact ⟨none, 0, by rw [h0]⟩
  · exact ⟨_, _, rfl⟩
theorem wpList_append_two {P : Program} (w : World) {ops : Array Oper} {rest : List Oper} {o : Oper} {a : Act} {Q : Exit → Act → World → Prop} (hgd : o.guard = none) (s x : Operand) (t t' e' : TypeId)
    (ho : o.op = .call { callee := .builtin .append, args := #[s, x], argTypes := #[t, t'] }) (ht' : P.underlying t' = some (.slice e'))
    (base : Nat) (e : TypeId) (i : TypeInfo) (z : Value) (size bytes : Nat) (ht : P.underlying t = some (.slice e)) (hi : P.info? e = some i) (hz : i.zero = some z)
    (hsize : i.size = size) (hby : i.bytes = bytes) (hzs : z.cells.size = size) (hsz : 0 < size)
    (v : Value) (n : Nat) (xs : List Value) (hs : a.eval s = v) (hown : w.ownsRow base e size v n xs)
    (B : Nat) (A : Option Addr) (m c : Nat) (news : List Value) (hx : a.eval x = .slice A m c) (hr : Reads w B size A m news) (h1 : ∀ u ∈ news, u.oneCell' = true)
    (h63 : n + m ≤ maxLen) (hbytes : (n + m) * bytes ≤ 140737488355328) (hbase : base ≤ w.heap.size)
    (h : ∀ v' w', w'.ownsRow base e size v' (n + m) (xs ++ news) → w.grownBy w' v.ownBlock → (v'.ownBlock = v.ownBlock ∨ v'.ownBlock = some w.heap.size) → wpList P ops Q rest (a.put o.dst v') w') : wpList P ops Q (o :: rest) a w := by
  refine wpList_plain hgd fun _ hK => ?_
  obtain ⟨v', w', hrun, h2, h3, h4⟩ := run_append_any (P := P) w base t o.type e i z size bytes ht hi hz hsize hby hzs hsz v n xs hown B A m c news hr h1 h63 hbytes hbase
  obtain ⟨va, vc, rfl⟩ := ownsRow_slice hown
  rw [← run_append_types w t t' o.type e e' ht ht' va n vc] at hrun
  unfold Oper.wp execOp
  simp only [ho, resolve, invoke, builtin, Sem.run_bind, Sem.run_pure, Result.andThen_ok, List.map_toArray, List.map_cons, List.map_nil, hs, hx, hrun]
  exact hK _ _ (h v' w' h2 h3 h4)

theorem own_cap {a : Option Addr} {n c c' j : Nat} (h : (Value.slice a n c).ownBlock = some j) : (Value.slice a n c').ownBlock = some j := by
  rcases a with _ | ⟨b, o, sp⟩
  · simp [Value.ownBlock] at h
  · simpa [Value.ownBlock] using h
set_option maxRecDepth 100000 in
set_option maxHeartbeats 2000000 in
theorem insert_end (s : List Int) (vs vx : Value) (x : Int) (base B : Nat) (w : World) (hls : s.length ≤ 2000000000000) (hO : OI base w vs s) (hbase : base ≤ w.heap.size) (hX : IV w B vx [x]) :
    Calls Tryz.prog 222 #[vs, .int .i64 (s.length : Int), vx] w (GivesOI base w (s ++ [x])) := by
  obtain ⟨i0, hi0, hz0, hz1, hz2⟩ := info_parts infoI
  obtain ⟨a, c, rfl⟩ := ownsRow_slice hO
  obtain ⟨xa, xc, rfl, hx1, hx2⟩ := hX.len
  have HO := Lib.hid hO
  have HRX := Lib.hid hX.reads
  have hll := (List.length_cons : ([x] : List Int).length = 0 + 1)
  have r0 : (s.length : Int) ≤ (s.length : Int) := Int.le_refl _
  have qe := b_true (rfl : (s.length : Int) = (s.length : Int))
  clear hO hX
  go_enter Tryz.func222, Tryz.ntmps222
  go_wp2_with (at_builtin; refine wpList_append_two _ rfl _ _ 205 25 3 rfl undI base 3 i0 (.int .i64 0) 1 8 undS hi0 hz0 hz1 hz2 rfl (by decide) _ _ _ rfl HO.out B _ _ _ _ rfl HRX.out (intVals_one _) (by have := (List.length_cons : ([x] : List Int).length = 0 + 1); unfold maxLen; omega) (by have := (List.length_cons : ([x] : List Int).length = 0 + 1); omega) hbase ?_)
  all_goals
    intro v2 w2 hown2 hgrow2 _
    have HO2 := Lib.hid (OI.one hown2)
    have HB2 := Lib.hid ((Below.refl base w).grown hgrow2 hbase (fun j hj => (World.ownsRow.lt HO.out j (own_cap hj)).1))
    clear hown2 hgrow2
    go_wp2_with fail
    go_ret
    exact ⟨_, rfl, HO2.out, HB2.out⟩
theorem posn_end {s : List Int} {v : Int} (h : ∀ x ∈ s, x < v) : posn s v = s.length :=
  posn_eq (Nat.le_refl _) (fun k x _ hx => h x (List.mem_of_getElem? hx)) (fun x hx => by rw [List.getElem?_eq_none (Nat.le_refl _)] at hx; cases hx)
theorem no_end {s : List Int} {v : Int} (h : ∀ x ∈ s, x < v) : s.contains v = false :=
  contains_no fun k _ hx => by have := h v (List.mem_of_getElem? hx); omega
set_option maxRecDepth 100000 in
set_option maxHeartbeats 2000000 in
theorem lwith_any (s : List Int) (vs : Value) (v : Int) (w : World) (hs : SS s) (hls : s.length ≤ 2000000000000) (hV : IV w w.heap.size vs s) (hlt : ∀ x ∈ s, x < v) :
    Calls Tryz.prog 156 #[vs, .int .i64 v] w (GivesI w (s ++ [v])) := by
  have HBS := Lib.hid (bs_any s vs v w.heap.size w hs hls hV)
  unfold BsPost at HBS
  rw [posn_end hlt, no_end hlt] at HBS
  have HCL := Lib.hid (clone_any s vs w hls hV)
  have HIN := Lib.hid (fun v1 w1 (h : OI w.heap.size w1 v1 s) (hb : w.heap.size ≤ w1.heap.size) => insert_end s v1 (.slice (some ⟨w1.heap.size, 0, none⟩) 1 1) v w.heap.size (w1.heap.size + 1) (w1.alloc (.cells #[.int .i64 v] 3)) hls (World.ownsRow.alloc h _) (by simp; omega) (one_IV w1 v))
  clear hV hs hlt
  go_enter Tryz.func156, Tryz.ntmps156
  go_wp2_with (go_at_call 221; ((with_reducible refine (HBS.out).mono ?_); rintro e w' ⟨rfl, rfl⟩))
  go_at_call 160
  (with_reducible refine (HCL.out).mono ?_)
  rintro e w1 ⟨v1, rfl, ho1, hb1⟩
  have HI1 := Lib.hid (HIN.out v1 w1 ho1 hb1.size)
  have HB1 := Lib.hid (hb1.alloc hb1.size (.cells #[.int .i64 v] 3))
  clear ho1 hb1
  go_wp2_with fail
  go_at_call 222
  (with_reducible refine (HI1.out).mono ?_)
  rintro e w2 ⟨v2, rfl, ho2, hb2⟩
  have HO2 := Lib.hid ho2.iv
  have HB2 := Lib.hid (HB1.out.trans hb2)
  clear ho2 hb2
  go_wp2_with fail
  go_ret
  exact ⟨_, rfl, HO2.out, HB2.out⟩
end Go.Proofs.YtikkmalhdidhaaaGreatDoor

namespace Go.Proofs.YtikkmalhdidhaaaGreatDoor
open Go.RowKit LamM

/-- A primitive's five cells. -/
def prC (nm : List UInt8) (con args : Int) (ty : ByteArray) (rv : Value) : List Value := [.string ⟨nm.toArray⟩, .int .i64 con, .int .i64 args, .string ty, rv]
def recCells (con : Int) (T1 T2 T3 : ByteArray) (rv : Value) : List Value :=
  prC [43] con 2 T1 rv ++ (prC [45] con 2 T1 rv ++ (prC [42] con 2 T1 rv ++ (prC [126] con 1 T2 rv ++ (prC [97, 98, 115] con 1 T2 rv ++ (prC [60] con 2 T3 (.slice none 0 0) ++ (prC [60, 61] con 2 T3 (.slice none 0 0) ++ (prC [62] con 2 T3 (.slice none 0 0) ++ prC [62, 61] con 2 T3 (.slice none 0 0))))))))
set_option maxRecDepth 100000 in
set_option maxHeartbeats 4000000 in
theorem reckons_any (con : Int) (T : ByteArray) (ra : Option Addr) (rn rc : Nat) (w : World) (hT : T.size ≤ 100) :
    Calls Tryz.prog 35 #[.int .i64 con, .string T, .slice ra rn rc] w fun e w' => ∃ T1 T2 T3, e = .returned (.slice (some ⟨w.heap.size, 0, none⟩) 9 9) ∧ w' = w.alloc (.cells (recCells con T1 T2 T3 (.slice ra rn rc)).toArray 56) := by
  go_enter Tryz.func35, Tryz.ntmps35
  go_wp2_with fail
  go_ret
  exact ⟨_, _, _, rfl, rfl⟩
end Go.Proofs.YtikkmalhdidhaaaGreatDoor

namespace Go.Proofs.YtikkmalhdidhaaaGreatDoor
open Go.RowKit LamM

def rightI (x : Int) : Bool := decide (-4611686018427387904 ≤ x ∧ x ≤ 4611686018427387903)
theorem rightI_and (x : Int) : rightI x = (decide (-4611686018427387904 ≤ x) && decide (x ≤ 4611686018427387903)) := by unfold rightI; simp [Bool.decide_and]
set_option maxRecDepth 100000 in
theorem fright_any (x : Int) (w : World) : Calls Tryz.prog 61 #[.int .i64 x] w fun e w' => e = .returned (.bool (rightI x)) ∧ w = w' := by
  obtain ⟨r, hr⟩ : ∃ r, rightI x = r := ⟨_, rfl⟩
  rw [hr]
  rw [rightI_and] at hr
  by_cases h1 : -4611686018427387904 ≤ x
  · by_cases h2 : x ≤ 4611686018427387903
    · have q1 := decide_eq_true h1
      have q2 := decide_eq_true h2
      rw [q1, q2] at hr
      obtain rfl : r = true := hr.symm
      clear hr
      go_enter Tryz.func61, Tryz.ntmps61
      go_wp2
      go_ret
      exact ⟨rfl, rfl⟩
    · have q1 := decide_eq_true h1
      have q2 := decide_eq_false h2
      rw [q1, q2] at hr
      obtain rfl : r = false := hr.symm
      clear hr
      go_enter Tryz.func61, Tryz.ntmps61
      go_wp2
      go_ret
      exact ⟨rfl, rfl⟩
  · have q1 := decide_eq_false h1
    rw [q1] at hr
    obtain rfl : r = false := hr.symm
    clear hr
    go_enter Tryz.func61, Tryz.ntmps61
    go_wp2
    go_ret
    exact ⟨rfl, rfl⟩
set_option maxRecDepth 100000 in
theorem rright_any (x : Int) (w : World) : Calls Tryz.prog 39 #[.int .i64 x] w fun e w' => e = .returned (.bool (rightI x)) ∧ w = w' := by
  obtain ⟨r, hr⟩ : ∃ r, rightI x = r := ⟨_, rfl⟩
  rw [hr]
  rw [rightI_and] at hr
  by_cases h1 : -4611686018427387904 ≤ x
  · by_cases h2 : x ≤ 4611686018427387903
    · have q1 := decide_eq_true h1
      have q2 := decide_eq_true h2
      rw [q1, q2] at hr
      obtain rfl : r = true := hr.symm
      clear hr
      go_enter Tryz.func39, Tryz.ntmps39
      go_wp2
      go_ret
      exact ⟨rfl, rfl⟩
    · have q1 := decide_eq_true h1
      have q2 := decide_eq_false h2
      rw [q1, q2] at hr
      obtain rfl : r = false := hr.symm
      clear hr
      go_enter Tryz.func39, Tryz.ntmps39
      go_wp2
      go_ret
      exact ⟨rfl, rfl⟩
  · have q1 := decide_eq_false h1
    rw [q1] at hr
    obtain rfl : r = false := hr.symm
    clear hr
    go_enter Tryz.func39, Tryz.ntmps39
    go_wp2
    go_ret
    exact ⟨rfl, rfl⟩
theorem sright_any (t : List UInt8) (w : World) : Calls Tryz.prog 62 #[.string ⟨t.toArray⟩] w fun e w' => e = .returned (.bool (decide (t.length ≤ 65536))) ∧ w = w' := by
  have hs := size_mk t
  obtain ⟨r, hr⟩ : ∃ r, decide (t.length ≤ 65536) = r := ⟨_, rfl⟩
  have hr2 : decide ((t.length : Int) ≤ 65536) = r := by rw [← hr]; congr 1; exact propext ⟨fun h => by omega, fun h => by omega⟩
  rw [hr]
  go_enter Tryz.func62, Tryz.ntmps62
  go_wp2
  go_ret
  exact ⟨rfl, rfl⟩
theorem tright_any (t : List UInt8) (w : World) : Calls Tryz.prog 40 #[.string ⟨t.toArray⟩] w fun e w' => e = .returned (.bool (decide (t.length ≤ 65536))) ∧ w = w' := by
  have hs := size_mk t
  obtain ⟨r, hr⟩ : ∃ r, decide (t.length ≤ 65536) = r := ⟨_, rfl⟩
  have hr2 : decide ((t.length : Int) ≤ 65536) = r := by rw [← hr]; congr 1; exact propext ⟨fun h => by omega, fun h => by omega⟩
  rw [hr]
  go_enter Tryz.func40, Tryz.ntmps40
  go_wp2
  go_ret
  exact ⟨rfl, rfl⟩
end Go.Proofs.YtikkmalhdidhaaaGreatDoor

namespace Go.Proofs.YtikkmalhdidhaaaGreatDoor
open Go.RowKit LamM

def kyAgg (y : Ky) : Value := .agg #[.int .i64 y.k, .int .i64 y.i, .string ⟨y.t.toArray⟩]
def KBox (y : Ky) : Obj := .cells #[.int .i64 y.k, .int .i64 y.i, .string ⟨y.t.toArray⟩] 113
set_option maxRecDepth 100000 in
set_option maxHeartbeats 2000000 in
theorem keyed_any (y : Ky) (w : World) : Calls Tryz.prog 155 #[kyAgg y] w fun e w' => e = .returned (.bool (keyOk y)) ∧ Below w.heap.size w w' := by
  have HB := Lib.hid ((Below.refl w.heap.size w).alloc (Nat.le_refl _) (KBox y))
  have HBL := Blk.new w 113 #[.int .i64 y.k, .int .i64 y.i, .string ⟨y.t.toArray⟩]
  have c0 := HBL.cell 0
  have c2 := HBL.cell 2
  have HS := Lib.hid (fun w => sright_any y.t w)
  obtain ⟨r, hr⟩ : ∃ r, keyOk y = r := ⟨_, rfl⟩
  rw [hr]
  unfold keyOk at hr
  unfold KBox at HB
  unfold kyAgg
  clear HBL
  by_cases k1 : y.k = 1
  · have q1 := b_true k1
    rw [show (y.k == 1) = true from q1, Bool.true_or, Bool.true_or] at hr
    obtain rfl : r = true := hr.symm
    clear hr k1
    go_enter Tryz.func155, Tryz.ntmps155
    go_wp2_with (go_at_call 62; ((with_reducible refine (HS.out _).mono ?_); rintro e w' ⟨rfl, rfl⟩))
    go_ret
    exact ⟨rfl, HB.out⟩
  · have q1 := b_false k1
    rw [show (y.k == 1) = false from q1, Bool.false_or] at hr
    clear k1
    by_cases k2 : y.k = 2
    · have q2 := b_true k2
      rw [show (y.k == 2) = true from q2, Bool.true_or] at hr
      obtain rfl : r = true := hr.symm
      clear hr k2
      go_enter Tryz.func155, Tryz.ntmps155
      go_wp2_with (go_at_call 62; ((with_reducible refine (HS.out _).mono ?_); rintro e w' ⟨rfl, rfl⟩))
      go_ret
      exact ⟨rfl, HB.out⟩
    · have q2 := b_false k2
      rw [show (y.k == 2) = false from q2, Bool.false_or] at hr
      clear k2
      by_cases k3 : y.k = 3
      · have q3 := b_true k3
        rw [show (y.k == 3) = true from q3, Bool.true_and] at hr
        rw [hr] at HS
        clear hr k3
        go_enter Tryz.func155, Tryz.ntmps155
        go_wp2_with (go_at_call 62; ((with_reducible refine (HS.out _).mono ?_); rintro e w' ⟨rfl, rfl⟩))
        go_ret
        exact ⟨rfl, HB.out⟩
      · have q3 := b_false k3
        rw [show (y.k == 3) = false from q3, Bool.false_and] at hr
        obtain rfl : r = false := hr.symm
        clear hr k3
        go_enter Tryz.func155, Tryz.ntmps155
        go_wp2_with (go_at_call 62; ((with_reducible refine (HS.out _).mono ?_); rintro e w' ⟨rfl, rfl⟩))
        go_ret
        exact ⟨rfl, HB.out⟩
set_option maxRecDepth 100000 in
set_option maxHeartbeats 2000000 in
theorem form1_any (y : Ky) (w : World) : Calls Tryz.prog 154 #[kyAgg y] w fun e w' => e = .returned (.bool (!keyOk y)) ∧ Below w.heap.size w w' := by
  have HB := Lib.hid ((Below.refl w.heap.size w).alloc (Nat.le_refl _) (KBox y))
  have HBL := Blk.new w 113 #[.int .i64 y.k, .int .i64 y.i, .string ⟨y.t.toArray⟩]
  have c0 := HBL.cell 0
  have c1 := HBL.cell 1
  have c2 := HBL.cell 2
  have HK := Lib.hid (fun w => keyed_any y w)
  obtain ⟨r, hr⟩ : ∃ r, keyOk y = r := ⟨_, rfl⟩
  rw [hr] at HK ⊢
  unfold KBox at HB
  unfold kyAgg at HK ⊢
  clear HBL hr
  go_enter Tryz.func154, Tryz.ntmps154
  go_wp2_with (go_at_call 155; ((with_reducible refine (HK.out _).mono ?_); rintro e w' ⟨rfl, hb⟩; have HB2 := Lib.hid (HB.out.trans (hb.mono HB.out.size)); clear hb))
  go_ret
  exact ⟨rfl, HB2.out⟩
end Go.Proofs.YtikkmalhdidhaaaGreatDoor

namespace Go.Proofs.YtikkmalhdidhaaaGreatDoor
open Go.RowKit LamM

theorem keyVals_at : ∀ (l : List Ky) (i : Nat) (y : Ky), l[i]? = some y → (keyVals l)[i * 3]? = some (.int .i64 y.k) ∧ (keyVals l)[i * 3 + 1]? = some (.int .i64 y.i) ∧ (keyVals l)[i * 3 + 2]? = some (.string ⟨y.t.toArray⟩)
  | [], i, y, h => by simp at h
  | x :: l, 0, y, h => by
    have : x = y := by simpa using h
    subst this
    exact ⟨rfl, rfl, rfl⟩
  | x :: l, i + 1, y, h => by
    have ih := keyVals_at l i y (by simpa using h)
    have e : keyVals (x :: l) = [.int .i64 x.k, .int .i64 x.i, .string ⟨x.t.toArray⟩] ++ keyVals l := by unfold keyVals; rw [List.flatMap_cons]
    rw [e, show (i + 1) * 3 = 3 + i * 3 by omega]
    have sh : ∀ m, ([.int .i64 x.k, .int .i64 x.i, .string ⟨x.t.toArray⟩] ++ keyVals l : List Value)[3 + m]? = (keyVals l)[m]? := fun m => by
      rw [List.getElem?_append_right (by simp), show 3 + m - [Value.int .i64 x.k, .int .i64 x.i, .string ⟨x.t.toArray⟩].length = m by simp]
    rw [sh, show 3 + i * 3 + 1 = 3 + (i * 3 + 1) by omega, sh, show 3 + i * 3 + 2 = 3 + (i * 3 + 2) by omega, sh]
    exact ih
theorem KV.at_ {w : World} {B : Nat} {A : Option Addr} {n c : Nat} {l : List Ky} (h : KV w B (.slice A n c) l) {j : Nat} {y : Ky} (hj : l[j]? = some y) :
    ∃ ad, A = some ad ∧ ad.block < B ∧ w.cell? (ad.add (j * 3)) = some (.int .i64 y.k) ∧ w.cell? (ad.add (j * 3 + (0 + 1))) = some (.int .i64 y.i) ∧ w.cell? (ad.add (j * 3 + (1 + 1))) = some (.string ⟨y.t.toArray⟩) := by
  obtain ⟨A', c', e, _, _, hr⟩ := h
  injection e with e1 e2 e3
  subst e1 e3
  have hlt : j < l.length := (List.getElem?_eq_some_iff.1 hj).1
  obtain ⟨ad, hA, hb, hc⟩ := hr.2 (by omega)
  obtain ⟨v0, v1, v2⟩ := keyVals_at l j y hj
  exact ⟨ad, hA, hb, hc _ _ v0, hc _ _ v1, hc _ _ v2⟩
theorem KV.len {w : World} {B : Nat} {v : Value} {l : List Ky} (h : KV w B v l) : ∃ A c, v = .slice A l.length c ∧ l.length ≤ c ∧ c ≤ maxLen := by
  obtain ⟨A, c, e, h1, h2, _⟩ := h; exact ⟨A, c, e, h1, h2⟩
theorem all_yes {l : List Ky} {k : Nat} {a : Ky} (h : l[k]? = some a) (hc : keyOk a = false) : l.all keyOk = false := by
  rw [Bool.eq_false_iff]
  intro ha
  rw [List.all_eq_true] at ha
  rw [ha a (List.mem_of_getElem? h)] at hc; cases hc
theorem all_no {l : List Ky} (h : ∀ j x, j < l.length → l[j]? = some x → keyOk x = true) : l.all keyOk = true := by
  rw [List.all_eq_true]
  intro x hx
  obtain ⟨j, hj, e⟩ := List.getElem_of_mem hx
  exact h j x hj (by rw [List.getElem?_eq_getElem hj, e])

def IdxK (r : Bool) (w : World) (e : Ending) (w' : World) : Prop := ∃ z : Int, e = .returned (.int .i64 z) ∧ (r = false → 0 ≤ z) ∧ (r = true → z = -1) ∧ Below w.heap.size w w'
set_option maxRecDepth 100000 in
set_option maxHeartbeats 2000000 in
theorem idxk_any (l : List Ky) (vl : Value) (w : World) (hVL : KV w w.heap.size vl l) :
    Calls Tryz.prog 105 #[vl, .func (.func 154) #[] #[]] w (IdxK (l.all keyOk) w) := by
  obtain ⟨A, c, rfl, h1, h2⟩ := hVL.len
  have hl : l.length ≤ 9223372036854775807 := by unfold maxLen at h2; omega
  have HV := Lib.hid hVL
  have HW := Lib.hid (fun y w => form1_any y w)
  have HY := Lib.hid (fun k a (h : l[k]? = some a) (hc : keyOk a = false) => all_yes h hc)
  have HN := Lib.hid (all_no (l := l))
  unfold IdxK
  obtain ⟨r, hr⟩ : ∃ r, l.all keyOk = r := ⟨_, rfl⟩
  rw [hr] at HY HN ⊢
  clear hr hVL
  go_enter Tryz.func105, Tryz.ntmps105
  go_wp2
  go_loopw [8] (fun iv wr => Hid (Below w.heap.size w wr) ∧ ∃ k : Nat, k ≤ l.length ∧ iv = .int .i64 (k : Int) ∧ Hid (∀ j x, j < k → l[j]? = some x → keyOk x = true)) (fun iv _ => l.length - (intOf iv).toNat)
  case atStart => exact ⟨Lib.hid (Below.refl _ _), 0, Nat.zero_le _, rfl, Lib.hid (fun j x h => by omega)⟩
  case round =>
    obtain ⟨HB, k, hk, rfl, HK⟩ := hrel
    have hsz := HB.out.size
    rcases Nat.lt_or_ge k l.length with hlt | hge
    · obtain ⟨a, ha⟩ : ∃ a, l[k]? = some a := ⟨_, List.getElem?_eq_getElem hlt⟩
      obtain ⟨aa, rfl, _, ca, cb, cc⟩ := (HV.out.keep (fun p hp => HB.out.cell hp)).at_ ha
      rw [cell_spell] at cb cc
      have hm1 : (k : Int) < (l.length : Int) := by omega
      have HWa := Lib.hid (HW.out a)
      unfold kyAgg at HWa
      cases hca : keyOk a
      · rw [hca] at HWa
        have HR := Lib.hid (HY.out k a ha hca)
        clear ha hca
        go_wp2_with (go_at_call 154; ((with_reducible refine (HWa.out _).mono ?_); rintro e w' ⟨rfl, hb⟩; have HB2 := Lib.hid (HB.out.trans (hb.mono hsz)); clear hb))
        go_ret
        exact ⟨(k : Int), rfl, fun _ => by omega, fun h => (by rw [HR.out] at h; cases h), HB2.out⟩
      · rw [hca] at HWa
        have HK2 := Lib.hid (show ∀ j x, j < k + 1 → l[j]? = some x → keyOk x = true from fun j x hj hx => by
          rcases Nat.lt_or_ge j k with h3 | h3
          · exact HK.out j x h3 hx
          · obtain rfl : j = k := by omega
            rw [ha] at hx; rw [← Option.some.inj hx]; exact hca)
        clear ha hca
        go_wp2_with (go_at_call 154; ((with_reducible refine (HWa.out _).mono ?_); rintro e w' ⟨rfl, hb⟩; have HB2 := Lib.hid (HB.out.trans (hb.mono hsz)); clear hb))
        go_roundw
        case rel => exact ⟨HB2, k + 1, by omega, by go_num, HK2⟩
        case measure => simp [intOf]; omega
    · have q : (l.length : Int) ≤ (k : Int) := by omega
      have HR := Lib.hid (HN.out (fun j x hj hx => HK.out j x (by omega) hx))
      clear hge hk
      go_wp2_with fail
      go_ret
      exact ⟨-1, rfl, fun h => (by rw [HR.out] at h; cases h), fun _ => rfl, HB.out⟩
set_option maxRecDepth 100000 in
theorem confunk_any (l : List Ky) (vl : Value) (w : World) (hVL : KV w w.heap.size vl l) :
    Calls Tryz.prog 65 #[vl, .func (.func 154) #[] #[]] w fun e w' => e = .returned (.bool (!l.all keyOk)) ∧ Below w.heap.size w w' := by
  have H := Lib.hid (idxk_any l vl w hVL)
  obtain ⟨r, hr⟩ : ∃ r, l.all keyOk = r := ⟨_, rfl⟩
  unfold IdxK at H
  rw [hr] at H ⊢
  clear hVL hr
  go_enter Tryz.func65, Tryz.ntmps65
  go_wp2_with fail
  go_at_call 105
  (with_reducible refine (H.out).mono ?_)
  rintro e w' ⟨z, rfl, hz1, hz2, hb⟩
  have HB := Lib.hid hb
  clear hb
  cases r
  · have hz := hz1 rfl
    clear hz1 hz2
    go_wp2_with fail
    go_ret
    exact ⟨by simp, HB.out⟩
  · obtain rfl := hz2 rfl
    clear hz1 hz2
    go_wp2_with fail
    go_ret
    exact ⟨rfl, HB.out⟩
end Go.Proofs.YtikkmalhdidhaaaGreatDoor

namespace Go.Proofs.YtikkmalhdidhaaaGreatDoor
open Go.RowKit LamM

set_option maxRecDepth 100000 in
set_option maxHeartbeats 4000000 in
theorem rkeys_any (l : List Ky) (vl : Value) (w : World) (hVL : KV w w.heap.size vl l) :
    Calls Tryz.prog 43 #[vl] w fun e w' => e = .returned (.bool (l.all keyOk)) ∧ w = w' := by
  obtain ⟨A, c, rfl, h1, h2⟩ := hVL.len
  have hl : l.length ≤ 9223372036854775807 := by unfold maxLen at h2; omega
  have HV := Lib.hid hVL
  have HS := Lib.hid (fun t w => tright_any t w)
  have HY := Lib.hid (fun k a (h : l[k]? = some a) (hc : keyOk a = false) => all_yes h hc)
  have HN := Lib.hid (all_no (l := l))
  obtain ⟨r, hr⟩ : ∃ r, l.all keyOk = r := ⟨_, rfl⟩
  rw [hr] at HY HN ⊢
  clear hr hVL
  go_enter Tryz.func43, Tryz.ntmps43
  go_wp2
  go_loopw [3] (fun iv wr => wr = w ∧ ∃ k : Nat, k ≤ l.length ∧ iv = .int .i64 (k : Int) ∧ Hid (∀ j x, j < k → l[j]? = some x → keyOk x = true)) (fun iv _ => l.length - (intOf iv).toNat)
  case atStart => exact ⟨rfl, 0, Nat.zero_le _, rfl, Lib.hid (fun j x h => by omega)⟩
  case round =>
    obtain ⟨rfl, k, hk, rfl, HK⟩ := hrel
    rcases Nat.lt_or_ge k l.length with hlt | hge
    · obtain ⟨a, ha⟩ : ∃ a, l[k]? = some a := ⟨_, List.getElem?_eq_getElem hlt⟩
      obtain ⟨aa, rfl, _, ca, cb, cc⟩ := HV.out.at_ ha
      rw [cell_spell] at cb cc
      have hm1 : (k : Int) < (l.length : Int) := by omega
      have HK2 := Lib.hid (fun (hca : keyOk a = true) => (show ∀ j x, j < k + 1 → l[j]? = some x → keyOk x = true from fun j x hj hx => by
          rcases Nat.lt_or_ge j k with h3 | h3
          · exact HK.out j x h3 hx
          · obtain rfl : j = k := by omega
            rw [ha] at hx; rw [← Option.some.inj hx]; exact hca))
      have HF := Lib.hid (fun (hca : keyOk a = false) => HY.out k a ha hca)
      have hko : keyOk a = (a.k == 1 || a.k == 2 || (a.k == 3 && decide (a.t.length ≤ 65536))) := rfl
      have HSa := Lib.hid (HS.out a.t)
      clear ha
      by_cases k1 : a.k = 1
      · have q1 := b_true k1
        have q2 := n_false k1
        have q3 := b_false (show a.k ≠ 3 by omega)
        rw [q1, Bool.true_or, Bool.true_or] at hko
        have HK3 := Lib.hid (HK2.out hko)
        clear hko k1
        go_wp2_with (go_at_call 40; ((with_reducible refine (HSa.out _).mono ?_); rintro e w' ⟨rfl, rfl⟩))
        go_roundw
        case rel => exact ⟨by first | rfl | trivial, k + 1, by omega, by go_num, HK3⟩
        case measure => simp [intOf]; omega
      · have q1 := b_false k1
        have p1 := n_true k1
        rw [q1, Bool.false_or] at hko
        by_cases k2 : a.k = 2
        · have q2 := b_true k2
          have p2 := n_false k2
          have q3 := b_false (show a.k ≠ 3 by omega)
          rw [q2, Bool.true_or] at hko
          have HK3 := Lib.hid (HK2.out hko)
          clear hko k1 k2
          go_wp2_with (go_at_call 40; ((with_reducible refine (HSa.out _).mono ?_); rintro e w' ⟨rfl, rfl⟩))
          go_roundw
          case rel => exact ⟨by first | rfl | trivial, k + 1, by omega, by go_num, HK3⟩
          case measure => simp [intOf]; omega
        · have q2 := b_false k2
          have p2 := n_true k2
          rw [q2, Bool.false_or] at hko
          by_cases k3 : a.k = 3
          · have q3 := b_true k3
            have p3 := n_false k3
            rw [q3, Bool.true_and] at hko
            rw [← hko] at HSa
            cases hca : keyOk a
            · rw [hca] at HSa
              have HR := Lib.hid (HF.out hca)
              clear hko hca k1 k2 k3
              go_wp2_with (go_at_call 40; ((with_reducible refine (HSa.out _).mono ?_); rintro e w' ⟨rfl, rfl⟩))
              go_ret
              exact ⟨by rw [HR.out]; rfl, rfl⟩
            · rw [hca] at HSa
              have HK3 := Lib.hid (HK2.out hca)
              clear hko hca k1 k2 k3
              go_wp2_with (go_at_call 40; ((with_reducible refine (HSa.out _).mono ?_); rintro e w' ⟨rfl, rfl⟩))
              go_roundw
              case rel => exact ⟨by first | rfl | trivial, k + 1, by omega, by go_num, HK3⟩
              case measure => simp [intOf]; omega
          · have q3 := b_false k3
            have p3 := n_true k3
            rw [q3, Bool.false_and] at hko
            have HR := Lib.hid (HF.out hko)
            clear hko k1 k2 k3
            go_wp2_with (go_at_call 40; ((with_reducible refine (HSa.out _).mono ?_); rintro e w' ⟨rfl, rfl⟩))
            go_ret
            exact ⟨by rw [HR.out]; rfl, rfl⟩
    · have q : (l.length : Int) ≤ (k : Int) := by omega
      have HR := Lib.hid (HN.out (fun j x hj hx => HK.out j x (by omega) hx))
      clear hge hk
      go_wp2_with fail
      go_ret
      exact ⟨by rw [HR.out]; rfl, rfl⟩
end Go.Proofs.YtikkmalhdidhaaaGreatDoor

namespace Go.Proofs.YtikkmalhdidhaaaGreatDoor
open Go.RowKit LamM

theorem fixGo_step {L : List Tm} {vs ws : List Int} {k : Nat} {v a : Int} (hv : vs[k]? = some v) (ha : ws[k]? = some a) :
    fixGo L (vs.drop k) (ws.drop k) = (!(decide (v < 0) || kindAt L a != 8) && fixGo L (vs.drop (k + 1)) (ws.drop (k + 1))) := by
  rw [drop_at hv, drop_at ha]; rfl
theorem fixGo_end {L : List Tm} {vs ws : List Int} : fixGo L (vs.drop vs.length) ws = true := by
  rw [List.drop_length]; cases ws <;> rfl

set_option maxRecDepth 100000 in
set_option maxHeartbeats 4000000 in
theorem lfixed_any (L : List Tm) (t : Tm) (vl vv kv av : Value) (w : World) (hN : NV w w.heap.size vl L) (hT : TV w w.heap.size t vv kv av) (hA : ∀ a ∈ t.args, 0 ≤ a ∧ a < (L.length : Int)) :
    Calls Tryz.prog 153 #[vl, .agg (tmVals t vv kv av).toArray] w fun e w' => e = .returned (.bool (fixOk L t)) ∧ Below w.heap.size w w' := by
  obtain ⟨NA, nc, rfl, hn1, hn2⟩ := hN.len
  obtain ⟨VA, vc, rfl, hv1, hv2⟩ := hT.v.len
  obtain ⟨AA, ac, rfl, ha1, ha2⟩ := hT.a.len
  have lv := hT.lv
  have la := hT.la
  have HAA := Lib.hid hA
  obtain ⟨W, hW⟩ : ∃ W, w.alloc (BoxT t (.slice VA t.vars.length vc) kv (.slice AA t.args.length ac)) = W := ⟨_, rfl⟩
  have hbw : Below w.heap.size w W := by rw [← hW]; exact (Below.refl _ _).alloc (Nat.le_refl _) _
  have HN := Lib.hid (hN.keep (fun p hp => hbw.cell hp))
  have HV := Lib.hid (hT.v.keep (fun p hp => hbw.cell hp))
  have HA := Lib.hid (hT.a.keep (fun p hp => hbw.cell hp))
  have HB := Lib.hid hbw
  have c5 : W.cell? ⟨w.heap.size, 5, none⟩ = some (.slice VA t.vars.length vc) := by rw [← hW]; exact (Blk.new w 69 #[.int .i64 t.k, .int .i64 t.n, .int .i64 t.i, .int .u64 t.b, .string ⟨t.t.toArray⟩, .slice VA t.vars.length vc, kv, .slice AA t.args.length ac]).cell 5
  have c7 : W.cell? ⟨w.heap.size, 7, none⟩ = some (.slice AA t.args.length ac) := by rw [← hW]; exact (Blk.new w 69 #[.int .i64 t.k, .int .i64 t.n, .int .i64 t.i, .int .u64 t.b, .string ⟨t.t.toArray⟩, .slice VA t.vars.length vc, kv, .slice AA t.args.length ac]).cell 7
  unfold BoxT at hW
  unfold tmVals
  obtain ⟨R, hR⟩ : ∃ R, fixOk L t = R := ⟨_, rfl⟩
  rw [hR]
  unfold fixOk at hR
  clear hN hT hA hbw
  generalize t.vars = vs at *
  generalize t.args = ws at *
  have HFE := Lib.hid (fun us => fixGo_end (L := L) (vs := vs) (ws := us))
  by_cases h0 : vs.length = 0
  · rw [if_pos (.inl h0)] at hR
    subst hR
    have q0 := b_true (show (vs.length : Int) = 0 by omega)
    clear h0
    go_enter Tryz.func153, Tryz.ntmps153
    go_wp2_with fail
    go_ret
    exact ⟨rfl, HB.out⟩
  · have q0 := b_false (show (vs.length : Int) ≠ 0 by omega)
    by_cases h1 : ws.length = vs.length + 1
    · rw [if_neg (by omega)] at hR
      have q1 := n_false (show (ws.length : Int) = (vs.length : Int) + 1 by omega)
      have HR := Lib.hid (show fixGo L (vs.drop 0) (ws.drop 0) = R from hR)
      have hw1 : vs.length < ws.length := by omega
      clear hR h0 h1
      go_enter Tryz.func153, Tryz.ntmps153
      go_wp2_with fail
      go_loopw [24] (fun iv wr => wr = W ∧ ∃ k : Nat, k ≤ vs.length ∧ iv = .int .i64 (k : Int) ∧ Hid (fixGo L (vs.drop k) (ws.drop k) = R)) (fun iv _ => vs.length - (intOf iv).toNat)
      case atStart => exact ⟨rfl, 0, Nat.zero_le _, rfl, HR⟩
      case round =>
        obtain ⟨rfl, k, hk, rfl, HK⟩ := hrel
        rcases Nat.lt_or_ge k vs.length with hlt | hge
        · obtain ⟨v, hv⟩ : ∃ v, vs[k]? = some v := ⟨_, List.getElem?_eq_getElem hlt⟩
          obtain ⟨a, ha⟩ : ∃ a, ws[k]? = some a := ⟨_, List.getElem?_eq_getElem (by omega)⟩
          obtain ⟨vd, rfl, _, cv⟩ := HV.out.at_ hv
          obtain ⟨wd, rfl, _, cw⟩ := HA.out.at_ ha
          have hab := HAA.out a (List.mem_of_getElem? ha)
          obtain ⟨x, rfl⟩ : ∃ x : Nat, a = (x : Int) := ⟨a.toNat, by omega⟩
          obtain ⟨u, hu⟩ : ∃ u, L[x]? = some u := ⟨_, List.getElem?_eq_getElem (by omega)⟩
          obtain ⟨nd, _, _, _, rfl, _, _, cn, _⟩ := HN.out.at_ hu
          have HK2 := HK.out
          rw [fixGo_step hv ha, show kindAt L (x : Int) = u.k by unfold kindAt; rw [Int.toNat_natCast, hu]] at HK2
          have m1 : (k : Int) < (vs.length : Int) := by omega
          have m2 : (k : Int) < (ws.length : Int) := by omega
          have m3 : (x : Int) < (L.length : Int) := by omega
          clear hv ha hu
          by_cases hv0 : v < 0
          · have qv := decide_eq_true hv0
            rw [qv, Bool.true_or, Bool.not_true, Bool.false_and] at HK2
            subst HK2
            clear hv0
            go_wp2_with fail
            go_ret
            exact ⟨rfl, HB.out⟩
          · have qv := decide_eq_false hv0
            rw [qv, Bool.false_or] at HK2
            by_cases h8 : u.k = 8
            · have q8 := n_false h8
              rw [q8, Bool.not_false, Bool.true_and] at HK2
              have HK3 := Lib.hid HK2
              clear HK2 h8 hv0
              go_wp2_with fail
              go_roundw
              case rel => exact ⟨by first | rfl | trivial, k + 1, by omega, by go_num, HK3⟩
              case measure => simp [intOf]; omega
            · have q8 := n_true h8
              rw [q8, Bool.not_true, Bool.false_and] at HK2
              subst HK2
              clear h8 hv0
              go_wp2_with fail
              go_ret
              exact ⟨rfl, HB.out⟩
        · obtain rfl : k = vs.length := by omega
          have HR2 := Lib.hid (show true = R by rw [← HK.out]; exact (HFE.out _).symm)
          have q : (vs.length : Int) ≤ (vs.length : Int) := Int.le_refl _
          clear hge hk
          go_wp2_with fail
          go_ret
          exact ⟨by rw [← HR2.out]; rfl, HB.out⟩
    · rw [if_pos (.inr h1)] at hR
      subst hR
      have q1 := n_true (show (ws.length : Int) ≠ (vs.length : Int) + 1 by omega)
      clear h0 h1
      go_enter Tryz.func153, Tryz.ntmps153
      go_wp2_with fail
      go_ret
      exact ⟨rfl, HB.out⟩

end Go.Proofs.YtikkmalhdidhaaaGreatDoor
