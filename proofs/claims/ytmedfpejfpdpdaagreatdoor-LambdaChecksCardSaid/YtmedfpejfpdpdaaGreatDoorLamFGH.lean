/- Lambda: the library's search among rising ints. Lambda: is one of a list's ints in a set; without. Lambda: without. -/
import Derived.Test.YtmedfpejfpdpdaaGreatDoorLamE
namespace Go.Proofs.YtmedfpejfpdpdaaGreatDoor
open Go.RowKit LamM

theorem isNaN1_any (x : Int) (w : World) : Calls Tryz.prog 47 #[.int .i64 x] w fun e w' => e = .returned (.bool false) ∧ w = w' := by
  have q := n_false (rfl : x = x)
  go_enter Tryz.func47, Tryz.ntmps47
  go_wp2
  go_ret
  exact ⟨rfl, rfl⟩
theorem isNaN2_any (x : Int) (w : World) : Calls Tryz.prog 65 #[.int .i64 x] w fun e w' => e = .returned (.bool false) ∧ w = w' := by
  have q := n_false (rfl : x = x)
  go_enter Tryz.func65, Tryz.ntmps65
  go_wp2
  go_ret
  exact ⟨rfl, rfl⟩
theorem less_any (x y : Int) (w : World) : Calls Tryz.prog 46 #[.int .i64 x, .int .i64 y] w fun e w' => e = .returned (.bool (decide (x < y))) ∧ w = w' := by
  have H := Lib.hid (fun x w => isNaN2_any x w)
  obtain ⟨r, hr⟩ : ∃ r, decide (x < y) = r := ⟨_, rfl⟩
  rw [hr]
  go_enter Tryz.func46, Tryz.ntmps46
  go_wp2_with (go_at_call 65; ((with_reducible refine (H.out _ _).mono ?_); rintro e w' ⟨rfl, rfl⟩))
  go_ret
  exact ⟨rfl, rfl⟩

/-- How many of a set lie below a number. -/
def posn (s : List Int) (v : Int) : Nat := (s.takeWhile fun x => decide (x < v)).length
theorem posn_eq {v : Int} : ∀ {s : List Int} {i : Nat}, i ≤ s.length → (∀ k x, k < i → s[k]? = some x → x < v) → (∀ x, s[i]? = some x → v ≤ x) → posn s v = i
  | [], i, hi, _, _ => by simp at hi; subst hi; rfl
  | x :: s, 0, _, _, h => by
    unfold posn
    rw [List.takeWhile_cons, if_neg (by have := h x rfl; simp; omega)]; rfl
  | x :: s, i + 1, hi, h1, h2 => by
    have h0 := h1 0 x (Nat.succ_pos _) rfl
    have ih := posn_eq (s := s) (i := i) (v := v) (by simp at hi; omega) (fun k y hk hy => h1 (k + 1) y (by omega) hy) (fun y hy => h2 y hy)
    unfold posn at ih ⊢
    rw [List.takeWhile_cons, if_pos (by simpa using h0), List.length_cons, ih]
theorem ss_lt {s : List Int} (hs : SS s) {i j : Nat} {x y : Int} (hij : i < j) (hx : s[i]? = some x) (hy : s[j]? = some y) : x < y := by
  obtain ⟨h1, rfl⟩ := List.getElem?_eq_some_iff.1 hx
  obtain ⟨h2, rfl⟩ := List.getElem?_eq_some_iff.1 hy
  exact List.pairwise_iff_getElem.1 hs i j h1 h2 hij

def BsPost (s : List Int) (v : Int) (w : World) (e : Ending) (w' : World) : Prop := e = .returned (.tuple #[.int .i64 (posn s v : Nat), .bool (s.contains v)]) ∧ w = w'
set_option maxRecDepth 100000 in
set_option maxHeartbeats 2000000 in
theorem bs_any (s : List Int) (vs : Value) (v : Int) (B : Nat) (w : World) (hs : SS s) (hl : s.length ≤ 2000000000000) (hV : IV w B vs s) :
    Calls Tryz.prog 25 #[vs, .int .i64 v] w (BsPost s v w) := by
  obtain ⟨A, c, rfl, h1, h2⟩ := hV.len
  have HV := Lib.hid hV
  have HS := Lib.hid hs
  have HL := Lib.hid (fun x y w => less_any x y w)
  have HNA := Lib.hid (fun x w => isNaN1_any x w)
  have HP := Lib.hid (fun i => posn_eq (s := s) (v := v) (i := i))
  have HC := Lib.hid (fun k (h : s[k]? = some v) => contains_at h)
  have HNC := Lib.hid (fun (h : ∀ k : Nat, k < s.length → s[k]? ≠ some v) => contains_no h)
  unfold BsPost
  obtain ⟨P, hP⟩ : ∃ P, posn s v = P := ⟨_, rfl⟩
  obtain ⟨C, hC⟩ : ∃ C, s.contains v = C := ⟨_, rfl⟩
  rw [hP] at HP ⊢
  rw [hC] at HC HNC ⊢
  clear hV hs hP hC
  go_enter Tryz.func25, Tryz.ntmps25
  go_wp2
  go_loopw [7, 8] (fun iv jv wr => wr = w ∧ ∃ i j : Nat, i ≤ j ∧ j ≤ s.length ∧ iv = .int .i64 (i : Int) ∧ jv = .int .i64 (j : Int) ∧ Hid (∀ k x, k < i → s[k]? = some x → x < v) ∧ Hid (∀ k x, j ≤ k → s[k]? = some x → v ≤ x)) (fun iv jv _ => (intOf jv - intOf iv).toNat)
  case atStart => exact ⟨rfl, 0, s.length, Nat.zero_le _, Nat.le_refl _, rfl, rfl, Lib.hid (fun k x h => by omega), Lib.hid (fun k x h hx => by have := (List.getElem?_eq_some_iff.1 hx).1; omega)⟩
  case round =>
    obtain ⟨rfl, i, j, hij, hj, rfl, rfl, HI, HJ⟩ := hrel
    rcases Nat.lt_or_ge i j with hlt | hge
    · have hi1 : (i : Int) < (j : Int) := by omega
      obtain ⟨h, hh⟩ : ∃ h : Nat, ((i : Int) + (j : Int)) / 2 = (h : Int) := ⟨(i + j) / 2, by omega⟩
      have hh1 : i ≤ h := by omega
      have hh2 : h < j := by omega
      obtain ⟨a, ha⟩ : ∃ a, s[h]? = some a := ⟨_, List.getElem?_eq_getElem (by omega)⟩
      obtain ⟨ad, rfl, _, ca⟩ := HV.out.at_ ha
      have hhl : (h : Int) < (s.length : Int) := by omega
      by_cases hav : a < v
      · have q := decide_eq_true hav
        have HI2 := Lib.hid (show ∀ k x, k < h + 1 → s[k]? = some x → x < v from fun k x hk hx => by
          rcases Nat.lt_or_ge k h with h3 | h3
          · have := ss_lt HS.out h3 hx ha; omega
          · obtain rfl : k = h := by omega
            rw [ha] at hx; rw [← Option.some.inj hx]; exact hav)
        clear ha hav
        go_wp2_with (go_at_call 46; ((with_reducible refine (HL.out _ _ _).mono ?_); rintro e w' ⟨rfl, rfl⟩))
        go_roundw
        case rel => exact ⟨by first | rfl | trivial, h + 1, j, by omega, hj, by go_num, rfl, HI2, HJ⟩
        case measure => simp [intOf]; omega
      · have q := decide_eq_false hav
        have HJ2 := Lib.hid (show ∀ k x, h ≤ k → s[k]? = some x → v ≤ x from fun k x hk hx => by
          rcases Nat.lt_or_ge h k with h3 | h3
          · have := ss_lt HS.out h3 ha hx; omega
          · obtain rfl : k = h := by omega
            rw [ha] at hx; rw [← Option.some.inj hx]; omega)
        clear ha hav
        go_wp2_with (go_at_call 46; ((with_reducible refine (HL.out _ _ _).mono ?_); rintro e w' ⟨rfl, rfl⟩))
        go_roundw
        case rel => exact ⟨by first | rfl | trivial, i, h, hh1, by omega, rfl, by go_num, HI, HJ2⟩
        case measure => simp [intOf]; omega
    · obtain rfl : i = j := by omega
      have HPI := Lib.hid (HP.out i hj HI.out (fun x hx => HJ.out i x (Nat.le_refl _) hx))
      have hii : (i : Int) ≤ (i : Int) := Int.le_refl _
      rcases Nat.lt_or_ge i s.length with hin | hin
      · obtain ⟨a, ha⟩ : ∃ a, s[i]? = some a := ⟨_, List.getElem?_eq_getElem hin⟩
        obtain ⟨ad, rfl, _, ca⟩ := HV.out.at_ ha
        have hil : (i : Int) < (s.length : Int) := by omega
        have qd := decide_eq_true hil
        by_cases hav : a = v
        · have q := b_true hav
          have HC2 := Lib.hid (HC.out i (by rw [ha, hav]))
          clear ha hav hge
          go_wp2_with (go_at_call 47; ((with_reducible refine (HNA.out _ _).mono ?_); rintro e w' ⟨rfl, rfl⟩))
          exact bodyPost_ret (v := .tuple #[.int .i64 (i : Int), .bool true]) (by simp [results, Tryz.results25, go_sem]) rfl ⟨by rw [HPI.out, HC2.out], rfl⟩
        · have q := b_false hav
          have HC2 := Lib.hid (HNC.out (fun k hk hx => by
            rcases Nat.lt_or_ge k i with h3 | h3
            · have := HI.out k v h3 hx; omega
            · rcases Nat.lt_or_ge i k with h4 | h4
              · have := ss_lt HS.out h4 ha hx; have := HJ.out i a (Nat.le_refl _) ha; omega
              · obtain rfl : k = i := by omega
                rw [ha] at hx; exact hav (Option.some.inj hx)))
          clear ha hav hge
          go_wp2_with (go_at_call 47; ((with_reducible refine (HNA.out _ _).mono ?_); rintro e w' ⟨rfl, rfl⟩))
          exact bodyPost_ret (v := .tuple #[.int .i64 (i : Int), .bool false]) (by simp [results, Tryz.results25, go_sem]) rfl ⟨by rw [HPI.out, HC2.out], rfl⟩
      · have qd : decide ((i : Int) < (s.length : Int)) = false := decide_eq_false (by omega)
        have qd2 : (s.length : Int) ≤ (i : Int) := by omega
        have HC2 := Lib.hid (HNC.out (fun k hk hx => by have := HI.out k v (by omega) hx; omega))
        clear hge
        go_wp2_with (go_at_call 47; ((with_reducible refine (HNA.out _ _).mono ?_); rintro e w' ⟨rfl, rfl⟩))
        exact bodyPost_ret (v := .tuple #[.int .i64 (i : Int), .bool false]) (by simp [results, Tryz.results25, go_sem]) rfl ⟨by rw [HPI.out, HC2.out], rfl⟩
end Go.Proofs.YtmedfpejfpdpdaaGreatDoor

namespace Go.Proofs.YtmedfpejfpdpdaaGreatDoor
open Go.RowKit LamM

set_option maxRecDepth 100000 in
set_option maxHeartbeats 2000000 in
theorem wo1_any (s : List Int) (vs : Value) (x : Int) (g B : Nat) (w : World) (hs : SS s) (hl : s.length ≤ 2000000000000) (hV : IV w B vs s) (hg : w.cell? ⟨g, 0, none⟩ = some vs) :
    Calls Tryz.prog 28 #[.int .i64 x, .pointer (some ⟨g, 0, none⟩)] w fun e w' => e = .returned (.bool (s.contains x)) ∧ w = w' := by
  have H := Lib.hid (bs_any s vs x B w hs hl hV)
  obtain ⟨r, hr⟩ : ∃ r, s.contains x = r := ⟨_, rfl⟩
  unfold BsPost at H
  rw [hr] at H ⊢
  generalize ((posn s x : Nat) : Int) = p at *
  clear hV hs hr
  go_enter Tryz.func28, Tryz.ntmps28
  go_wp2_with (go_at_call 25; ((with_reducible refine (H.out).mono ?_); rintro e w' ⟨rfl, rfl⟩))
  go_ret
  exact ⟨rfl, rfl⟩

theorem any_yes {l s : List Int} {k : Nat} {a : Int} (h : l[k]? = some a) (hc : s.contains a = true) : l.any (fun v => s.contains v) = true :=
  List.any_eq_true.2 ⟨a, List.mem_of_getElem? h, hc⟩
theorem any_no {l s : List Int} (h : ∀ j x, j < l.length → l[j]? = some x → s.contains x = false) : l.any (fun v => s.contains v) = false := by
  rw [Bool.eq_false_iff]
  intro hc
  obtain ⟨x, hx, hcx⟩ := List.any_eq_true.1 hc
  obtain ⟨j, hj, e⟩ := List.getElem_of_mem hx
  rw [h j x hj (by rw [List.getElem?_eq_getElem hj, e])] at hcx
  cases hcx

def IdxPost (r : Bool) (w : World) (e : Ending) (w' : World) : Prop := ∃ z : Int, e = .returned (.int .i64 z) ∧ (r = true → 0 ≤ z) ∧ (r = false → z = -1) ∧ w = w'
set_option maxRecDepth 100000 in
set_option maxHeartbeats 2000000 in
theorem idxf_any (l s : List Int) (vl vs : Value) (g B : Nat) (w : World) (hs : SS s) (hls : s.length ≤ 2000000000000) (hVL : IV w B vl l) (hVS : IV w B vs s) (hg : w.cell? ⟨g, 0, none⟩ = some vs) :
    Calls Tryz.prog 50 #[vl, .func (.func 28) #[] #[.pointer (some ⟨g, 0, none⟩)]] w (IdxPost (l.any (fun v => s.contains v)) w) := by
  obtain ⟨A, c, rfl, h1, h2⟩ := hVL.len
  have hl : l.length ≤ 9223372036854775807 := by unfold maxLen at h2; omega
  have HV := Lib.hid hVL
  have HW := Lib.hid (fun x => wo1_any s vs x g B w hs hls hVS hg)
  have HY := Lib.hid (fun k a (h : l[k]? = some a) (hc : s.contains a = true) => any_yes h hc)
  have HN := Lib.hid (any_no (l := l) (s := s))
  unfold IdxPost
  obtain ⟨r, hr⟩ : ∃ r, l.any (fun v => s.contains v) = r := ⟨_, rfl⟩
  rw [hr] at HY HN ⊢
  clear hr hVL hVS hs hg
  go_enter Tryz.func50, Tryz.ntmps50
  go_wp2
  go_loopw [8] (fun iv wr => wr = w ∧ ∃ k : Nat, k ≤ l.length ∧ iv = .int .i64 (k : Int) ∧ Hid (∀ j x, j < k → l[j]? = some x → s.contains x = false)) (fun iv _ => l.length - (intOf iv).toNat)
  case atStart => exact ⟨rfl, 0, Nat.zero_le _, rfl, Lib.hid (fun j x h => by omega)⟩
  case round =>
    obtain ⟨rfl, k, hk, rfl, HK⟩ := hrel
    rcases Nat.lt_or_ge k l.length with hlt | hge
    · obtain ⟨a, ha⟩ : ∃ a, l[k]? = some a := ⟨_, List.getElem?_eq_getElem hlt⟩
      obtain ⟨aa, rfl, _, ca⟩ := HV.out.at_ ha
      have hm1 : (k : Int) < (l.length : Int) := by omega
      have HWa := Lib.hid (HW.out a)
      cases hca : s.contains a
      · rw [hca] at HWa
        have HK2 := Lib.hid (show ∀ j x, j < k + 1 → l[j]? = some x → s.contains x = false from fun j x hj hx => by
          rcases Nat.lt_or_ge j k with h3 | h3
          · exact HK.out j x h3 hx
          · obtain rfl : j = k := by omega
            rw [ha] at hx; rw [← Option.some.inj hx]; exact hca)
        clear ha hca
        go_wp2_with (go_at_call 28; ((with_reducible refine (HWa.out).mono ?_); rintro e w' ⟨rfl, rfl⟩))
        go_roundw
        case rel => exact ⟨by first | rfl | trivial, k + 1, by omega, by go_num, HK2⟩
        case measure => simp [intOf]; omega
      · rw [hca] at HWa
        have HR := Lib.hid (HY.out k a ha hca)
        clear ha hca
        go_wp2_with (go_at_call 28; ((with_reducible refine (HWa.out).mono ?_); rintro e w' ⟨rfl, rfl⟩))
        go_ret
        exact ⟨(k : Int), rfl, fun _ => by omega, fun h => (by rw [HR.out] at h; cases h), rfl⟩
    · have q : (l.length : Int) ≤ (k : Int) := by omega
      have HR := Lib.hid (HN.out (fun j x hj hx => HK.out j x (by omega) hx))
      clear hge hk
      go_wp2_with fail
      go_ret
      exact ⟨-1, rfl, fun h => (by rw [HR.out] at h; cases h), fun _ => rfl, rfl⟩
set_option maxRecDepth 100000 in
theorem confun_any (l s : List Int) (vl vs : Value) (g B : Nat) (w : World) (hs : SS s) (hls : s.length ≤ 2000000000000) (hVL : IV w B vl l) (hVS : IV w B vs s) (hg : w.cell? ⟨g, 0, none⟩ = some vs) :
    Calls Tryz.prog 27 #[vl, .func (.func 28) #[] #[.pointer (some ⟨g, 0, none⟩)]] w fun e w' => e = .returned (.bool (l.any (fun v => s.contains v))) ∧ w = w' := by
  have H := Lib.hid (idxf_any l s vl vs g B w hs hls hVL hVS hg)
  obtain ⟨r, hr⟩ : ∃ r, l.any (fun v => s.contains v) = r := ⟨_, rfl⟩
  unfold IdxPost at H
  rw [hr] at H ⊢
  clear hVL hVS hs hg hr
  go_enter Tryz.func27, Tryz.ntmps27
  go_wp2_with fail
  go_at_call 50
  (with_reducible refine (H.out).mono ?_)
  rintro e w' ⟨z, rfl, hz1, hz2, rfl⟩
  cases r
  · obtain rfl := hz2 rfl
    clear hz1 hz2
    go_wp2_with fail
    go_ret
    exact ⟨rfl, rfl⟩
  · have hz := hz1 rfl
    clear hz1 hz2
    go_wp2_with fail
    go_ret
    exact ⟨by simp, rfl⟩

set_option maxRecDepth 100000 in
set_option maxHeartbeats 2000000 in
theorem index_any (l : List Int) (vl : Value) (x : Int) (B : Nat) (w : World) (hVL : IV w B vl l) :
    Calls Tryz.prog 51 #[vl, .int .i64 x] w (IdxPost (l.contains x) w) := by
  obtain ⟨A, c, rfl, h1, h2⟩ := hVL.len
  have hl : l.length ≤ 9223372036854775807 := by unfold maxLen at h2; omega
  have HV := Lib.hid hVL
  have HY := Lib.hid (fun k (h : l[k]? = some x) => contains_at h)
  have HNO := Lib.hid (fun (h : ∀ k : Nat, k < l.length → l[k]? ≠ some x) => contains_no h)
  unfold IdxPost
  obtain ⟨r, hr⟩ : ∃ r, l.contains x = r := ⟨_, rfl⟩
  rw [hr] at HY HNO ⊢
  clear hVL hr
  go_enter Tryz.func51, Tryz.ntmps51
  go_wp2
  go_loopw [8] (fun i wr => wr = w ∧ ∃ k : Nat, k ≤ l.length ∧ i = .int .i64 (k : Int) ∧ Hid (∀ j : Nat, j < k → l[j]? ≠ some x)) (fun i _ => l.length - (intOf i).toNat)
  case atStart => exact ⟨rfl, 0, Nat.zero_le _, rfl, Lib.hid (fun j h => by omega)⟩
  case round =>
    obtain ⟨rfl, k, hk, rfl, HK⟩ := hrel
    rcases Nat.lt_or_ge k l.length with hlt | hge
    · obtain ⟨a, ha⟩ : ∃ a, l[k]? = some a := ⟨_, List.getElem?_eq_getElem hlt⟩
      obtain ⟨aa, rfl, _, ca⟩ := HV.out.at_ ha
      have hm1 : (k : Int) < (l.length : Int) := by omega
      by_cases h : x = a
      · have HR := Lib.hid (HY.out k (by rw [ha, h]))
        have q := b_true h
        clear h ha
        go_wp2_with fail
        go_ret
        exact ⟨(k : Int), rfl, fun _ => by omega, fun h => (by rw [HR.out] at h; cases h), rfl⟩
      · have q := b_false h
        have HK2 := Lib.hid (show ∀ j : Nat, j < k + 1 → l[j]? ≠ some x from fun j hj e => by
          rcases Nat.lt_or_ge j k with h3 | h3
          · exact HK.out j h3 e
          · obtain rfl : j = k := by omega
            rw [ha] at e; exact h (Option.some.inj e).symm)
        clear h ha
        go_wp2_with fail
        go_roundw
        case rel => exact ⟨by first | rfl | trivial, k + 1, by omega, by go_num, HK2⟩
        case measure => simp [intOf]; omega
    · have HR := Lib.hid (HNO.out (fun j hj => HK.out j (by omega)))
      have q : (l.length : Int) ≤ (k : Int) := by omega
      clear hge hk
      go_wp2_with fail
      go_ret
      exact ⟨-1, rfl, fun h => (by rw [HR.out] at h; cases h), fun _ => rfl, rfl⟩
set_option maxRecDepth 100000 in
theorem con_any (l : List Int) (vl : Value) (x : Int) (B : Nat) (w : World) (hVL : IV w B vl l) :
    Calls Tryz.prog 29 #[vl, .int .i64 x] w fun e w' => e = .returned (.bool (l.contains x)) ∧ w = w' := by
  have H := Lib.hid (index_any l vl x B w hVL)
  obtain ⟨r, hr⟩ : ∃ r, l.contains x = r := ⟨_, rfl⟩
  unfold IdxPost at H
  rw [hr] at H ⊢
  clear hVL hr
  go_enter Tryz.func29, Tryz.ntmps29
  go_wp2_with fail
  go_at_call 51
  (with_reducible refine (H.out).mono ?_)
  rintro e w' ⟨z, rfl, hz1, hz2, rfl⟩
  cases r
  · obtain rfl := hz2 rfl
    clear hz1 hz2
    go_wp2_with fail
    go_ret
    exact ⟨rfl, rfl⟩
  · have hz := hz1 rfl
    clear hz1 hz2
    go_wp2_with fail
    go_ret
    exact ⟨by simp, rfl⟩
end Go.Proofs.YtmedfpejfpdpdaaGreatDoor

namespace Go.Proofs.YtmedfpejfpdpdaaGreatDoor
open Go.RowKit LamM

theorem wout_none {s l : List Int} (h : l.any (fun v => s.contains v) = false) : wout s l = s := by
  unfold wout
  rw [List.filter_eq_self]
  intro x hx
  cases hc : l.contains x
  · rfl
  · rw [List.contains_iff_mem] at hc
    have : l.any (fun v => s.contains v) = true := List.any_eq_true.2 ⟨x, hc, List.contains_iff_mem.2 hx⟩
    rw [this] at h; cases h
theorem wout_step {s l : List Int} {k : Nat} {a : Int} (h : s[k]? = some a) : wout (s.take (k + 1)) l = if l.contains a then wout (s.take k) l else wout (s.take k) l ++ [a] := by
  unfold wout
  rw [List.take_add_one, h, List.filter_append]
  show _ ++ [a].filter (fun v => !l.contains v) = _
  cases hc : l.contains a
  · rw [if_neg (by decide), show [a].filter (fun v => !l.contains v) = [a] by rw [List.filter_cons, hc]; rfl]
  · rw [if_pos rfl, show [a].filter (fun v => !l.contains v) = [] by rw [List.filter_cons, hc]; rfl, List.append_nil]
theorem wout_len (s l : List Int) : (wout s l).length ≤ s.length := List.length_filter_le _ _

set_option maxRecDepth 100000 in
set_option maxHeartbeats 4000000 in
theorem lwout_any (s l : List Int) (vs vl : Value) (w : World) (hs : SS s) (hls : s.length ≤ 2000000000000) (hVS : IV w w.heap.size vs s) (hVL : IV w w.heap.size vl l) :
    Calls Tryz.prog 13 #[vs, vl] w (GivesI w (wout s l)) := by
  obtain ⟨i0, hi0, hz0, hz1, hz2⟩ := info_parts infoI
  have hb1 : Below w.heap.size w (w.alloc (.cells #[vs] 43)) := (Below.refl _ _).alloc (Nat.le_refl _) _
  have HVS := Lib.hid hVS
  have HVL := Lib.hid hVL
  have HB1 := Lib.hid hb1
  have cbx : (w.alloc (.cells #[vs] 43)).cell? ⟨w.heap.size, 0, none⟩ = some vs := (Blk.new w 43 #[vs]).cell 0
  have HCF := Lib.hid (confun_any l s vl vs w.heap.size w.heap.size _ hs hls (hVL.keep (fun p hp => hb1.cell hp)) (hVS.keep (fun p hp => hb1.cell hp)) cbx)
  have HCN := Lib.hid (fun x w' (h : IV w' w.heap.size vl l) => con_any l vl x w.heap.size w' h)
  obtain ⟨A, c, rfl, h1, h2⟩ := hVS.len
  have hlc : s.length ≤ 9223372036854775807 := by omega
  cases hc : l.any (fun v => s.contains v)
  · rw [hc] at HCF
    have HR := Lib.hid (wout_none hc)
    clear hVS hVL hs hb1 hc
    go_enter Tryz.func13, Tryz.ntmps13
    go_wp2_with (go_at_call 27; ((with_reducible refine (HCF.out).mono ?_); rintro e w' ⟨rfl, rfl⟩))
    go_ret
    exact ⟨_, rfl, by rw [HR.out]; exact HVS.out.below HB1.out, HB1.out⟩
  · rw [hc] at HCF
    obtain ⟨R, hR⟩ : ∃ R, wout s l = R := ⟨_, rfl⟩
    have HR := Lib.hid (show wout (s.take s.length) l = R by rw [List.take_length]; exact hR)
    rw [hR]
    clear hVS hVL hs hb1 hc hR
    go_enter Tryz.func13, Tryz.ntmps13
    go_wp2_with (go_at_call 27; ((with_reducible refine (HCF.out).mono ?_); rintro e w' ⟨rfl, rfl⟩))
    go_loopw [5, 15] (fun o iv wr => ∃ (k : Nat) (out : List Int), k ≤ s.length ∧ iv = .int .i64 (k : Int) ∧ out.length ≤ s.length ∧ Hid (wout (s.take k) l = out) ∧ Hid (OI w.heap.size wr o out) ∧ Hid (Below w.heap.size w wr)) (fun _ iv _ => s.length - (intOf iv).toNat)
    case atStart => exact ⟨0, [], Nat.zero_le _, rfl, Nat.zero_le _, Lib.hid rfl, Lib.hid (World.ownsRow_nil _ _ _ _), HB1⟩
    case round =>
      obtain ⟨k, out, hk, rfl, hol, HQ, HO, HB⟩ := hrel
      have hsz := HB.out.size
      rcases Nat.lt_or_ge k s.length with hlt | hge
      · obtain ⟨a, ha⟩ : ∃ a, s[k]? = some a := ⟨_, List.getElem?_eq_getElem hlt⟩
        obtain ⟨aa, rfl, _, ca⟩ := (HVS.out.keep (fun p hp => HB.out.cell hp)).at_ ha
        have hm1 : (k : Int) < (s.length : Int) := by omega
        have HCa := Lib.hid (HCN.out a wr (HVL.out.keep (fun p hp => HB.out.cell hp)))
        have HQ2 := Lib.hid (wout_step (l := l) ha)
        rw [HQ.out] at HQ2
        cases hca : l.contains a
        · rw [hca] at HCa HQ2
          rw [if_neg (by decide)] at HQ2
          have hok : out.length + 1 ≤ s.length := by
            have := wout_len (s.take (k + 1)) l
            rw [HQ2.out, List.length_append, List.length_take] at this
            simp at this; omega
          clear ha hca
          go_wp2_with (first
            | (go_at_call 29; ((with_reducible refine (HCa.out).mono ?_); rintro e w' ⟨rfl, rfl⟩))
            | (at_builtin; refine wpList_append_own _ rfl _ _ 43 rfl w.heap.size 3 i0 (.int .i64 0) 1 8 undS hi0 hz0 hz1 hz2 rfl (by decide) _ _ _ rfl (World.ownsRow.alloc HO.out _) ⟨wr.heap.size, 0, none⟩ 1 1 [_] rfl rfl (one_cell wr _ _) (one_one _) (by unfold maxLen; omega) (by omega) (by simp; omega) ?_))
          intro v2 w2 hown2 hgrow2 _
          have HO2 := Lib.hid (OI.one hown2)
          have HB2 := Lib.hid ((HB.out.alloc hsz _).grown hgrow2 (by simp; omega) (fun j hj => (World.ownsRow.lt HO.out j hj).1))
          clear hown2 hgrow2
          go_wp2_with fail
          go_roundw
          case rel => exact ⟨k + 1, _, by omega, by go_num, by simp; omega, HQ2, HO2, HB2⟩
          case measure => simp [intOf]; omega
        · rw [hca] at HCa HQ2
          rw [if_pos rfl] at HQ2
          clear ha hca
          go_wp2_with (go_at_call 29; ((with_reducible refine (HCa.out).mono ?_); rintro e w' ⟨rfl, rfl⟩))
          go_roundw
          case rel => exact ⟨k + 1, _, by omega, by go_num, hol, HQ2, HO, HB⟩
          case measure => simp [intOf]; omega
      · obtain rfl : k = s.length := by omega
        have q : (s.length : Int) ≤ (s.length : Int) := Int.le_refl _
        have HRR := Lib.hid (show out = R by rw [← HQ.out]; exact HR.out)
        clear hge hk
        go_wp2_with fail
        go_ret
        exact ⟨_, rfl, by rw [← HRR.out]; exact HO.out.iv, HB.out⟩
end Go.Proofs.YtmedfpejfpdpdaaGreatDoor
