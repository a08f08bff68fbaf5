/- Cps: atoms and moves among a node's arguments: the program's way. -/
import Derived.Test.YtjhdlnllhjffkaaGreatDoorCpsA
import Derived.Test.YtjhdlnllhjffkaaGreatDoorCloMc
namespace Go.Proofs.YtjhdlnllhjffkaaGreatDoor
open Go.RowKit LamM CpsM

theorem iv_take {w : World} {B : Nat} {A : Option Addr} {n c : Nat} {l : List Int} (h : IV w B (.slice A n c) l) {k : Nat} (hk : k ≤ l.length) : IV w B (.slice A k c) (l.take k) := by
  obtain ⟨A', c', e, h1, h2, h3⟩ := h
  injection e with e1 e2 e3
  subst e1 e3
  have hl : (l.take k).length = k := by rw [List.length_take]; omega
  refine ⟨A, c, by rw [hl], by omega, h2, by simp [intVals], fun hn => ?_⟩
  obtain ⟨ad, rfl, hb, hc⟩ := h3.2 (by omega)
  refine ⟨ad, rfl, hb, fun j u hj => hc j u ?_⟩
  unfold intVals at hj ⊢
  rw [List.map_take, List.getElem?_take] at hj
  split at hj
  · exact hj
  · cases hj
theorem iv_drop {w : World} {B : Nat} {A : Option Addr} {n c : Nat} {l : List Int} (h : IV w B (.slice A n c) l) {k : Nat} (hk : k ≤ l.length) : IV w B (.slice (if c = k then A else A.map (·.add k)) (l.length - k) (c - k)) (l.drop k) := by
  obtain ⟨A', c', e, h1, h2, h3⟩ := h
  injection e with e1 e2 e3
  subst e1 e3
  have h4 := h3.cut (k := k) (cap := c) hk h1
  refine ⟨_, _, by rw [List.length_drop], by rw [List.length_drop]; omega, by omega, ?_⟩
  rw [Nat.mul_one] at h4
  rw [List.length_drop]
  unfold intVals at h4 ⊢
  rw [List.map_drop]
  exact h4
theorem all_any {l : List Int} {f : Int → Bool} : (!l.any fun a => !f a) = l.all f := by
  induction l with
  | nil => rfl
  | cons a l ih => rw [List.any_cons, List.all_cons, Bool.not_or, ih, Bool.not_not]
theorem any_yesf {l : List Int} {f : Int → Bool} {k : Nat} {a : Int} (h : l[k]? = some a) (hc : f a = true) : l.any f = true :=
  List.any_eq_true.2 ⟨a, List.mem_of_getElem? h, hc⟩
theorem any_nof {l : List Int} {f : Int → Bool} (h : ∀ j x, j < l.length → l[j]? = some x → f x = false) : l.any f = false := by
  rw [Bool.eq_false_iff]
  intro hc
  obtain ⟨x, hx, hcx⟩ := List.any_eq_true.1 hc
  obtain ⟨j, hj, e⟩ := List.getElem_of_mem hx
  rw [h j x hj (by rw [List.getElem?_eq_getElem hj, e])] at hcx
  cases hcx

set_option maxRecDepth 100000 in
theorem catom_any (k : Int) (w : World) : Calls Tryz.prog 29 #[.int .i64 k] w fun e w' => e = .returned (.bool (atomB k)) ∧ w = w' := by
  obtain ⟨r, hr⟩ : ∃ r, atomB k = r := ⟨_, rfl⟩
  rw [hr]
  unfold atomB at hr
  by_cases h1 : 1 ≤ k
  · have q1 := decide_eq_true h1
    by_cases h2 : k ≤ 4
    · have q2 := decide_eq_true h2
      obtain rfl : r = true := by rw [← hr, q1, q2]; rfl
      clear h1 h2 hr
      go_enter Tryz.func29, Tryz.ntmps29
      go_wp2_with fail
      go_ret
      exact ⟨rfl, rfl⟩
    · have q2 := decide_eq_false h2
      obtain rfl : r = false := by rw [← hr, q1, q2]; rfl
      clear h1 h2 hr
      go_enter Tryz.func29, Tryz.ntmps29
      go_wp2_with fail
      go_ret
      exact ⟨rfl, rfl⟩
  · have q1 := decide_eq_false h1
    obtain rfl : r = false := by rw [← hr, q1]; rfl
    clear h1 hr
    go_enter Tryz.func29, Tryz.ntmps29
    go_wp2_with fail
    go_ret
    exact ⟨rfl, rfl⟩
set_option maxRecDepth 100000 in
theorem cmove_any (k : Int) (w : World) : Calls Tryz.prog 73 #[.int .i64 k] w fun e w' => e = .returned (.bool (moveB k)) ∧ w = w' := by
  obtain ⟨r, hr⟩ : ∃ r, moveB k = r := ⟨_, rfl⟩
  rw [hr]
  unfold moveB at hr
  by_cases h1 : 5 ≤ k
  · have q1 := decide_eq_true h1
    by_cases h2 : k ≤ 14
    · have q2 := decide_eq_true h2
      by_cases h3 : k = 10
      · have q3 := n_false h3
        obtain rfl : r = false := by rw [← hr, q1, q2, decide_eq_false (fun h => h h3)]; rfl
        clear h1 h2 h3 hr
        go_enter Tryz.func73, Tryz.ntmps73
        go_wp2_with fail
        go_ret
        exact ⟨rfl, rfl⟩
      · have q3 := n_true h3
        obtain rfl : r = true := by rw [← hr, q1, q2, decide_eq_true h3]; rfl
        clear h1 h2 h3 hr
        go_enter Tryz.func73, Tryz.ntmps73
        go_wp2_with fail
        go_ret
        exact ⟨rfl, rfl⟩
    · have q2 := decide_eq_false h2
      obtain rfl : r = false := by rw [← hr, q1, q2]; rfl
      clear h1 h2 hr
      go_enter Tryz.func73, Tryz.ntmps73
      go_wp2_with fail
      go_ret
      exact ⟨rfl, rfl⟩
  · have q1 := decide_eq_false h1
    obtain rfl : r = false := by rw [← hr, q1]; rfl
    clear h1 hr
    go_enter Tryz.func73, Tryz.ntmps73
    go_wp2_with fail
    go_ret
    exact ⟨rfl, rfl⟩

set_option maxRecDepth 100000 in
theorem satom_any (k : Int) (w : World) : Calls Tryz.prog 42 #[.int .i64 k] w fun e w' => e = .returned (.bool (atomB k)) ∧ w = w' := by
  obtain ⟨r, hr⟩ : ∃ r, atomB k = r := ⟨_, rfl⟩
  rw [hr]
  unfold atomB at hr
  by_cases h1 : 1 ≤ k
  · have q1 := decide_eq_true h1
    by_cases h2 : k ≤ 4
    · have q2 := decide_eq_true h2
      obtain rfl : r = true := by rw [← hr, q1, q2]; rfl
      clear h1 h2 hr
      go_enter Tryz.func42, Tryz.ntmps42
      go_wp2_with fail
      go_ret
      exact ⟨rfl, rfl⟩
    · have q2 := decide_eq_false h2
      obtain rfl : r = false := by rw [← hr, q1, q2]; rfl
      clear h1 h2 hr
      go_enter Tryz.func42, Tryz.ntmps42
      go_wp2_with fail
      go_ret
      exact ⟨rfl, rfl⟩
  · have q1 := decide_eq_false h1
    obtain rfl : r = false := by rw [← hr, q1]; rfl
    clear h1 hr
    go_enter Tryz.func42, Tryz.ntmps42
    go_wp2_with fail
    go_ret
    exact ⟨rfl, rfl⟩
set_option maxRecDepth 100000 in
set_option maxHeartbeats 2000000 in
theorem catom1_any (L : List Fl) (vl : Value) (a : Int) (g : Nat) (w : World) (hN : NF w w.heap.size vl L) (ha : 0 ≤ a ∧ a < (L.length : Int)) (hg : w.cell? ⟨g, 0, none⟩ = some vl) :
    Calls Tryz.prog 153 #[.int .i64 a, .pointer (some ⟨g, 0, none⟩)] w fun e w' => e = .returned (.bool (!atomB (kindC L a))) ∧ w = w' := by
  obtain ⟨x, rfl⟩ : ∃ x : Nat, a = (x : Int) := ⟨a.toNat, by omega⟩
  obtain ⟨t, ht⟩ : ∃ t, L[x]? = some t := ⟨_, List.getElem?_eq_getElem (by omega)⟩
  obtain ⟨A, c, rfl, h1, h2⟩ := hN.len
  obtain ⟨ad, vv, kv, av, rfl, had, _, ca, _⟩ := hN.at_ ht
  rw [kindC_at (by rw [Int.toNat_natCast]; exact ht)]
  have HC := Lib.hid (catom_any t.k w)
  have hxl : (x : Int) < (L.length : Int) := ha.2
  generalize atomB t.k = r at *
  clear hN ht ha
  go_enter Tryz.func153, Tryz.ntmps153
  go_wp2_with (go_at_call 29; ((with_reducible refine (HC.out).mono ?_); rintro e w' ⟨rfl, rfl⟩))
  go_ret
  exact ⟨by cases r <;> rfl, rfl⟩
set_option maxRecDepth 100000 in
set_option maxHeartbeats 2000000 in
theorem catomidx_any (L : List Fl) (l : List Int) (vl v : Value) (g B : Nat) (w : World) (hN : NF w w.heap.size vl L) (hr : ∀ a ∈ l, 0 ≤ a ∧ a < (L.length : Int)) (hVL : IV w B v l) (hg : w.cell? ⟨g, 0, none⟩ = some vl) :
    Calls Tryz.prog 55 #[v, .func (.func 153) #[] #[.pointer (some ⟨g, 0, none⟩)]] w (IdxPost (l.any fun a => !atomB (kindC L a)) w) := by
  obtain ⟨A, c, rfl, h1, h2⟩ := hVL.len
  have hl : l.length ≤ 9223372036854775807 := by unfold maxLen at h2; omega
  have HV := Lib.hid hVL
  have HW := Lib.hid (fun a (h : a ∈ l) => catom1_any L vl a g w hN (hr a h) hg)
  have HY := Lib.hid (fun k a (h : l[k]? = some a) (hc : (!atomB (kindC L a)) = true) => any_yesf (f := fun a => !atomB (kindC L a)) h hc)
  have HN := Lib.hid (any_nof (l := l) (f := fun a => !atomB (kindC L a)))
  unfold IdxPost
  obtain ⟨r, hr2⟩ : ∃ r, (l.any fun a => !atomB (kindC L a)) = r := ⟨_, rfl⟩
  rw [hr2] at HY HN ⊢
  clear hr2 hVL hN hg hr
  go_enter Tryz.func55, Tryz.ntmps55
  go_wp2
  go_loopw [8] (fun iv wr => wr = w ∧ ∃ k : Nat, k ≤ l.length ∧ iv = .int .i64 (k : Int) ∧ Hid (∀ j x, j < k → l[j]? = some x → (!atomB (kindC L x)) = false)) (fun iv _ => l.length - (intOf iv).toNat)
  case atStart => exact ⟨rfl, 0, Nat.zero_le _, rfl, Lib.hid (fun j x h => by omega)⟩
  case round =>
    obtain ⟨rfl, k, hk, rfl, HK⟩ := hrel
    rcases Nat.lt_or_ge k l.length with hlt | hge
    · obtain ⟨a, ha⟩ : ∃ a, l[k]? = some a := ⟨_, List.getElem?_eq_getElem hlt⟩
      obtain ⟨aa, rfl, _, ca⟩ := HV.out.at_ ha
      have hm1 : (k : Int) < (l.length : Int) := by omega
      have HWa := Lib.hid (HW.out a (List.mem_of_getElem? ha))
      cases hca : (!atomB (kindC L a))
      · rw [hca] at HWa
        have HK2 := Lib.hid (show ∀ j x, j < k + 1 → l[j]? = some x → (!atomB (kindC L x)) = false from fun j x hj hx => by
          rcases Nat.lt_or_ge j k with h3 | h3
          · exact HK.out j x h3 hx
          · obtain rfl : j = k := by omega
            rw [ha] at hx; rw [← Option.some.inj hx]; exact hca)
        clear ha hca
        go_wp2_with (go_at_call 153; ((with_reducible refine (HWa.out).mono ?_); rintro e w' ⟨rfl, rfl⟩))
        go_roundw
        case rel => exact ⟨by first | rfl | trivial, k + 1, by omega, by go_num, HK2⟩
        case measure => simp [intOf]; omega
      · rw [hca] at HWa
        have HR := Lib.hid (HY.out k a ha hca)
        clear ha hca
        go_wp2_with (go_at_call 153; ((with_reducible refine (HWa.out).mono ?_); rintro e w' ⟨rfl, rfl⟩))
        go_ret
        exact ⟨(k : Int), rfl, fun _ => by omega, fun h => (by rw [HR.out] at h; cases h), rfl⟩
    · have q : (l.length : Int) ≤ (k : Int) := by omega
      have HR := Lib.hid (HN.out (fun j x hj hx => HK.out j x (by omega) hx))
      clear hge hk
      go_wp2_with fail
      go_ret
      exact ⟨-1, rfl, fun h => (by rw [HR.out] at h; cases h), fun _ => rfl, rfl⟩
set_option maxRecDepth 100000 in
theorem catomcon_any (L : List Fl) (l : List Int) (vl v : Value) (g B : Nat) (w : World) (hN : NF w w.heap.size vl L) (hr : ∀ a ∈ l, 0 ≤ a ∧ a < (L.length : Int)) (hVL : IV w B v l) (hg : w.cell? ⟨g, 0, none⟩ = some vl) :
    Calls Tryz.prog 27 #[v, .func (.func 153) #[] #[.pointer (some ⟨g, 0, none⟩)]] w fun e w' => e = .returned (.bool (l.any fun a => !atomB (kindC L a))) ∧ w = w' := by
  have H := Lib.hid (catomidx_any L l vl v g B w hN hr hVL hg)
  obtain ⟨r, hr2⟩ : ∃ r, (l.any fun a => !atomB (kindC L a)) = r := ⟨_, rfl⟩
  unfold IdxPost at H
  rw [hr2] at H ⊢
  clear hVL hN hg hr hr2
  go_enter Tryz.func27, Tryz.ntmps27
  go_wp2_with fail
  go_at_call 55
  (with_reducible refine (H.out).mono ?_)
  rintro e w' ⟨z, rfl, hz1, hz2, rfl⟩
  cases r
  · obtain rfl := hz2 rfl
    clear hz1 hz2
    go_wp2_with fail
    go_ret
    exact ⟨rfl, rfl⟩
  · have hz := hz1 rfl
    have qz := decide_eq_true hz
    clear hz1 hz2
    go_wp2_with fail
    go_ret
    exact ⟨by simp, rfl⟩
set_option maxRecDepth 100000 in
set_option maxHeartbeats 2000000 in
theorem catoms_any (L : List Fl) (l : List Int) (vl v : Value) (w : World) (hN : NF w w.heap.size vl L) (hr : ∀ a ∈ l, 0 ≤ a ∧ a < (L.length : Int)) (hV : IV w w.heap.size v l) :
    Calls Tryz.prog 82 #[vl, v] w fun e w' => e = .returned (.bool (atomsB L l)) ∧ Below w.heap.size w w' := by
  obtain ⟨A0, c0, rfl, _, _⟩ := hN.len
  obtain ⟨W, hW⟩ : ∃ W, w.alloc (.cells #[.slice A0 L.length c0] 22) = W := ⟨_, rfl⟩
  have hbw : Below w.heap.size w W := by rw [← hW]; exact (Below.refl _ _).alloc (Nat.le_refl _) _
  have hcw : W.cell? ⟨w.heap.size, 0, none⟩ = some (.slice A0 L.length c0) := by rw [← hW]; exact (Blk.new w 22 #[.slice A0 L.length c0]).cell 0
  have HC := Lib.hid (catomcon_any L l _ v w.heap.size W.heap.size W (hN.below hbw) hr (hV.below hbw) hcw)
  have HE := Lib.hid (show (!l.any fun a => !atomB (kindC L a)) = atomsB L l from all_any)
  have HB := Lib.hid hbw
  obtain ⟨r, hr2⟩ : ∃ r, (l.any fun a => !atomB (kindC L a)) = r := ⟨_, rfl⟩
  rw [hr2] at HC HE
  clear hN hV hr hbw hcw hr2
  go_enter Tryz.func82, Tryz.ntmps82
  go_wp2_with (go_at_call 27; ((with_reducible refine (HC.out).mono ?_); rintro e w' ⟨rfl, rfl⟩))
  go_ret
  exact ⟨by rw [← HE.out]; cases r <;> rfl, HB.out⟩


set_option maxRecDepth 100000 in
set_option maxHeartbeats 2000000 in
theorem cmove1_any (L : List Fl) (vl : Value) (a : Int) (g : Nat) (w : World) (hN : NF w w.heap.size vl L) (ha : 0 ≤ a ∧ a < (L.length : Int)) (hg : w.cell? ⟨g, 0, none⟩ = some vl) :
    Calls Tryz.prog 154 #[.int .i64 a, .pointer (some ⟨g, 0, none⟩)] w fun e w' => e = .returned (.bool (!moveB (kindC L a))) ∧ w = w' := by
  obtain ⟨x, rfl⟩ : ∃ x : Nat, a = (x : Int) := ⟨a.toNat, by omega⟩
  obtain ⟨t, ht⟩ : ∃ t, L[x]? = some t := ⟨_, List.getElem?_eq_getElem (by omega)⟩
  obtain ⟨A, c, rfl, h1, h2⟩ := hN.len
  obtain ⟨ad, vv, kv, av, rfl, had, _, ca, _⟩ := hN.at_ ht
  rw [kindC_at (by rw [Int.toNat_natCast]; exact ht)]
  have HC := Lib.hid (cmove_any t.k w)
  have hxl : (x : Int) < (L.length : Int) := ha.2
  generalize moveB t.k = r at *
  clear hN ht ha
  go_enter Tryz.func154, Tryz.ntmps154
  go_wp2_with (go_at_call 73; ((with_reducible refine (HC.out).mono ?_); rintro e w' ⟨rfl, rfl⟩))
  go_ret
  exact ⟨by cases r <;> rfl, rfl⟩
set_option maxRecDepth 100000 in
set_option maxHeartbeats 2000000 in
theorem cmoveidx_any (L : List Fl) (l : List Int) (vl v : Value) (g B : Nat) (w : World) (hN : NF w w.heap.size vl L) (hr : ∀ a ∈ l, 0 ≤ a ∧ a < (L.length : Int)) (hVL : IV w B v l) (hg : w.cell? ⟨g, 0, none⟩ = some vl) :
    Calls Tryz.prog 55 #[v, .func (.func 154) #[] #[.pointer (some ⟨g, 0, none⟩)]] w (IdxPost (l.any fun a => !moveB (kindC L a)) w) := by
  obtain ⟨A, c, rfl, h1, h2⟩ := hVL.len
  have hl : l.length ≤ 9223372036854775807 := by unfold maxLen at h2; omega
  have HV := Lib.hid hVL
  have HW := Lib.hid (fun a (h : a ∈ l) => cmove1_any L vl a g w hN (hr a h) hg)
  have HY := Lib.hid (fun k a (h : l[k]? = some a) (hc : (!moveB (kindC L a)) = true) => any_yesf (f := fun a => !moveB (kindC L a)) h hc)
  have HN := Lib.hid (any_nof (l := l) (f := fun a => !moveB (kindC L a)))
  unfold IdxPost
  obtain ⟨r, hr2⟩ : ∃ r, (l.any fun a => !moveB (kindC L a)) = r := ⟨_, rfl⟩
  rw [hr2] at HY HN ⊢
  clear hr2 hVL hN hg hr
  go_enter Tryz.func55, Tryz.ntmps55
  go_wp2
  go_loopw [8] (fun iv wr => wr = w ∧ ∃ k : Nat, k ≤ l.length ∧ iv = .int .i64 (k : Int) ∧ Hid (∀ j x, j < k → l[j]? = some x → (!moveB (kindC L x)) = false)) (fun iv _ => l.length - (intOf iv).toNat)
  case atStart => exact ⟨rfl, 0, Nat.zero_le _, rfl, Lib.hid (fun j x h => by omega)⟩
  case round =>
    obtain ⟨rfl, k, hk, rfl, HK⟩ := hrel
    rcases Nat.lt_or_ge k l.length with hlt | hge
    · obtain ⟨a, ha⟩ : ∃ a, l[k]? = some a := ⟨_, List.getElem?_eq_getElem hlt⟩
      obtain ⟨aa, rfl, _, ca⟩ := HV.out.at_ ha
      have hm1 : (k : Int) < (l.length : Int) := by omega
      have HWa := Lib.hid (HW.out a (List.mem_of_getElem? ha))
      cases hca : (!moveB (kindC L a))
      · rw [hca] at HWa
        have HK2 := Lib.hid (show ∀ j x, j < k + 1 → l[j]? = some x → (!moveB (kindC L x)) = false from fun j x hj hx => by
          rcases Nat.lt_or_ge j k with h3 | h3
          · exact HK.out j x h3 hx
          · obtain rfl : j = k := by omega
            rw [ha] at hx; rw [← Option.some.inj hx]; exact hca)
        clear ha hca
        go_wp2_with (go_at_call 154; ((with_reducible refine (HWa.out).mono ?_); rintro e w' ⟨rfl, rfl⟩))
        go_roundw
        case rel => exact ⟨by first | rfl | trivial, k + 1, by omega, by go_num, HK2⟩
        case measure => simp [intOf]; omega
      · rw [hca] at HWa
        have HR := Lib.hid (HY.out k a ha hca)
        clear ha hca
        go_wp2_with (go_at_call 154; ((with_reducible refine (HWa.out).mono ?_); rintro e w' ⟨rfl, rfl⟩))
        go_ret
        exact ⟨(k : Int), rfl, fun _ => by omega, fun h => (by rw [HR.out] at h; cases h), rfl⟩
    · have q : (l.length : Int) ≤ (k : Int) := by omega
      have HR := Lib.hid (HN.out (fun j x hj hx => HK.out j x (by omega) hx))
      clear hge hk
      go_wp2_with fail
      go_ret
      exact ⟨-1, rfl, fun h => (by rw [HR.out] at h; cases h), fun _ => rfl, rfl⟩
set_option maxRecDepth 100000 in
theorem cmovecon_any (L : List Fl) (l : List Int) (vl v : Value) (g B : Nat) (w : World) (hN : NF w w.heap.size vl L) (hr : ∀ a ∈ l, 0 ≤ a ∧ a < (L.length : Int)) (hVL : IV w B v l) (hg : w.cell? ⟨g, 0, none⟩ = some vl) :
    Calls Tryz.prog 27 #[v, .func (.func 154) #[] #[.pointer (some ⟨g, 0, none⟩)]] w fun e w' => e = .returned (.bool (l.any fun a => !moveB (kindC L a))) ∧ w = w' := by
  have H := Lib.hid (cmoveidx_any L l vl v g B w hN hr hVL hg)
  obtain ⟨r, hr2⟩ : ∃ r, (l.any fun a => !moveB (kindC L a)) = r := ⟨_, rfl⟩
  unfold IdxPost at H
  rw [hr2] at H ⊢
  clear hVL hN hg hr hr2
  go_enter Tryz.func27, Tryz.ntmps27
  go_wp2_with fail
  go_at_call 55
  (with_reducible refine (H.out).mono ?_)
  rintro e w' ⟨z, rfl, hz1, hz2, rfl⟩
  cases r
  · obtain rfl := hz2 rfl
    clear hz1 hz2
    go_wp2_with fail
    go_ret
    exact ⟨rfl, rfl⟩
  · have hz := hz1 rfl
    have qz := decide_eq_true hz
    clear hz1 hz2
    go_wp2_with fail
    go_ret
    exact ⟨by simp, rfl⟩
set_option maxRecDepth 100000 in
set_option maxHeartbeats 2000000 in
theorem cmoves_any (L : List Fl) (l : List Int) (vl v : Value) (w : World) (hN : NF w w.heap.size vl L) (hr : ∀ a ∈ l, 0 ≤ a ∧ a < (L.length : Int)) (hV : IV w w.heap.size v l) :
    Calls Tryz.prog 83 #[vl, v] w fun e w' => e = .returned (.bool (movesB L l)) ∧ Below w.heap.size w w' := by
  obtain ⟨A0, c0, rfl, _, _⟩ := hN.len
  obtain ⟨W, hW⟩ : ∃ W, w.alloc (.cells #[.slice A0 L.length c0] 22) = W := ⟨_, rfl⟩
  have hbw : Below w.heap.size w W := by rw [← hW]; exact (Below.refl _ _).alloc (Nat.le_refl _) _
  have hcw : W.cell? ⟨w.heap.size, 0, none⟩ = some (.slice A0 L.length c0) := by rw [← hW]; exact (Blk.new w 22 #[.slice A0 L.length c0]).cell 0
  have HC := Lib.hid (cmovecon_any L l _ v w.heap.size W.heap.size W (hN.below hbw) hr (hV.below hbw) hcw)
  have HE := Lib.hid (show (!l.any fun a => !moveB (kindC L a)) = movesB L l from all_any)
  have HB := Lib.hid hbw
  obtain ⟨r, hr2⟩ : ∃ r, (l.any fun a => !moveB (kindC L a)) = r := ⟨_, rfl⟩
  rw [hr2] at HC HE
  clear hN hV hr hbw hcw hr2
  go_enter Tryz.func83, Tryz.ntmps83
  go_wp2_with (go_at_call 27; ((with_reducible refine (HC.out).mono ?_); rintro e w' ⟨rfl, rfl⟩))
  go_ret
  exact ⟨by rw [← HE.out]; cases r <;> rfl, HB.out⟩

end Go.Proofs.YtjhdlnllhjffkaaGreatDoor
