/- Lambda: which keys are keys: of a list, both ways. Lambda: which keys are keys: the reference's. Lambda: a node that binds functions: its form, both ways. -/
import Derived.Test.YtmedfpejfpdpdaaGreatDoorLamIJKL
namespace Go.Proofs.YtmedfpejfpdpdaaGreatDoor
open Go.RowKit LamM

theorem keyVals_at : ∀ (l : List Ky) (i : Nat) (y : Ky), l[i]? = some y → (keyVals l)[i * 3]? = some (.int .i64 y.k) ∧ (keyVals l)[i * 3 + 1]? = some (.int .i64 y.i) ∧ (keyVals l)[i * 3 + 2]? = some (.string ⟨y.t.toArray⟩)
  | [], i, y, h => by simp at h
  | x :: l, 0, y, h => by
    have : x = y := by simpa using h
    subst this
    exact ⟨rfl, rfl, rfl⟩
  | x :: l, i + 1, y, h => by
    have ih := keyVals_at l i y (by simpa using h)
    have e : keyVals (x :: l) = [.int .i64 x.k, .int .i64 x.i, .string ⟨x.t.toArray⟩] ++ keyVals l := by unfold keyVals; rw [List.flatMap_cons]
    rw [e, show (i + 1) * 3 = 3 + i * 3 by omega]
    have sh : ∀ m, ([.int .i64 x.k, .int .i64 x.i, .string ⟨x.t.toArray⟩] ++ keyVals l : List Value)[3 + m]? = (keyVals l)[m]? := fun m => by
      rw [List.getElem?_append_right (by simp), show 3 + m - [Value.int .i64 x.k, .int .i64 x.i, .string ⟨x.t.toArray⟩].length = m by simp]
    rw [sh, show 3 + i * 3 + 1 = 3 + (i * 3 + 1) by omega, sh, show 3 + i * 3 + 2 = 3 + (i * 3 + 2) by omega, sh]
    exact ih
theorem KV.at_ {w : World} {B : Nat} {A : Option Addr} {n c : Nat} {l : List Ky} (h : KV w B (.slice A n c) l) {j : Nat} {y : Ky} (hj : l[j]? = some y) :
    ∃ ad, A = some ad ∧ ad.block < B ∧ w.cell? (ad.add (j * 3)) = some (.int .i64 y.k) ∧ w.cell? (ad.add (j * 3 + (0 + 1))) = some (.int .i64 y.i) ∧ w.cell? (ad.add (j * 3 + (1 + 1))) = some (.string ⟨y.t.toArray⟩) := by
  obtain ⟨A', c', e, _, _, hr⟩ := h
  injection e with e1 e2 e3
  subst e1 e3
  have hlt : j < l.length := (List.getElem?_eq_some_iff.1 hj).1
  obtain ⟨ad, hA, hb, hc⟩ := hr.2 (by omega)
  obtain ⟨v0, v1, v2⟩ := keyVals_at l j y hj
  exact ⟨ad, hA, hb, hc _ _ v0, hc _ _ v1, hc _ _ v2⟩
theorem KV.len {w : World} {B : Nat} {v : Value} {l : List Ky} (h : KV w B v l) : ∃ A c, v = .slice A l.length c ∧ l.length ≤ c ∧ c ≤ maxLen := by
  obtain ⟨A, c, e, h1, h2, _⟩ := h; exact ⟨A, c, e, h1, h2⟩
theorem all_yes {l : List Ky} {k : Nat} {a : Ky} (h : l[k]? = some a) (hc : keyOk a = false) : l.all keyOk = false := by
  rw [Bool.eq_false_iff]
  intro ha
  rw [List.all_eq_true] at ha
  rw [ha a (List.mem_of_getElem? h)] at hc; cases hc
theorem all_no {l : List Ky} (h : ∀ j x, j < l.length → l[j]? = some x → keyOk x = true) : l.all keyOk = true := by
  rw [List.all_eq_true]
  intro x hx
  obtain ⟨j, hj, e⟩ := List.getElem_of_mem hx
  exact h j x hj (by rw [List.getElem?_eq_getElem hj, e])

def IdxK (r : Bool) (w : World) (e : Ending) (w' : World) : Prop := ∃ z : Int, e = .returned (.int .i64 z) ∧ (r = false → 0 ≤ z) ∧ (r = true → z = -1) ∧ Below w.heap.size w w'
set_option maxRecDepth 100000 in
set_option maxHeartbeats 2000000 in
theorem idxk_any (l : List Ky) (vl : Value) (w : World) (hVL : KV w w.heap.size vl l) :
    Calls Tryz.prog 52 #[vl, .func (.func 34) #[] #[]] w (IdxK (l.all keyOk) w) := by
  obtain ⟨A, c, rfl, h1, h2⟩ := hVL.len
  have hl : l.length ≤ 9223372036854775807 := by unfold maxLen at h2; omega
  have HV := Lib.hid hVL
  have HW := Lib.hid (fun y w => form1_any y w)
  have HY := Lib.hid (fun k a (h : l[k]? = some a) (hc : keyOk a = false) => all_yes h hc)
  have HN := Lib.hid (all_no (l := l))
  unfold IdxK
  obtain ⟨r, hr⟩ : ∃ r, l.all keyOk = r := ⟨_, rfl⟩
  rw [hr] at HY HN ⊢
  clear hr hVL
  go_enter Tryz.func52, Tryz.ntmps52
  go_wp2
  go_loopw [8] (fun iv wr => Hid (Below w.heap.size w wr) ∧ ∃ k : Nat, k ≤ l.length ∧ iv = .int .i64 (k : Int) ∧ Hid (∀ j x, j < k → l[j]? = some x → keyOk x = true)) (fun iv _ => l.length - (intOf iv).toNat)
  case atStart => exact ⟨Lib.hid (Below.refl _ _), 0, Nat.zero_le _, rfl, Lib.hid (fun j x h => by omega)⟩
  case round =>
    obtain ⟨HB, k, hk, rfl, HK⟩ := hrel
    have hsz := HB.out.size
    rcases Nat.lt_or_ge k l.length with hlt | hge
    · obtain ⟨a, ha⟩ : ∃ a, l[k]? = some a := ⟨_, List.getElem?_eq_getElem hlt⟩
      obtain ⟨aa, rfl, _, ca, cb, cc⟩ := (HV.out.keep (fun p hp => HB.out.cell hp)).at_ ha
      rw [cell_spell] at cb cc
      have hm1 : (k : Int) < (l.length : Int) := by omega
      have HWa := Lib.hid (HW.out a)
      unfold kyAgg at HWa
      cases hca : keyOk a
      · rw [hca] at HWa
        have HR := Lib.hid (HY.out k a ha hca)
        clear ha hca
        go_wp2_with (go_at_call 34; ((with_reducible refine (HWa.out _).mono ?_); rintro e w' ⟨rfl, hb⟩; have HB2 := Lib.hid (HB.out.trans (hb.mono hsz)); clear hb))
        go_ret
        exact ⟨(k : Int), rfl, fun _ => by omega, fun h => (by rw [HR.out] at h; cases h), HB2.out⟩
      · rw [hca] at HWa
        have HK2 := Lib.hid (show ∀ j x, j < k + 1 → l[j]? = some x → keyOk x = true from fun j x hj hx => by
          rcases Nat.lt_or_ge j k with h3 | h3
          · exact HK.out j x h3 hx
          · obtain rfl : j = k := by omega
            rw [ha] at hx; rw [← Option.some.inj hx]; exact hca)
        clear ha hca
        go_wp2_with (go_at_call 34; ((with_reducible refine (HWa.out _).mono ?_); rintro e w' ⟨rfl, hb⟩; have HB2 := Lib.hid (HB.out.trans (hb.mono hsz)); clear hb))
        go_roundw
        case rel => exact ⟨HB2, k + 1, by omega, by go_num, HK2⟩
        case measure => simp [intOf]; omega
    · have q : (l.length : Int) ≤ (k : Int) := by omega
      have HR := Lib.hid (HN.out (fun j x hj hx => HK.out j x (by omega) hx))
      clear hge hk
      go_wp2_with fail
      go_ret
      exact ⟨-1, rfl, fun h => (by rw [HR.out] at h; cases h), fun _ => rfl, HB.out⟩
set_option maxRecDepth 100000 in
theorem confunk_any (l : List Ky) (vl : Value) (w : World) (hVL : KV w w.heap.size vl l) :
    Calls Tryz.prog 33 #[vl, .func (.func 34) #[] #[]] w fun e w' => e = .returned (.bool (!l.all keyOk)) ∧ Below w.heap.size w w' := by
  have H := Lib.hid (idxk_any l vl w hVL)
  obtain ⟨r, hr⟩ : ∃ r, l.all keyOk = r := ⟨_, rfl⟩
  unfold IdxK at H
  rw [hr] at H ⊢
  clear hVL hr
  go_enter Tryz.func33, Tryz.ntmps33
  go_wp2_with fail
  go_at_call 52
  (with_reducible refine (H.out).mono ?_)
  rintro e w' ⟨z, rfl, hz1, hz2, hb⟩
  have HB := Lib.hid hb
  clear hb
  cases r
  · have hz := hz1 rfl
    clear hz1 hz2
    go_wp2_with fail
    go_ret
    exact ⟨by simp, HB.out⟩
  · obtain rfl := hz2 rfl
    clear hz1 hz2
    go_wp2_with fail
    go_ret
    exact ⟨rfl, HB.out⟩
end Go.Proofs.YtmedfpejfpdpdaaGreatDoor

namespace Go.Proofs.YtmedfpejfpdpdaaGreatDoor
open Go.RowKit LamM

set_option maxRecDepth 100000 in
set_option maxHeartbeats 4000000 in
theorem rkeys_any (l : List Ky) (vl : Value) (w : World) (hVL : KV w w.heap.size vl l) :
    Calls Tryz.prog 39 #[vl] w fun e w' => e = .returned (.bool (l.all keyOk)) ∧ w = w' := by
  obtain ⟨A, c, rfl, h1, h2⟩ := hVL.len
  have hl : l.length ≤ 9223372036854775807 := by unfold maxLen at h2; omega
  have HV := Lib.hid hVL
  have HS := Lib.hid (fun t w => tright_any t w)
  have HY := Lib.hid (fun k a (h : l[k]? = some a) (hc : keyOk a = false) => all_yes h hc)
  have HN := Lib.hid (all_no (l := l))
  obtain ⟨r, hr⟩ : ∃ r, l.all keyOk = r := ⟨_, rfl⟩
  rw [hr] at HY HN ⊢
  clear hr hVL
  go_enter Tryz.func39, Tryz.ntmps39
  go_wp2
  go_loopw [3] (fun iv wr => wr = w ∧ ∃ k : Nat, k ≤ l.length ∧ iv = .int .i64 (k : Int) ∧ Hid (∀ j x, j < k → l[j]? = some x → keyOk x = true)) (fun iv _ => l.length - (intOf iv).toNat)
  case atStart => exact ⟨rfl, 0, Nat.zero_le _, rfl, Lib.hid (fun j x h => by omega)⟩
  case round =>
    obtain ⟨rfl, k, hk, rfl, HK⟩ := hrel
    rcases Nat.lt_or_ge k l.length with hlt | hge
    · obtain ⟨a, ha⟩ : ∃ a, l[k]? = some a := ⟨_, List.getElem?_eq_getElem hlt⟩
      obtain ⟨aa, rfl, _, ca, cb, cc⟩ := HV.out.at_ ha
      rw [cell_spell] at cb cc
      have hm1 : (k : Int) < (l.length : Int) := by omega
      have HK2 := Lib.hid (fun (hca : keyOk a = true) => (show ∀ j x, j < k + 1 → l[j]? = some x → keyOk x = true from fun j x hj hx => by
          rcases Nat.lt_or_ge j k with h3 | h3
          · exact HK.out j x h3 hx
          · obtain rfl : j = k := by omega
            rw [ha] at hx; rw [← Option.some.inj hx]; exact hca))
      have HF := Lib.hid (fun (hca : keyOk a = false) => HY.out k a ha hca)
      have hko : keyOk a = (a.k == 1 || a.k == 2 || (a.k == 3 && decide (a.t.length ≤ 65536))) := rfl
      have HSa := Lib.hid (HS.out a.t)
      clear ha
      by_cases k1 : a.k = 1
      · have q1 := b_true k1
        have q2 := n_false k1
        have q3 := b_false (show a.k ≠ 3 by omega)
        rw [q1, Bool.true_or, Bool.true_or] at hko
        have HK3 := Lib.hid (HK2.out hko)
        clear hko k1
        go_wp2_with (go_at_call 37; ((with_reducible refine (HSa.out _).mono ?_); rintro e w' ⟨rfl, rfl⟩))
        go_roundw
        case rel => exact ⟨by first | rfl | trivial, k + 1, by omega, by go_num, HK3⟩
        case measure => simp [intOf]; omega
      · have q1 := b_false k1
        have p1 := n_true k1
        rw [q1, Bool.false_or] at hko
        by_cases k2 : a.k = 2
        · have q2 := b_true k2
          have p2 := n_false k2
          have q3 := b_false (show a.k ≠ 3 by omega)
          rw [q2, Bool.true_or] at hko
          have HK3 := Lib.hid (HK2.out hko)
          clear hko k1 k2
          go_wp2_with (go_at_call 37; ((with_reducible refine (HSa.out _).mono ?_); rintro e w' ⟨rfl, rfl⟩))
          go_roundw
          case rel => exact ⟨by first | rfl | trivial, k + 1, by omega, by go_num, HK3⟩
          case measure => simp [intOf]; omega
        · have q2 := b_false k2
          have p2 := n_true k2
          rw [q2, Bool.false_or] at hko
          by_cases k3 : a.k = 3
          · have q3 := b_true k3
            have p3 := n_false k3
            rw [q3, Bool.true_and] at hko
            rw [← hko] at HSa
            cases hca : keyOk a
            · rw [hca] at HSa
              have HR := Lib.hid (HF.out hca)
              clear hko hca k1 k2 k3
              go_wp2_with (go_at_call 37; ((with_reducible refine (HSa.out _).mono ?_); rintro e w' ⟨rfl, rfl⟩))
              go_ret
              exact ⟨by rw [HR.out]; rfl, rfl⟩
            · rw [hca] at HSa
              have HK3 := Lib.hid (HK2.out hca)
              clear hko hca k1 k2 k3
              go_wp2_with (go_at_call 37; ((with_reducible refine (HSa.out _).mono ?_); rintro e w' ⟨rfl, rfl⟩))
              go_roundw
              case rel => exact ⟨by first | rfl | trivial, k + 1, by omega, by go_num, HK3⟩
              case measure => simp [intOf]; omega
          · have q3 := b_false k3
            have p3 := n_true k3
            rw [q3, Bool.false_and] at hko
            have HR := Lib.hid (HF.out hko)
            clear hko k1 k2 k3
            go_wp2_with (go_at_call 37; ((with_reducible refine (HSa.out _).mono ?_); rintro e w' ⟨rfl, rfl⟩))
            go_ret
            exact ⟨by rw [HR.out]; rfl, rfl⟩
    · have q : (l.length : Int) ≤ (k : Int) := by omega
      have HR := Lib.hid (HN.out (fun j x hj hx => HK.out j x (by omega) hx))
      clear hge hk
      go_wp2_with fail
      go_ret
      exact ⟨by rw [HR.out]; rfl, rfl⟩
end Go.Proofs.YtmedfpejfpdpdaaGreatDoor

namespace Go.Proofs.YtmedfpejfpdpdaaGreatDoor
open Go.RowKit LamM

theorem fixGo_step {L : List Tm} {vs ws : List Int} {k : Nat} {v a : Int} (hv : vs[k]? = some v) (ha : ws[k]? = some a) :
    fixGo L (vs.drop k) (ws.drop k) = (!(decide (v < 0) || kindAt L a != 8) && fixGo L (vs.drop (k + 1)) (ws.drop (k + 1))) := by
  rw [drop_at hv, drop_at ha]; rfl
theorem fixGo_end {L : List Tm} {vs ws : List Int} : fixGo L (vs.drop vs.length) ws = true := by
  rw [List.drop_length]; cases ws <;> rfl

set_option maxRecDepth 100000 in
set_option maxHeartbeats 4000000 in
theorem lfixed_any (L : List Tm) (t : Tm) (vl vv kv av : Value) (w : World) (hN : NV w w.heap.size vl L) (hT : TV w w.heap.size t vv kv av) (hA : ∀ a ∈ t.args, 0 ≤ a ∧ a < (L.length : Int)) :
    Calls Tryz.prog 32 #[vl, .agg (tmVals t vv kv av).toArray] w fun e w' => e = .returned (.bool (fixOk L t)) ∧ Below w.heap.size w w' := by
  obtain ⟨NA, nc, rfl, hn1, hn2⟩ := hN.len
  obtain ⟨VA, vc, rfl, hv1, hv2⟩ := hT.v.len
  obtain ⟨AA, ac, rfl, ha1, ha2⟩ := hT.a.len
  have lv := hT.lv
  have la := hT.la
  have HAA := Lib.hid hA
  obtain ⟨W, hW⟩ : ∃ W, w.alloc (BoxT t (.slice VA t.vars.length vc) kv (.slice AA t.args.length ac)) = W := ⟨_, rfl⟩
  have hbw : Below w.heap.size w W := by rw [← hW]; exact (Below.refl _ _).alloc (Nat.le_refl _) _
  have HN := Lib.hid (hN.keep (fun p hp => hbw.cell hp))
  have HV := Lib.hid (hT.v.keep (fun p hp => hbw.cell hp))
  have HA := Lib.hid (hT.a.keep (fun p hp => hbw.cell hp))
  have HB := Lib.hid hbw
  have c5 : W.cell? ⟨w.heap.size, 5, none⟩ = some (.slice VA t.vars.length vc) := by rw [← hW]; exact (Blk.new w 42 #[.int .i64 t.k, .int .i64 t.n, .int .i64 t.i, .int .u64 t.b, .string ⟨t.t.toArray⟩, .slice VA t.vars.length vc, kv, .slice AA t.args.length ac]).cell 5
  have c7 : W.cell? ⟨w.heap.size, 7, none⟩ = some (.slice AA t.args.length ac) := by rw [← hW]; exact (Blk.new w 42 #[.int .i64 t.k, .int .i64 t.n, .int .i64 t.i, .int .u64 t.b, .string ⟨t.t.toArray⟩, .slice VA t.vars.length vc, kv, .slice AA t.args.length ac]).cell 7
  unfold BoxT at hW
  unfold tmVals
  obtain ⟨R, hR⟩ : ∃ R, fixOk L t = R := ⟨_, rfl⟩
  rw [hR]
  unfold fixOk at hR
  clear hN hT hA hbw
  generalize t.vars = vs at *
  generalize t.args = ws at *
  have HFE := Lib.hid (fun us => fixGo_end (L := L) (vs := vs) (ws := us))
  by_cases h0 : vs.length = 0
  · rw [if_pos (.inl h0)] at hR
    subst hR
    have q0 := b_true (show (vs.length : Int) = 0 by omega)
    clear h0
    go_enter Tryz.func32, Tryz.ntmps32
    go_wp2_with fail
    go_ret
    exact ⟨rfl, HB.out⟩
  · have q0 := b_false (show (vs.length : Int) ≠ 0 by omega)
    by_cases h1 : ws.length = vs.length + 1
    · rw [if_neg (by omega)] at hR
      have q1 := n_false (show (ws.length : Int) = (vs.length : Int) + 1 by omega)
      have HR := Lib.hid (show fixGo L (vs.drop 0) (ws.drop 0) = R from hR)
      have hw1 : vs.length < ws.length := by omega
      clear hR h0 h1
      go_enter Tryz.func32, Tryz.ntmps32
      go_wp2_with fail
      go_loopw [24] (fun iv wr => wr = W ∧ ∃ k : Nat, k ≤ vs.length ∧ iv = .int .i64 (k : Int) ∧ Hid (fixGo L (vs.drop k) (ws.drop k) = R)) (fun iv _ => vs.length - (intOf iv).toNat)
      case atStart => exact ⟨rfl, 0, Nat.zero_le _, rfl, HR⟩
      case round =>
        obtain ⟨rfl, k, hk, rfl, HK⟩ := hrel
        rcases Nat.lt_or_ge k vs.length with hlt | hge
        · obtain ⟨v, hv⟩ : ∃ v, vs[k]? = some v := ⟨_, List.getElem?_eq_getElem hlt⟩
          obtain ⟨a, ha⟩ : ∃ a, ws[k]? = some a := ⟨_, List.getElem?_eq_getElem (by omega)⟩
          obtain ⟨vd, rfl, _, cv⟩ := HV.out.at_ hv
          obtain ⟨wd, rfl, _, cw⟩ := HA.out.at_ ha
          have hab := HAA.out a (List.mem_of_getElem? ha)
          obtain ⟨x, rfl⟩ : ∃ x : Nat, a = (x : Int) := ⟨a.toNat, by omega⟩
          obtain ⟨u, hu⟩ : ∃ u, L[x]? = some u := ⟨_, List.getElem?_eq_getElem (by omega)⟩
          obtain ⟨nd, _, _, _, rfl, _, _, cn, _⟩ := HN.out.at_ hu
          have HK2 := HK.out
          rw [fixGo_step hv ha, show kindAt L (x : Int) = u.k by unfold kindAt; rw [Int.toNat_natCast, hu]] at HK2
          have m1 : (k : Int) < (vs.length : Int) := by omega
          have m2 : (k : Int) < (ws.length : Int) := by omega
          have m3 : (x : Int) < (L.length : Int) := by omega
          clear hv ha hu
          by_cases hv0 : v < 0
          · have qv := decide_eq_true hv0
            rw [qv, Bool.true_or, Bool.not_true, Bool.false_and] at HK2
            subst HK2
            clear hv0
            go_wp2_with fail
            go_ret
            exact ⟨rfl, HB.out⟩
          · have qv := decide_eq_false hv0
            rw [qv, Bool.false_or] at HK2
            by_cases h8 : u.k = 8
            · have q8 := n_false h8
              rw [q8, Bool.not_false, Bool.true_and] at HK2
              have HK3 := Lib.hid HK2
              clear HK2 h8 hv0
              go_wp2_with fail
              go_roundw
              case rel => exact ⟨by first | rfl | trivial, k + 1, by omega, by go_num, HK3⟩
              case measure => simp [intOf]; omega
            · have q8 := n_true h8
              rw [q8, Bool.not_true, Bool.false_and] at HK2
              subst HK2
              clear h8 hv0
              go_wp2_with fail
              go_ret
              exact ⟨rfl, HB.out⟩
        · obtain rfl : k = vs.length := by omega
          have HR2 := Lib.hid (show true = R by rw [← HK.out]; exact (HFE.out _).symm)
          have q : (vs.length : Int) ≤ (vs.length : Int) := Int.le_refl _
          clear hge hk
          go_wp2_with fail
          go_ret
          exact ⟨by rw [← HR2.out]; rfl, HB.out⟩
    · rw [if_pos (.inr h1)] at hR
      subst hR
      have q1 := n_true (show (ws.length : Int) ≠ (vs.length : Int) + 1 by omega)
      clear h0 h1
      go_enter Tryz.func32, Tryz.ntmps32
      go_wp2_with fail
      go_ret
      exact ⟨rfl, HB.out⟩

set_option maxRecDepth 100000 in
set_option maxHeartbeats 4000000 in
theorem rfix_any (L : List Tm) (t : Tm) (vl vv kv av : Value) (w : World) (hN : NV w w.heap.size vl L) (hT : TV w w.heap.size t vv kv av) (hA : ∀ a ∈ t.args, 0 ≤ a ∧ a < (L.length : Int)) :
    Calls Tryz.prog 38 #[vl, .agg (tmVals t vv kv av).toArray] w fun e w' => e = .returned (.bool (fixOk L t)) ∧ Below w.heap.size w w' := by
  obtain ⟨NA, nc, rfl, hn1, hn2⟩ := hN.len
  obtain ⟨VA, vc, rfl, hv1, hv2⟩ := hT.v.len
  obtain ⟨AA, ac, rfl, ha1, ha2⟩ := hT.a.len
  have lv := hT.lv
  have la := hT.la
  have HAA := Lib.hid hA
  obtain ⟨W, hW⟩ : ∃ W, w.alloc (BoxT t (.slice VA t.vars.length vc) kv (.slice AA t.args.length ac)) = W := ⟨_, rfl⟩
  have hbw : Below w.heap.size w W := by rw [← hW]; exact (Below.refl _ _).alloc (Nat.le_refl _) _
  have HN := Lib.hid (hN.keep (fun p hp => hbw.cell hp))
  have HV := Lib.hid (hT.v.keep (fun p hp => hbw.cell hp))
  have HA := Lib.hid (hT.a.keep (fun p hp => hbw.cell hp))
  have HB := Lib.hid hbw
  have c5 : W.cell? ⟨w.heap.size, 5, none⟩ = some (.slice VA t.vars.length vc) := by rw [← hW]; exact (Blk.new w 42 #[.int .i64 t.k, .int .i64 t.n, .int .i64 t.i, .int .u64 t.b, .string ⟨t.t.toArray⟩, .slice VA t.vars.length vc, kv, .slice AA t.args.length ac]).cell 5
  have c7 : W.cell? ⟨w.heap.size, 7, none⟩ = some (.slice AA t.args.length ac) := by rw [← hW]; exact (Blk.new w 42 #[.int .i64 t.k, .int .i64 t.n, .int .i64 t.i, .int .u64 t.b, .string ⟨t.t.toArray⟩, .slice VA t.vars.length vc, kv, .slice AA t.args.length ac]).cell 7
  unfold BoxT at hW
  unfold tmVals
  obtain ⟨R, hR⟩ : ∃ R, fixOk L t = R := ⟨_, rfl⟩
  rw [hR]
  unfold fixOk at hR
  clear hN hT hA hbw
  generalize t.vars = vs at *
  generalize t.args = ws at *
  have HFE := Lib.hid (fun us => fixGo_end (L := L) (vs := vs) (ws := us))
  by_cases h0 : vs.length = 0
  · rw [if_pos (.inl h0)] at hR
    subst hR
    have q0 := b_true (show (vs.length : Int) = 0 by omega)
    clear h0
    go_enter Tryz.func38, Tryz.ntmps38
    go_wp2_with fail
    go_ret
    exact ⟨rfl, HB.out⟩
  · have q0 := b_false (show (vs.length : Int) ≠ 0 by omega)
    by_cases h1 : ws.length = vs.length + 1
    · rw [if_neg (by omega)] at hR
      have q1 := n_false (show (ws.length : Int) = (vs.length : Int) + 1 by omega)
      have HR := Lib.hid (show fixGo L (vs.drop 0) (ws.drop 0) = R from hR)
      have hw1 : vs.length < ws.length := by omega
      clear hR h0 h1
      go_enter Tryz.func38, Tryz.ntmps38
      go_wp2_with fail
      go_loopw [5] (fun iv wr => wr = W ∧ ∃ k : Nat, k ≤ vs.length ∧ iv = .int .i64 (k : Int) ∧ Hid (fixGo L (vs.drop k) (ws.drop k) = R)) (fun iv _ => vs.length - (intOf iv).toNat)
      case atStart => exact ⟨rfl, 0, Nat.zero_le _, rfl, HR⟩
      case round =>
        obtain ⟨rfl, k, hk, rfl, HK⟩ := hrel
        rcases Nat.lt_or_ge k vs.length with hlt | hge
        · obtain ⟨v, hv⟩ : ∃ v, vs[k]? = some v := ⟨_, List.getElem?_eq_getElem hlt⟩
          obtain ⟨a, ha⟩ : ∃ a, ws[k]? = some a := ⟨_, List.getElem?_eq_getElem (by omega)⟩
          obtain ⟨vd, rfl, _, cv⟩ := HV.out.at_ hv
          obtain ⟨wd, rfl, _, cw⟩ := HA.out.at_ ha
          have hab := HAA.out a (List.mem_of_getElem? ha)
          obtain ⟨x, rfl⟩ : ∃ x : Nat, a = (x : Int) := ⟨a.toNat, by omega⟩
          obtain ⟨u, hu⟩ : ∃ u, L[x]? = some u := ⟨_, List.getElem?_eq_getElem (by omega)⟩
          obtain ⟨nd, _, _, _, rfl, _, _, cn, _⟩ := HN.out.at_ hu
          have HK2 := HK.out
          rw [fixGo_step hv ha, show kindAt L (x : Int) = u.k by unfold kindAt; rw [Int.toNat_natCast, hu]] at HK2
          have m1 : (k : Int) < (vs.length : Int) := by omega
          have m2 : (k : Int) < (ws.length : Int) := by omega
          have m3 : (x : Int) < (L.length : Int) := by omega
          clear hv ha hu
          by_cases hv0 : v < 0
          · have qv := decide_eq_true hv0
            rw [qv, Bool.true_or, Bool.not_true, Bool.false_and] at HK2
            subst HK2
            clear hv0
            go_wp2_with fail
            go_ret
            exact ⟨rfl, HB.out⟩
          · have qv := decide_eq_false hv0
            rw [qv, Bool.false_or] at HK2
            by_cases h8 : u.k = 8
            · have q8 := n_false h8
              rw [q8, Bool.not_false, Bool.true_and] at HK2
              have HK3 := Lib.hid HK2
              clear HK2 h8 hv0
              go_wp2_with fail
              go_roundw
              case rel => exact ⟨by first | rfl | trivial, k + 1, by omega, by go_num, HK3⟩
              case measure => simp [intOf]; omega
            · have q8 := n_true h8
              rw [q8, Bool.not_true, Bool.false_and] at HK2
              subst HK2
              clear h8 hv0
              go_wp2_with fail
              go_ret
              exact ⟨rfl, HB.out⟩
        · obtain rfl : k = vs.length := by omega
          have HR2 := Lib.hid (show true = R by rw [← HK.out]; exact (HFE.out _).symm)
          have q : (vs.length : Int) ≤ (vs.length : Int) := Int.le_refl _
          clear hge hk
          go_wp2_with fail
          go_ret
          exact ⟨by rw [← HR2.out]; rfl, HB.out⟩
    · rw [if_pos (.inr h1)] at hR
      subst hR
      have q1 := n_true (show (ws.length : Int) ≠ (vs.length : Int) + 1 by omega)
      clear h0 h1
      go_enter Tryz.func38, Tryz.ntmps38
      go_wp2_with fail
      go_ret
      exact ⟨rfl, HB.out⟩
end Go.Proofs.YtmedfpejfpdpdaaGreatDoor
