/- Cps: a JFix: the program's fixed, the reference's fix. -/
import Derived.Test.YtjhdlnllhjffkaaGreatDoorCpsD
namespace Go.Proofs.YtjhdlnllhjffkaaGreatDoor
open Go.RowKit LamM CpsM

theorem fixGoC_step {L : List Fl} {vs ws : List Int} {k : Nat} {v a : Int} (hv : vs[k]? = some v) (ha : ws[k]? = some a) :
    fixGoC L (vs.drop k) (ws.drop k) = (!(decide (v < 0) || kindC L a != 10) && fixGoC L (vs.drop (k + 1)) (ws.drop (k + 1))) := by
  rw [drop_at hv, drop_at ha]; rfl
theorem fixGoC_end {L : List Fl} {vs ws : List Int} : fixGoC L (vs.drop vs.length) ws = true := by
  rw [List.drop_length]; cases ws <;> rfl
/-- All kinds are functions', below a place. -/
def tenB (L : List Fl) (ws : List Int) : Bool := ws.all fun a => kindC L a == 10
theorem fixGo_split {L : List Fl} : ∀ (vs ws : List Int), vs.length ≤ ws.length → fixGoC L vs ws = ((vs.all fun x => !decide (x < 0)) && tenB L (ws.take vs.length))
  | [], ws, _ => by cases ws <;> rfl
  | v :: vs, [], h => by simp at h
  | v :: vs, a :: ws, h => by
    have ih := fixGo_split (L := L) vs ws (by simpa using h)
    show (!(decide (v < 0) || kindC L a != 10) && fixGoC L vs ws) = _
    rw [ih, List.all_cons, List.length_cons, List.take_succ_cons]
    unfold tenB
    rw [List.all_cons]
    unfold bne
    cases decide (v < 0) <;> cases (kindC L a == 10) <;> simp
theorem ten_no {L : List Fl} {ws : List Int} {k n : Nat} {a : Int} (h : ws[k]? = some a) (hk : k < n) (hx : (kindC L a == 10) = false) : tenB L (ws.take n) = false := by
  rw [Bool.eq_false_iff]
  intro hc
  have := List.all_eq_true.1 hc a (List.mem_of_getElem? (i := k) (by rw [List.getElem?_take, if_pos hk]; exact h))
  rw [hx] at this
  cases this
theorem ten_yes {L : List Fl} {ws : List Int} {n : Nat} (h : ∀ j a, j < n → ws[j]? = some a → (kindC L a == 10) = true) : tenB L (ws.take n) = true := by
  unfold tenB
  rw [List.all_eq_true]
  intro x hx
  obtain ⟨j, hj, e⟩ := List.getElem_of_mem hx
  rw [List.length_take] at hj
  refine h j x (by omega) ?_
  rw [List.getElem_take] at e
  rw [← e]
  exact List.getElem?_eq_getElem _
theorem last_drop {ws : List Int} {n : Nat} {a : Int} (hl : ws.length = n + 1) (h : ws[n]? = some a) : ws.drop n = [a] := by
  rw [drop_at h, List.drop_eq_nil_of_le (by omega)]

set_option maxRecDepth 100000 in
set_option maxHeartbeats 4000000 in
theorem cfixed_any (L : List Fl) (t : Fl) (vl vv kv av : Value) (w : World) (hN : NF w w.heap.size vl L) (hT : FV w w.heap.size t vv kv av) (hA : ∀ a ∈ t.args, 0 ≤ a ∧ a < (L.length : Int)) :
    Calls Tryz.prog 149 #[vl, .agg (flVals t vv kv av).toArray] w fun e w' => e = .returned (.bool (fixOkC L t)) ∧ Below w.heap.size w w' := by
  obtain ⟨NA, nc, rfl, hn1, hn2⟩ := hN.len
  obtain ⟨VA, vc, rfl, hv1, hv2⟩ := hT.v.len
  obtain ⟨AA, ac, rfl, ha1, ha2⟩ := hT.a.len
  have lv := hT.lv
  have la := hT.la
  have HAA := Lib.hid hA
  obtain ⟨W, hW⟩ : ∃ W, w.alloc (BoxF t (.slice VA t.vars.length vc) kv (.slice AA t.args.length ac)) = W := ⟨_, rfl⟩
  have hbw : Below w.heap.size w W := by rw [← hW]; exact (Below.refl _ _).alloc (Nat.le_refl _) _
  have HX := Lib.hid (show Blk W w.heap.size 43 #[.int .i64 t.k, .int .i64 t.n, .int .i64 t.m, .int .i64 t.i, .int .u64 t.b, .string ⟨t.t.toArray⟩, .slice VA t.vars.length vc, kv, .slice AA t.args.length ac] by rw [← hW]; exact Blk.new _ _ _)
  have HN := Lib.hid (hN.below hbw)
  have HV := Lib.hid (hT.v.below hbw)
  have HA := Lib.hid (hT.a.below hbw)
  have HB := Lib.hid hbw
  have c6 : W.cell? ⟨w.heap.size, 6, none⟩ = some (.slice VA t.vars.length vc) := HX.out.cell 6
  have c8 : W.cell? ⟨w.heap.size, 8, none⟩ = some (.slice AA t.args.length ac) := HX.out.cell 8
  unfold BoxF at hW
  unfold flVals
  obtain ⟨R, hR⟩ : ∃ R, fixOkC L t = R := ⟨_, rfl⟩
  rw [hR]
  unfold fixOkC at hR
  clear hN hT hA hbw
  have HX6 := Lib.hid (fun w2 (h : Below W.heap.size W w2) => HX.out.below h HX.out.lt)
  clear HX
  generalize t.vars = vs at *
  generalize t.args = ws at *
  have HFE := Lib.hid (fun us => fixGoC_end (L := L) (vs := vs) (ws := us))
  by_cases h0 : vs.length = 0
  · have h1 := h0
    rw [decide_eq_false (fun h => h.1 h0), Bool.false_and] at hR
    subst hR
    have q0 := b_true (show (vs.length : Int) = 0 by omega)
    clear h0 h1
    go_enter Tryz.func149, Tryz.ntmps149
    go_wp2_with fail
    go_ret
    exact ⟨rfl, HB.out⟩
  · have q0 := b_false (show (vs.length : Int) ≠ 0 by omega)
    by_cases h1 : ws.length = vs.length + 1
    · rw [decide_eq_true ⟨h0, h1⟩, Bool.true_and] at hR
      have q1 := n_false (show (ws.length : Int) = (vs.length : Int) + 1 by omega)
      obtain ⟨al, hal⟩ : ∃ a, ws[vs.length]? = some a := ⟨_, List.getElem?_eq_getElem (by omega)⟩
      obtain ⟨wd, rfl, _, _⟩ := HA.out.at_ hal
      have hne : ¬ ac = vs.length := by omega
      have hd := iv_drop HA.out (k := vs.length) (by omega)
      rw [if_neg hne] at hd
      have HD := Lib.hid (show IV W W.heap.size (.slice (some (wd.add vs.length)) (ws.length - vs.length) (ac - vs.length)) (ws.drop vs.length) from hd)
      have HMV := Lib.hid (cmoves_any L (ws.drop vs.length) _ _ W HN.out (fun a ha => HAA.out a (List.mem_of_mem_drop ha)) HD.out)
      have hw1 : vs.length < ws.length := by omega
      have hw2 : (vs.length : Int) ≤ (ws.length : Int) := by omega
      clear h0 h1 hal hd
      cases hmv : movesB L (ws.drop vs.length)
      · rw [hmv] at hR HMV
        obtain rfl : R = false := by rw [← hR]; rfl
        clear hR hmv
        go_enter Tryz.func149, Tryz.ntmps149
        go_wp2_with (go_at_call 83; ((with_reducible refine (HMV.out).mono ?_); rintro e w2 ⟨rfl, hb2⟩; have HB2 := Lib.hid (HB.out.trans (hb2.mono HB.out.size)); clear hb2))
        go_ret
        exact ⟨rfl, HB2.out⟩
      · rw [hmv, Bool.true_and] at hR
        rw [hmv] at HMV
        have HR := Lib.hid (show fixGoC L (vs.drop 0) (ws.drop 0) = R from hR)
        clear hR hmv
        go_enter Tryz.func149, Tryz.ntmps149
        go_wp2_with (go_at_call 83; ((with_reducible refine (HMV.out).mono ?_); rintro e w2 ⟨rfl, hb2⟩; have HB2 := Lib.hid (HB.out.trans (hb2.mono HB.out.size)); have HN2 := Lib.hid (HN.out.below hb2); have HV2 := Lib.hid (HV.out.below hb2); have HA2 := Lib.hid (HA.out.below hb2); have HX2 := Lib.hid (HX6.out w2 hb2); clear hb2 c6 c8; have c6 := HX2.out.cell 6; have c8 := HX2.out.cell 8; simp at c6 c8))
        go_loopw [33] (fun iv wr => wr = w2 ∧ ∃ k : Nat, k ≤ vs.length ∧ iv = .int .i64 (k : Int) ∧ Hid (fixGoC L (vs.drop k) (ws.drop k) = R)) (fun iv _ => vs.length - (intOf iv).toNat)
        case atStart => exact ⟨rfl, 0, Nat.zero_le _, rfl, HR⟩
        case round =>
          obtain ⟨rfl, k, hk, rfl, HK⟩ := hrel
          rcases Nat.lt_or_ge k vs.length with hlt | hge
          · obtain ⟨v, hv⟩ : ∃ v, vs[k]? = some v := ⟨_, List.getElem?_eq_getElem hlt⟩
            obtain ⟨a, ha⟩ : ∃ a, ws[k]? = some a := ⟨_, List.getElem?_eq_getElem (by omega)⟩
            obtain ⟨vd, rfl, _, cv⟩ := HV2.out.at_ hv
            obtain ⟨wd', hwd, _, cw⟩ := HA2.out.at_ ha
            obtain rfl := Option.some.inj hwd
            have hab := HAA.out a (List.mem_of_getElem? ha)
            obtain ⟨x, rfl⟩ : ∃ x : Nat, a = (x : Int) := ⟨a.toNat, by omega⟩
            obtain ⟨u, hu⟩ : ∃ u, L[x]? = some u := ⟨_, List.getElem?_eq_getElem (by omega)⟩
            obtain ⟨nd, _, _, _, rfl, _, _, cn, _⟩ := HN2.out.at_ hu
            have HK2 := HK.out
            rw [fixGoC_step hv ha, kindC_at (by rw [Int.toNat_natCast]; exact hu)] at HK2
            have m1 : (k : Int) < (vs.length : Int) := by omega
            have m2 : (k : Int) < (ws.length : Int) := by omega
            have m3 : (x : Int) < (L.length : Int) := by omega
            clear hv ha hu hwd
            by_cases hv0 : v < 0
            · have qv := decide_eq_true hv0
              rw [qv, Bool.true_or, Bool.not_true, Bool.false_and] at HK2
              subst HK2
              clear hv0
              go_wp2_with fail
              go_ret
              exact ⟨rfl, HB2.out⟩
            · have qv := decide_eq_false hv0
              rw [qv, Bool.false_or] at HK2
              by_cases h8 : u.k = 10
              · have q8 := n_false h8
                rw [q8, Bool.not_false, Bool.true_and] at HK2
                have HK3 := Lib.hid HK2
                clear HK2 h8 hv0
                go_wp2_with fail
                go_roundw
                case rel => exact ⟨by first | rfl | trivial, k + 1, by omega, by go_num, HK3⟩
                case measure => simp [intOf]; omega
              · have q8 := n_true h8
                rw [q8, Bool.not_true, Bool.false_and] at HK2
                subst HK2
                clear h8 hv0
                go_wp2_with fail
                go_ret
                exact ⟨rfl, HB2.out⟩
          · obtain rfl : k = vs.length := by omega
            have HR2 := Lib.hid (show true = R by rw [← HK.out]; exact (HFE.out _).symm)
            have q : (vs.length : Int) ≤ (vs.length : Int) := Int.le_refl _
            clear hge hk
            go_wp2_with fail
            go_ret
            exact ⟨by rw [← HR2.out]; rfl, HB2.out⟩
    · rw [decide_eq_false (fun h => h1 h.2), Bool.false_and] at hR
      subst hR
      have q1 := n_true (show (ws.length : Int) ≠ (vs.length : Int) + 1 by omega)
      clear h0 h1
      go_enter Tryz.func149, Tryz.ntmps149
      go_wp2_with fail
      go_ret
      exact ⟨rfl, HB.out⟩

end Go.Proofs.YtjhdlnllhjffkaaGreatDoor
