/- Close: bodies. Close: which nodes several roots make: the program's below. -/
import Derived.Test.YtjhdlnllhjffkaaGreatDoorCloMg
import Derived.Test.YtjhdlnllhjffkaaGreatDoorCloMn
import Derived.Test.YtjhdlnllhjffkaaGreatDoorCpsA
namespace Go.Proofs.YtjhdlnllhjffkaaGreatDoor
open Go.RowKit LamM CpsM CloM

def bodiesF (L : List Fl) (fs : List FnD) (entry : Int) : Int :=
  if entry < 0 ∨ (fs.length : Int) ≤ entry then 150 else if paramsAt fs entry ≠ [] then 150 else if fs.all (bodyOk L) = false then 150 else 0
theorem bodies_yes {L : List Fl} {fs : List FnD} (h : ∀ j f, j < fs.length → fs[j]? = some f → bodyOk L f = true) : fs.all (bodyOk L) = true :=
  List.all_eq_true.2 fun f hf => by
    obtain ⟨j, hj⟩ := List.mem_iff_getElem?.1 hf
    exact h j f (List.getElem?_eq_some_iff.1 hj).1 hj
theorem bodies_no {L : List Fl} {fs : List FnD} {j : Nat} {f : FnD} (h : fs[j]? = some f) (hf : bodyOk L f = false) : fs.all (bodyOk L) = false :=
  all_false.2 ⟨f, List.mem_of_getElem? h, hf⟩
set_option maxRecDepth 100000 in
set_option maxHeartbeats 4000000 in
theorem bodies_any (L : List Fl) (fs : List FnD) (vl fv : Value) (entry : Int) (w : World) (hN : NF w w.heap.size vl L) (hF : FnV w w.heap.size fv fs) :
    Calls Tryz.prog 7 #[.agg #[vl, fv, .int .i64 entry]] w fun e w' => e = .returned (.int .i64 (bodiesF L fs entry)) ∧ Below w.heap.size w w' := by
  obtain ⟨NA, nc, rfl, hn1, hn2⟩ := hN.len
  obtain ⟨FA, fc, rfl, hf1, hf2⟩ := hF.len
  obtain ⟨W, hW⟩ : ∃ W, w.alloc (.cells #[.slice NA L.length nc, .slice FA fs.length fc, .int .i64 entry] 25) = W := ⟨_, rfl⟩
  have hb1 : Below w.heap.size w W := by rw [← hW]; exact (Below.refl _ _).alloc (Nat.le_refl _) _
  have HB := Lib.hid hb1
  have HX := Lib.hid (show Blk W w.heap.size 25 #[.slice NA L.length nc, .slice FA fs.length fc, .int .i64 entry] by rw [← hW]; exact Blk.new _ _ _)
  have HN := Lib.hid (hN.below hb1)
  have HF := Lib.hid (hF.below hb1)
  have c0 : W.cell? ⟨w.heap.size, 0, none⟩ = some (.slice NA L.length nc) := HX.out.cell 0
  have c1 : W.cell? ⟨w.heap.size, 1, none⟩ = some (.slice FA fs.length fc) := HX.out.cell 1
  have c2 : W.cell? ⟨w.heap.size, 2, none⟩ = some (.int .i64 entry) := HX.out.cell 2
  obtain ⟨R, hR⟩ : ∃ R, bodiesF L fs entry = R := ⟨_, rfl⟩
  rw [hR]
  unfold bodiesF at hR
  clear hN hF hb1
  by_cases h0 : entry < 0
  · have q0 := decide_eq_true h0
    rw [if_pos (.inl h0)] at hR
    subst hR
    clear h0
    go_enter Tryz.func7, Tryz.ntmps7
    go_wp2_with fail
    go_ret
    exact ⟨rfl, HB.out⟩
  have q0 := decide_eq_false h0
  by_cases h1 : (fs.length : Int) ≤ entry
  · have q1 := decide_eq_true h1
    rw [if_pos (.inr h1)] at hR
    subst hR
    clear h0 h1
    go_enter Tryz.func7, Tryz.ntmps7
    go_wp2_with fail
    go_ret
    exact ⟨rfl, HB.out⟩
  have q1 := decide_eq_false h1
  rw [if_neg (by omega)] at hR
  obtain ⟨j, rfl⟩ : ∃ j : Nat, entry = (j : Int) := ⟨entry.toNat, by omega⟩
  obtain ⟨f, hf⟩ : ∃ f, fs[j]? = some f := ⟨_, List.getElem?_eq_getElem (by omega)⟩
  obtain ⟨fad, PA, pc, rfl, hfb, hfp, _, hfl, d0, d1⟩ := HF.out.at2 hf
  have hpe : paramsAt fs (j : Int) = f.params := by unfold paramsAt; rw [Int.toNat_natCast, hf]
  rw [hpe] at hR
  have hj1 : (j : Int) < (fs.length : Int) := by omega
  have hj2 : decide (fs.length ≤ j) = false := decide_eq_false (by omega)
  by_cases h2 : f.params = []
  · rw [if_neg (by simp [h2])] at hR
    rw [show f.params.length = 0 by rw [h2]; rfl] at d0
    have HY := Lib.hid (bodies_yes (L := L) (fs := fs))
    have HNO := Lib.hid (fun (j : Nat) (f : FnD) (h : fs[j]? = some f) (hf : bodyOk L f = false) => bodies_no h hf)
    have HR := Lib.hid hR
    clear h0 h1 hf hpe h2 hR hfp hfb hfl
    go_enter Tryz.func7, Tryz.ntmps7
    go_wp2_with fail
    clear c2 d0 d1 q0 q1 hj1 hj2
    go_loopw [30] (fun i wr => Hid (Below W.heap.size W wr) ∧ ∃ k : Nat, k ≤ fs.length ∧ i = .int .i64 (k : Int) ∧ Hid (∀ j f, j < k → fs[j]? = some f → bodyOk L f = true)) (fun i _ => fs.length - (intOf i).toNat)
    case atStart => exact ⟨Lib.hid (Below.refl _ _), 0, Nat.zero_le _, rfl, Lib.hid (fun j f h => by omega)⟩
    case round =>
      obtain ⟨HW, k, hk, rfl, HK⟩ := hrel
      rcases Nat.lt_or_ge k fs.length with hlt | hge
      · obtain ⟨f, hf⟩ : ∃ f, fs[k]? = some f := ⟨_, List.getElem?_eq_getElem hlt⟩
        obtain ⟨adx, PA, pc, hadE, hfb, hfp, hrg, hfl, d0, d1⟩ := (HF.out.below HW.out).at2 hf
        obtain rfl := Option.some.inj hadE
        have hm : (k : Int) < (fs.length : Int) := by omega
        obtain ⟨W2, hW2⟩ : ∃ W2, wr.alloc (.cells #[.slice PA f.params.length pc, .int .i64 f.body] 33) = W2 := ⟨_, rfl⟩
        have hb2 : Below W.heap.size W W2 := by rw [← hW2]; exact HW.out.alloc HW.out.size _
        have HW2 := Lib.hid hb2
        have HY2 := Lib.hid (show Blk W2 wr.heap.size 33 #[.slice PA f.params.length pc, .int .i64 f.body] by rw [← hW2]; exact Blk.new _ _ _)
        have HX2 := Lib.hid (HX.out.below hb2 HX.out.lt)
        have e0 : W2.cell? ⟨wr.heap.size, 0, none⟩ = some (.slice PA f.params.length pc) := HY2.out.cell 0
        have e1 : W2.cell? ⟨wr.heap.size, 1, none⟩ = some (.int .i64 f.body) := HY2.out.cell 1
        have c0 : W2.cell? ⟨w.heap.size, 0, none⟩ = some (.slice NA L.length nc) := HX2.out.cell 0
        have HFP := Lib.hid (show IV W2 W2.heap.size (.slice PA f.params.length pc) f.params from (hfp.keep (fun p hp => by rw [← hW2]; exact World.cell?_of_block (Below.heap_alloc _ _ _ (by have := hp; omega)))).more (by rw [← hW2]; simp))
        have HPR := Lib.hid (fparams_any f.params _ _ W2 HFP.out)
        by_cases h0 : f.body < 0
        · have q0 := decide_eq_true h0
          have hbo : bodyOk L f = false := by unfold bodyOk; rw [decide_eq_false (by omega)]; rfl
          have hRR := HR.out
          rw [if_pos (HNO.out k f hf hbo)] at hRR
          subst hRR
          clear hadE hf hfp hrg h0 hbo hb2 hfb
          go_wp2_with fail
          go_ret
          exact ⟨rfl, HB.out.trans (HW2.out.mono HB.out.size)⟩
        have q0 := decide_eq_false h0
        by_cases h1 : (L.length : Int) ≤ f.body
        · have q1 := decide_eq_true h1
          have hbo : bodyOk L f = false := by unfold bodyOk; rw [decide_eq_false (by omega)]; rfl
          have hRR := HR.out
          rw [if_pos (HNO.out k f hf hbo)] at hRR
          subst hRR
          clear hadE hf hfp hrg h0 h1 hbo hb2 hfb
          go_wp2_with fail
          go_ret
          exact ⟨rfl, HB.out.trans (HW2.out.mono HB.out.size)⟩
        have q1 := decide_eq_false h1
        obtain ⟨x, hx⟩ : ∃ x : Nat, f.body = (x : Int) := ⟨f.body.toNat, by omega⟩
        obtain ⟨t, ht⟩ : ∃ t, L[x]? = some t := ⟨_, List.getElem?_eq_getElem (by omega)⟩
        obtain ⟨nad, vv, kv, av, rfl, hnb, htv, a0, _⟩ := (HN.out.below HW2.out).at9 ht
        have hkx : kindC L f.body = t.k := kindC_at (by rw [hx, Int.toNat_natCast]; exact ht)
        have HMV := Lib.hid (fun w' => fmove_any t.k w')
        have hxl : (x : Int) < (L.length : Int) := by omega
        have hx2 : decide (L.length ≤ x) = false := decide_eq_false (by omega)
        rw [hx] at q0 q1 e1 hW2 d1
        cases hmv : moveG t.k
        · rw [hmv] at HMV
          have hbo : bodyOk L f = false := by unfold bodyOk; rw [hkx, hmv]; simp
          have hRR := HR.out
          rw [if_pos (HNO.out k f hf hbo)] at hRR
          subst hRR
          clear hadE hf hfp hrg h0 h1 hbo hb2 hfb hx ht hnb htv hkx hmv
          go_wp2_with (go_at_call 24; ((with_reducible refine (HMV.out _).mono ?_); rintro e w' ⟨rfl, rfl⟩))
          go_ret
          exact ⟨rfl, HB.out.trans (HW2.out.mono HB.out.size)⟩
        · rw [hmv] at HMV
          cases hpg : parG f.params
          · rw [hpg] at HPR
            have hbo : bodyOk L f = false := by unfold bodyOk; rw [hpg]; simp
            have hRR := HR.out
            rw [if_pos (HNO.out k f hf hbo)] at hRR
            subst hRR
            clear hadE hf hfp hrg h0 h1 hbo hb2 hfb hx ht hnb htv hkx hmv hpg
            go_wp2_with (first
              | (go_at_call 24; ((with_reducible refine (HMV.out _).mono ?_); rintro e w' ⟨rfl, rfl⟩))
              | (go_at_call 25; ((with_reducible refine (HPR.out).mono ?_); rintro e w5 ⟨rfl, ho5⟩; have HW5 := Lib.hid (below_only HW2.out ho5 (fun k h => by cases h) HW2.out.size); clear ho5)))
            go_ret
            exact ⟨rfl, HB.out.trans (HW5.out.mono HB.out.size)⟩
          · rw [hpg] at HPR
            have hbo : bodyOk L f = true := by unfold bodyOk; rw [hkx, hmv, hpg, decide_eq_true (by omega)]; rfl
            have HK2 := Lib.hid (show ∀ j g, j < k + 1 → fs[j]? = some g → bodyOk L g = true from fun j g hj hg => by
              rcases Nat.lt_or_ge j k with h3 | h3
              · exact HK.out j g h3 hg
              · obtain rfl : j = k := by omega
                rw [hf] at hg; rw [← Option.some.inj hg]; exact hbo)
            clear hadE hf hfp hrg h0 h1 hbo hb2 hfb hx ht hnb htv hkx hmv hpg
            go_wp2_with (first
              | (go_at_call 24; ((with_reducible refine (HMV.out _).mono ?_); rintro e w' ⟨rfl, rfl⟩))
              | (go_at_call 25; ((with_reducible refine (HPR.out).mono ?_); rintro e w5 ⟨rfl, ho5⟩; have HW5 := Lib.hid (below_only HW2.out ho5 (fun k h => by cases h) HW2.out.size); clear ho5)))
            go_roundw
            case rel =>
              exact ⟨HW5, k + 1, by omega, by go_num, HK2⟩
            case measure => simp [intOf]; omega
      · have q : ¬ (k : Int) < (fs.length : Int) := by omega
        have hRR := HR.out
        rw [if_neg (by rw [HY.out (fun j f hj hf => HK.out j f (by omega) hf)]; simp)] at hRR
        subst hRR
        clear hge hk
        go_wp2_with fail
        go_ret
        exact ⟨rfl, HB.out.trans (HW.out.mono HB.out.size)⟩
  · rw [if_pos h2] at hR
    have hpos : 0 < f.params.length := List.length_pos_iff.2 h2
    obtain ⟨pl, hpl⟩ : ∃ pl, f.params.length = pl := ⟨_, rfl⟩
    rw [hpl] at d0 hpos
    have q2 := decide_eq_true (show (0 : Int) < (pl : Int) by omega)
    have q3 : (0 : Int) < (pl : Int) := by omega
    subst hR
    clear h0 h1 hf hpe h2 hfp hfb hfl hpl
    go_enter Tryz.func7, Tryz.ntmps7
    go_wp2_with fail
    go_ret
    exact ⟨rfl, HB.out⟩
end Go.Proofs.YtjhdlnllhjffkaaGreatDoor

namespace Go.Proofs.YtjhdlnllhjffkaaGreatDoor
open Go.RowKit LamM CpsM CloM

theorem rootsB_nil : rootsB [] = fun _ => false := rfl
theorem rootsB_snoc {l : List Int} {m x : Nat} (h : l[m]? = some (x : Int)) : upd (rootsB (l.take m)) x = rootsB (l.take (m + 1)) := by
  funext j
  rw [← take_snoc h]
  unfold rootsB upd
  rw [Bool.eq_iff_iff, Bool.or_eq_true, List.contains_iff_mem, List.contains_iff_mem, List.mem_append, List.mem_singleton, beq_iff_eq]
  constructor
  · rintro (h | h)
    · exact .inr (by omega)
    · exact .inl h
  · rintro (h | h)
    · exact .inr h
    · exact .inl (by omega)
/-- What the program's below hands back. -/
def BelowM (L : List Tm) (roots : List Int) (n : Nat) (w : World) (e : Ending) (w' : World) : Prop :=
  ∃ v, e = .returned (.tuple #[v, .bool (belowM L roots).2]) ∧ ((belowM L roots).2 = true → ∃ g, v = .slice (some ⟨g, 0, none⟩) n n ∧ w.heap.size ≤ g ∧ w'.ownsRow g 4 1 (.slice (some ⟨g, 0, none⟩) n n) n (boolVals n (belowM L roots).1)) ∧ Below w.heap.size w w'
set_option maxRecDepth 100000 in
set_option maxHeartbeats 4000000 in
theorem fbelow_any (L : List Fl) (A : Option Addr) (c n : Nat) (roots : List Int) (rv : Value) (w : World) (hn : n = L.length) (h0 : 0 < n) (hN : NF w w.heap.size (.slice A L.length c) L) (hV : IV w w.heap.size rv roots) (hr : ∀ r ∈ roots, 0 ≤ r ∧ r < (L.length : Int)) :
    Calls Tryz.prog 8 #[.slice A L.length c, rv] w (BelowM (tms L) roots n w) := by
  obtain ⟨i0, hi0, hz0, hz1, hz2⟩ := info_parts infoB
  obtain ⟨A', c', e, hc1, hc2⟩ := hN.len
  injection e with e1 e2 e3
  subst e1 e3
  obtain ⟨RA, rc, rfl, hr1, hr2⟩ := hV.len
  have hrl : roots.length ≤ 9223372036854775807 := by unfold maxLen at hr2; omega
  obtain ⟨T, hT⟩ : ∃ T, belowM (tms L) roots = T := ⟨_, rfl⟩
  have HT := Lib.hid hT
  have HTB : Hid (belowF (tms L) n (rootsB roots, true) = T) := Lib.hid (by rw [hn, ← tms_len L]; exact hT)
  have HN := Lib.hid hN
  have HV := Lib.hid hV
  have HR := Lib.hid (show ∀ r ∈ roots, 0 ≤ r ∧ r < (n : Int) from fun r h => by rw [hn]; exact hr r h)
  have HNL := Lib.hid hn
  have hnl : n ≤ 1300000000000 := by omega
  rw [← hn]
  clear hN hT hV hr hn
  unfold BelowM
  rw [HT.out]
  go_enter Tryz.func8, Tryz.ntmps8
  go_wp2_with (refine wpList_make_full _ rfl _ _ _ rfl w.heap.size 4 i0 (.bool false) 1 undB hi0 hz0 hz1 _ _ _ _ n rfl rfl (by omega) (by omega) (by rw [hz2]; have := HNL.out; omega) (by unfold maxLen; have := HNL.out; omega) (Nat.le_refl _) ?_)
  intro w1 hown1 hgrow1
  rw [boolVals_made] at hown1
  have hbel1 : Below w.heap.size w w1 := (Below.refl _ _).grown hgrow1 (Nat.le_refl _) (fun k hk => by cases hk)
  obtain ⟨g, hg⟩ : ∃ g, g = w.heap.size := ⟨_, rfl⟩
  rw [← hg] at hown1 ⊢
  have HO1 := Lib.hid (show w1.ownsRow g 4 1 (.slice (some ⟨g, 0, none⟩) n n) n (boolVals n (rootsB (roots.take 0))) from hown1)
  have HBE1 := Lib.hid hbel1
  have HG := Lib.hid hg
  have hg2 : w.heap.size ≤ g := by omega
  clear hown1 hgrow1 hbel1 hg
  go_wp2
  go_loopw [17] (fun ix wr => ∃ m : Nat, m ≤ roots.length ∧ ix = .int .i64 (m : Int) ∧ Hid (wr.ownsRow g 4 1 (.slice (some ⟨g, 0, none⟩) n n) n (boolVals n (rootsB (roots.take m)))) ∧ Hid (Below w.heap.size w wr)) (fun ix _ => roots.length - (intOf ix).toNat)
  case atStart => exact ⟨0, Nat.zero_le _, rfl, HO1, HBE1⟩
  case round =>
    obtain ⟨m, hm, rfl, HOW, HB⟩ := hrel
    rcases Nat.lt_or_ge m roots.length with hlt | hge
    · obtain ⟨a, ha⟩ : ∃ a, roots[m]? = some a := ⟨_, List.getElem?_eq_getElem hlt⟩
      obtain ⟨aa, rfl, haa, ca2⟩ := (HV.out.keep (fun p hp => HB.out.cell hp)).at_ ha
      obtain ⟨h1, h2⟩ := HR.out a (List.mem_of_getElem? ha)
      obtain ⟨x, rfl⟩ : ∃ x : Nat, a = (x : Int) := ⟨a.toNat, by omega⟩
      have hx1 : (x : Int) < (n : Int) := h2
      have cx := World.ownsRow.cellAt HOW.out x (by omega)
      rw [boolVals_get (by omega)] at cx
      have fx := World.ownsRow.frozenAt HOW.out x
      have hst := (World.ownsRow.stored HOW.out x (.bool true)).1
      rw [boolVals_set (by omega), rootsB_snoc ha] at hst
      have HO3 := Lib.hid hst
      have HB3 := Lib.hid (HB.out.setCell (p := ⟨g, x, none⟩) (by show w.heap.size ≤ g; omega) (.bool true))
      have hm1 : (m : Int) < (roots.length : Int) := by omega
      clear hst h1 h2 ha
      go_wp2_with fail
      go_roundw
      case rel => exact ⟨m + 1, by omega, by go_num, HO3, HB3⟩
      case measure => simp [intOf]; omega
    · have q0 : (roots.length : Int) ≤ (m : Int) := by omega
      have HOA := Lib.hid (show wr.ownsRow g 4 1 (.slice (some ⟨g, 0, none⟩) n n) n (boolVals n (rootsB roots)) by have := HOW.out; rwa [List.take_of_length_le hge] at this)
      clear hge hm
      go_wp2_with fail
      obtain ⟨wo, rfl⟩ : ∃ wo, wo = wr := ⟨_, rfl⟩
      go_loopw [9] (fun i wr => ∃ (k : Nat) (f : Nat → Bool), k ≤ n ∧ AtI k i ∧ Hid (belowF (tms L) k (f, true) = T) ∧ Hid (wr.ownsRow g 4 1 (.slice (some ⟨g, 0, none⟩) n n) n (boolVals n f)) ∧ Hid (Below w.heap.size w wr)) (fun i _ => (intOf i + 1).toNat)
      case atStart =>
        have hw : wrap64 ((n : Int) - 1) = (n : Int) - 1 := IntWalk.wrap64_in _ (by have := HNL.out; omega)
        exact ⟨n, _, Nat.le_refl _, by first | exact AtI.start n | (rw [hw]; exact AtI.start n), HTB, HOA, HB⟩
      case round =>
        obtain ⟨k, f, hk, hi, HQ, HOW, HB⟩ := hrel
        rcases hi with ⟨rfl, rfl⟩ | ⟨j, rfl, rfl⟩
        · have hQ : T = (f, true) := HQ.out.symm
          have HO := Lib.hid (show T.1 = f ∧ T.2 = true by rw [hQ]; exact ⟨rfl, rfl⟩)
          have hgw : w.heap.size ≤ g := by omega
          clear hQ
          go_wp2_with fail
          go_ret2
          exact ⟨.slice (some ⟨g, 0, none⟩) n n, by rw [HO.out.2]; rfl, fun _ => ⟨g, rfl, hgw, by rw [HO.out.1]; exact HOW.out⟩, HB.out⟩
        · have hjn : j < n := by omega
          have hjn1 : (j : Int) < (n : Int) := by omega
          have cj := World.ownsRow.cellAt HOW.out j (by omega)
          rw [boolVals_get hjn] at cj
          cases hf : f j
          · rw [hf] at cj
            have HQ2 := Lib.hid (show belowF (tms L) j (f, true) = T by have := HQ.out; unfold belowF at this; rw [show (f, true).1 j = false from hf, if_neg (by decide)] at this; exact this)
            clear hf
            go_wp2_with fail
            go_roundw
            case rel =>
              have hs := AtI.start j
              exact ⟨j, f, by omega, hs, HQ2, HOW, HB⟩
            case measure => simp [intOf]
          · rw [hf] at cj
            obtain ⟨t, ht⟩ : ∃ t, L[j]? = some t := ⟨_, List.getElem?_eq_getElem (by have := HNL.out; omega)⟩
            have HA := Lib.hid (show argsAt (tms L) j = t.args from argsC_at ht)
            have HQ2 := Lib.hid (show belowF (tms L) j (stepA j t.args (f, true)) = T by have := HQ.out; unfold belowF at this; rw [show (f, true).1 j = true from hf, if_pos rfl, HA.out] at this; exact this)
            have hNr := HN.out.keep (fun p hp => HB.out.cell hp)
            obtain ⟨ad, vv, kv, av, rfl, had, htv, _, _, _, _, _, _, _, _, ca⟩ := hNr.at_ ht
            rw [cell_spell] at ca
            obtain ⟨Aa, na, rfl, hna, hnm⟩ := htv.a.len
            have hal : t.args.length ≤ 9223372036854775807 := by unfold maxLen at hnm; omega
            have HVA := Lib.hid htv.a
            have HRA := Lib.hid htv.ra
            clear hf ht htv hNr
            generalize t.args = args at *
            obtain ⟨S, hS⟩ : ∃ S, stepA j args (f, true) = S := ⟨_, rfl⟩
            have HS0 : Hid (stepA j (args.drop 0) (f, true) = S) := Lib.hid hS
            rw [hS] at HQ2
            clear hS
            go_wp2_with fail
            go_loopw [43] (fun ix wr2 => ∃ (m : Nat) (f2 : Nat → Bool), m ≤ args.length ∧ ix = .int .i64 (m : Int) ∧ Hid (stepA j (args.drop m) (f2, true) = S) ∧ Hid (wr2.ownsRow g 4 1 (.slice (some ⟨g, 0, none⟩) n n) n (boolVals n f2)) ∧ Hid (Below w.heap.size w wr2)) (fun i _ => args.length - (intOf i).toNat)
            case atStart => exact ⟨0, f, Nat.zero_le _, rfl, HS0, HOW, HB⟩
            case round =>
              obtain ⟨m, f2, hm, rfl, HS, HOW2, HB2⟩ := hrel
              rcases Nat.lt_or_ge m args.length with hlt | hge
              · obtain ⟨a, ha⟩ : ∃ a, args[m]? = some a := ⟨_, List.getElem?_eq_getElem hlt⟩
                obtain ⟨aa, rfl, haa, ca2⟩ := (HVA.out.keep (fun p hp => (HB2.out.cell hp).trans (HB.out.cell hp).symm)).at_ ha
                have hra := HRA.out a (List.mem_of_getElem? ha)
                have HS1 := HS.out
                rw [drop_at ha, stepA_cons] at HS1
                have hm1 : (m : Int) < (args.length : Int) := by omega
                clear ha
                by_cases h1 : a < 0
                · rw [if_pos (.inl h1)] at HS1
                  have HTF := Lib.hid (show T.2 = false by rw [← HQ2.out]; exact belowF_bad _ _ _ (by rw [← HS1]; exact stepA_bad _ _ _ rfl))
                  clear HS1
                  go_wp2_with fail
                  go_ret2
                  exact ⟨.slice none 0 0, by rw [HTF.out]; rfl, fun h => (by rw [HTF.out] at h; cases h), HB2.out⟩
                · by_cases h2 : (j : Int) ≤ a
                  · rw [if_pos (.inr h2)] at HS1
                    have HTF := Lib.hid (show T.2 = false by rw [← HQ2.out]; exact belowF_bad _ _ _ (by rw [← HS1]; exact stepA_bad _ _ _ rfl))
                    have q1 : decide (a < 0) = false := decide_eq_false h1
                    have q2 : decide ((j : Int) ≤ a) = true := decide_eq_true h2
                    clear HS1
                    go_wp2_with fail
                    go_ret2
                    exact ⟨.slice none 0 0, by rw [HTF.out]; rfl, fun h => (by rw [HTF.out] at h; cases h), HB2.out⟩
                  · rw [if_neg (by rintro (h | h) <;> omega)] at HS1
                    obtain ⟨x, rfl⟩ : ∃ x : Nat, a = (x : Int) := ⟨a.toNat, by omega⟩
                    rw [Int.toNat_natCast] at HS1
                    have HS2 := Lib.hid HS1
                    have hx1 : (x : Int) < (n : Int) := by omega
                    have cx := World.ownsRow.cellAt HOW2.out x (by omega)
                    rw [boolVals_get (by omega)] at cx
                    have fx := World.ownsRow.frozenAt HOW2.out x
                    have hst := (World.ownsRow.stored HOW2.out x (.bool true)).1
                    rw [boolVals_set (by omega)] at hst
                    have HO3 := Lib.hid hst
                    have HB3 := Lib.hid (HB2.out.setCell (p := ⟨g, x, none⟩) (by show w.heap.size ≤ g; omega) (.bool true))
                    have hxj : ((x : Nat) : Int) < (j : Int) := by omega
                    clear HS1 hst h1 h2
                    go_wp2_with fail
                    go_roundw
                    case rel => exact ⟨_, _, _, _, ⟨m + 1, by omega, by go_num, _, HS2, HO3⟩, rfl, rfl, rfl, rfl⟩
                    case measure => simp [intOf]; omega
              · have hmm : m = args.length := by omega
                have HSS := Lib.hid (show (f2, true) = S by have := HS.out; rw [List.drop_eq_nil_of_le (by omega)] at this; exact this)
                have HQ3 := Lib.hid (show belowF (tms L) j (f2, true) = T by rw [HSS.out]; exact HQ2.out)
                have q0 : (args.length : Int) ≤ (m : Int) := by omega
                clear hmm hge hm
                go_wp2_with fail
                go_roundw
                case rel =>
                  have hs := AtI.start j
                  exact ⟨j, f2, by omega, hs, HQ3, HOW2, HB2⟩
                case measure => simp [intOf]
end Go.Proofs.YtjhdlnllhjffkaaGreatDoor
