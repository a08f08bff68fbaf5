/- Close: are all arguments atoms: the closure of formed. Close: the form of a node as chapter 13 has it. Close: the form of a node. Close: is a variable none of a function's: the closure of Check. -/
import Derived.Test.YtjhdlnllhjffkaaGreatDoorCpsB
import Derived.Test.YtjhdlnllhjffkaaGreatDoorCloMa
import Derived.Test.YtjhdlnllhjffkaaGreatDoorCpsFo
import Derived.Test.YtjhdlnllhjffkaaGreatDoorCloMe
namespace Go.Proofs.YtjhdlnllhjffkaaGreatDoor
open Go.RowKit LamM CpsM CloM
set_option maxRecDepth 100000 in
set_option maxHeartbeats 2000000 in
theorem fatom1_any (L : List Fl) (vl : Value) (a : Int) (g : Nat) (w : World) (hN : NF w w.heap.size vl L) (ha : 0 ≤ a ∧ a < (L.length : Int)) (hg : w.cell? ⟨g, 0, none⟩ = some vl) :
    Calls Tryz.prog 28 #[.int .i64 a, .pointer (some ⟨g, 0, none⟩)] w fun e w' => e = .returned (.bool (!atomB (kindC L a))) ∧ w = w' := by
  obtain ⟨x, rfl⟩ : ∃ x : Nat, a = (x : Int) := ⟨a.toNat, by omega⟩
  obtain ⟨t, ht⟩ : ∃ t, L[x]? = some t := ⟨_, List.getElem?_eq_getElem (by omega)⟩
  obtain ⟨A, c, rfl, h1, h2⟩ := hN.len
  obtain ⟨ad, vv, kv, av, rfl, had, _, ca, _⟩ := hN.at_ ht
  rw [kindC_at (by rw [Int.toNat_natCast]; exact ht)]
  have HC := Lib.hid (catom_any t.k w)
  have hxl : (x : Int) < (L.length : Int) := ha.2
  generalize atomB t.k = r at *
  clear hN ht ha
  go_enter Tryz.func28, Tryz.ntmps28
  go_wp2_with (go_at_call 29; ((with_reducible refine (HC.out).mono ?_); rintro e w' ⟨rfl, rfl⟩))
  go_ret
  exact ⟨by cases r <;> rfl, rfl⟩
set_option maxRecDepth 100000 in
set_option maxHeartbeats 2000000 in
theorem fatomidx_any (L : List Fl) (l : List Int) (vl v : Value) (g B : Nat) (w : World) (hN : NF w w.heap.size vl L) (hr : ∀ a ∈ l, 0 ≤ a ∧ a < (L.length : Int)) (hVL : IV w B v l) (hg : w.cell? ⟨g, 0, none⟩ = some vl) :
    Calls Tryz.prog 55 #[v, .func (.func 28) #[] #[.pointer (some ⟨g, 0, none⟩)]] w (IdxPost (l.any fun a => !atomB (kindC L a)) w) := by
  obtain ⟨A, c, rfl, h1, h2⟩ := hVL.len
  have hl : l.length ≤ 9223372036854775807 := by unfold maxLen at h2; omega
  have HV := Lib.hid hVL
  have HW := Lib.hid (fun a (h : a ∈ l) => fatom1_any L vl a g w hN (hr a h) hg)
  have HY := Lib.hid (fun k a (h : l[k]? = some a) (hc : (!atomB (kindC L a)) = true) => any_yesf (f := fun a => !atomB (kindC L a)) h hc)
  have HN := Lib.hid (any_nof (l := l) (f := fun a => !atomB (kindC L a)))
  unfold IdxPost
  obtain ⟨r, hr2⟩ : ∃ r, (l.any fun a => !atomB (kindC L a)) = r := ⟨_, rfl⟩
  rw [hr2] at HY HN ⊢
  clear hr2 hVL hN hg hr
  go_enter Tryz.func55, Tryz.ntmps55
  go_wp2
  go_loopw [8] (fun iv wr => wr = w ∧ ∃ k : Nat, k ≤ l.length ∧ iv = .int .i64 (k : Int) ∧ Hid (∀ j x, j < k → l[j]? = some x → (!atomB (kindC L x)) = false)) (fun iv _ => l.length - (intOf iv).toNat)
  case atStart => exact ⟨rfl, 0, Nat.zero_le _, rfl, Lib.hid (fun j x h => by omega)⟩
  case round =>
    obtain ⟨rfl, k, hk, rfl, HK⟩ := hrel
    rcases Nat.lt_or_ge k l.length with hlt | hge
    · obtain ⟨a, ha⟩ : ∃ a, l[k]? = some a := ⟨_, List.getElem?_eq_getElem hlt⟩
      obtain ⟨aa, rfl, _, ca⟩ := HV.out.at_ ha
      have hm1 : (k : Int) < (l.length : Int) := by omega
      have HWa := Lib.hid (HW.out a (List.mem_of_getElem? ha))
      cases hca : (!atomB (kindC L a))
      · rw [hca] at HWa
        have HK2 := Lib.hid (show ∀ j x, j < k + 1 → l[j]? = some x → (!atomB (kindC L x)) = false from fun j x hj hx => by
          rcases Nat.lt_or_ge j k with h3 | h3
          · exact HK.out j x h3 hx
          · obtain rfl : j = k := by omega
            rw [ha] at hx; rw [← Option.some.inj hx]; exact hca)
        clear ha hca
        go_wp2_with (go_at_call 28; ((with_reducible refine (HWa.out).mono ?_); rintro e w' ⟨rfl, rfl⟩))
        go_roundw
        case rel => exact ⟨by first | rfl | trivial, k + 1, by omega, by go_num, HK2⟩
        case measure => simp [intOf]; omega
      · rw [hca] at HWa
        have HR := Lib.hid (HY.out k a ha hca)
        clear ha hca
        go_wp2_with (go_at_call 28; ((with_reducible refine (HWa.out).mono ?_); rintro e w' ⟨rfl, rfl⟩))
        go_ret
        exact ⟨(k : Int), rfl, fun _ => by omega, fun h => (by rw [HR.out] at h; cases h), rfl⟩
    · have q : (l.length : Int) ≤ (k : Int) := by omega
      have HR := Lib.hid (HN.out (fun j x hj hx => HK.out j x (by omega) hx))
      clear hge hk
      go_wp2_with fail
      go_ret
      exact ⟨-1, rfl, fun h => (by rw [HR.out] at h; cases h), fun _ => rfl, rfl⟩
set_option maxRecDepth 100000 in
theorem fatomcon_any (L : List Fl) (l : List Int) (vl v : Value) (g B : Nat) (w : World) (hN : NF w w.heap.size vl L) (hr : ∀ a ∈ l, 0 ≤ a ∧ a < (L.length : Int)) (hVL : IV w B v l) (hg : w.cell? ⟨g, 0, none⟩ = some vl) :
    Calls Tryz.prog 27 #[v, .func (.func 28) #[] #[.pointer (some ⟨g, 0, none⟩)]] w fun e w' => e = .returned (.bool (l.any fun a => !atomB (kindC L a))) ∧ w = w' := by
  have H := Lib.hid (fatomidx_any L l vl v g B w hN hr hVL hg)
  obtain ⟨r, hr2⟩ : ∃ r, (l.any fun a => !atomB (kindC L a)) = r := ⟨_, rfl⟩
  unfold IdxPost at H
  rw [hr2] at H ⊢
  clear hVL hN hg hr hr2
  go_enter Tryz.func27, Tryz.ntmps27
  go_wp2_with fail
  go_at_call 55
  (with_reducible refine (H.out).mono ?_)
  rintro e w' ⟨z, rfl, hz1, hz2, rfl⟩
  cases r
  · obtain rfl := hz2 rfl
    clear hz1 hz2
    go_wp2_with fail
    go_ret
    exact ⟨rfl, rfl⟩
  · have hz := hz1 rfl
    have qz := decide_eq_true hz
    clear hz1 hz2
    go_wp2_with fail
    go_ret
    exact ⟨by simp, rfl⟩
end Go.Proofs.YtjhdlnllhjffkaaGreatDoor

namespace Go.Proofs.YtjhdlnllhjffkaaGreatDoor
open Go.RowKit LamM CpsM CloM

theorem blk_atF {w : World} {n : Nat} (h : w.heap.size = n) (t : TypeId) (cs : Array Value) : Blk (w.alloc (.cells cs t)) n t cs := by subst h; exact Blk.new w t cs
/-- A row of numbers while it fills. -/
def fillI (xs : List Int) (n k : Nat) : List Value := (intVals xs).take k ++ List.replicate (n - k) (.int .i64 0)
theorem fillI_len {xs : List Int} {n k : Nat} (h : xs.length = n) (hk : k ≤ n) : (fillI xs n k).length = n := by unfold fillI intVals; simp; omega
theorem fillI_set {xs : List Int} {n k : Nat} {x : Int} (h : xs.length = n) (hx : xs[k]? = some x) : (fillI xs n k).set k (.int .i64 x) = fillI xs n (k + 1) := by
  have hk : k < n := by have := (List.getElem?_eq_some_iff.1 hx).1; omega
  have hl : (intVals xs).length = n := by unfold intVals; simp [h]
  have hx2 : (intVals xs)[k]? = some (.int .i64 x) := by unfold intVals; rw [List.getElem?_map, hx]; rfl
  unfold fillI
  rw [List.set_append_right _ _ (by rw [List.length_take]; omega), List.length_take, show k - min k (intVals xs).length = 0 by omega, show n - k = (n - (k + 1)) + 1 by omega, List.replicate_succ, List.set_cons_zero, List.take_add_one, hx2]
  simp
theorem fillI_all {xs : List Int} {n : Nat} (h : xs.length = n) : fillI xs n n = intVals xs := by
  have hl : (intVals xs).length = n := by unfold intVals; simp [h]
  unfold fillI
  rw [List.take_of_length_le (by omega), Nat.sub_self, List.replicate_zero, List.append_nil]
theorem rangeI_at {n k : Nat} (h : k < n) : (rangeI n)[k]? = some (k : Int) := by
  unfold rangeI
  rw [List.getElem?_map, List.getElem?_range h]; rfl
theorem own_NF {w : World} {P0 : Nat} {ov : Value} {nds : List Nd9} (hO : w.ownsRow P0 43 9 ov nds.length (progC nds)) (hf : ∀ x ∈ nds, FV w w.heap.size x.1 x.2.1 x.2.2.1 x.2.2.2) (hl : nds.length ≤ 1300000000000) : NF w w.heap.size ov (nds.map (·.1)) := by
  rcases hO.2 with ⟨h, h0⟩ | ⟨g, cap, cur, h, _, _, hcap, _⟩
  · have : nds = [] := List.length_eq_zero_iff.1 h0
    subst this h
    exact ⟨none, 0, rfl, Nat.le_refl _, by decide, fun i t hit => by simp at hit⟩
  · subst h
    exact NF_of (fun k u hk => by
      have hk2 : k < nds.length * 9 := by have := (List.getElem?_eq_some_iff.1 hk).1; rwa [progC_len] at this
      rw [World.ownsRow.cellAt hO k hk2]; exact hk) (World.ownsRow.lt hO g rfl).2 hcap hl hf
theorem ownL_snoc {L : List Fl} {l : List Int} {k : Nat} {a : Int} (h : l[k]? = some a) : ownL L (l.take (k + 1)) = ownL L (l.take k) ++ [ownN L a] := by
  unfold ownL
  rw [← take_snoc h, List.map_append]; rfl
theorem ownN_at {L : List Fl} {a : Int} {u : Fl} (h : L[a.toNat]? = some u) : ownN L a = if u.k = 15 then haltFl else u := by unfold ownN; rw [h]
/-- The rounds' state: the own nodes, the own list of arguments. -/
structure AsS (w0 W : World) (L : List Fl) (l : List Int) (n g2 : Nat) (ov : Value) (nds : List Nd9) (k : Nat) (wr : World) : Prop where
  own : wr.ownsRow W.heap.size 43 9 ov k (progC nds)
  len : nds.length = k
  eqs : nds.map (·.1) = ownL L (l.take k)
  fvs : ∀ x ∈ nds, FV w0 w0.heap.size x.1 x.2.1 x.2.2.1 x.2.2.2
  args : wr.ownsRow g2 3 1 (.slice (some ⟨g2, 0, none⟩) n n) n (fillI (rangeI n) n k)
  ne : ov.ownBlock ≠ some g2
  hg : W.heap.size ≤ g2
  bel : Below W.heap.size W wr
theorem AsS.only {w0 W : World} {L : List Fl} {l : List Int} {n g2 k b : Nat} {ov : Value} {nds : List Nd9} {wr w' : World} (h : AsS w0 W L l n g2 ov nds k wr) (ho : Only [b] wr w') (hb : wr.heap.size ≤ b) : AsS w0 W L l n g2 ov nds k w' := by
  have hn : ∀ (v : Value) (base sz m : Nat) (e : TypeId) (xs : List Value), wr.ownsRow base e sz v m xs → ∀ k, v.ownBlock = some k → k ∉ [b] := fun v base sz m e xs hr k hk hm => by
    have := (World.ownsRow.lt hr k hk).2
    have := List.mem_singleton.1 hm
    omega
  exact ⟨ownsRow_only h.own ho (hn _ _ _ _ _ _ h.own), h.len, h.eqs, h.fvs, ownsRow_only h.args ho (hn _ _ _ _ _ _ h.args), h.ne, h.hg, below_only h.bel ho (fun k hk => by have := List.mem_singleton.1 hk; have := h.bel.size; omega) h.bel.size⟩
theorem AsS.alloc {w0 W : World} {L : List Fl} {l : List Int} {n g2 k : Nat} {ov : Value} {nds : List Nd9} {wr : World} (h : AsS w0 W L l n g2 ov nds k wr) (o : Obj) : AsS w0 W L l n g2 ov nds k (wr.alloc o) := h.only (((Only.refl [] wr).alloc o).mono (cs := [wr.heap.size]) (by simp)) (Nat.le_refl _)

section
variable {w0 W : World} {L : List Fl} {l : List Int} {n g2 k : Nat} {ov ov2 : Value} {nds : List Nd9} {wx w5 : World} {o : Obj} {xs : List Value}
theorem AsS.mid (h : AsS w0 W L l n g2 ov nds k wx) (hg : (wx.alloc o).grownBy w5 ov.ownBlock) : Only ov.ownBlock.toList wx w5 ∧ w5.ownsRow g2 3 1 (.slice (some ⟨g2, 0, none⟩) n n) n (fillI (rangeI n) n k) := by
  have ho : Only ov.ownBlock.toList wx w5 := ((Only.refl ov.ownBlock.toList wx).alloc o).grown hg (fun k hk => .inl (by rw [hk]; simp))
  refine ⟨ho, ownsRow_only h.args ho (fun k hk hm => h.ne ?_)⟩
  obtain rfl : g2 = k := Option.some.inj hk
  simpa using hm
theorem AsS.next (h : AsS w0 W L l n g2 ov nds k wx) (hk : k < n) {q : Fl} {vq kq aq : Value} {a : Int} (hown : w5.ownsRow W.heap.size 43 9 ov2 (k + 1) (progC nds ++ flVals q vq kq aq)) (hg : (wx.alloc o).grownBy w5 ov.ownBlock) (hor : ov2.ownBlock = ov.ownBlock ∨ ov2.ownBlock = some (wx.heap.size + 1))
    (hq : FV w0 w0.heap.size q vq kq aq) (hqe : q = ownN L a) (ha : l[k]? = some a) : AsS w0 W L l n g2 ov2 (nds ++ [(q, vq, kq, aq)]) (k + 1) (w5.setCell ⟨g2, k, none⟩ (.int .i64 (k : Int))) := by
  obtain ⟨ho, hargs⟩ := h.mid hg
  have hg2 := (World.ownsRow.lt h.args g2 rfl).2
  have hne : ov2.ownBlock ≠ some g2 := by
    rcases hor with e | e
    · rw [e]; exact h.ne
    · rw [e]; intro e2; have := Option.some.inj e2; omega
  have e1 : progC (nds ++ [(q, vq, kq, aq)]) = progC nds ++ flVals q vq kq aq := by
    rw [progC_app]
    show progC nds ++ (flVals q vq kq aq ++ []) = _
    rw [List.append_nil]
  have ho2 : Only [g2] w5 (w5.setCell ⟨g2, k, none⟩ (.int .i64 (k : Int))) := (Only.refl _ _).one
  have hb5 : Below W.heap.size W w5 := below_only h.bel ho (fun k hk => (World.ownsRow.lt h.own k (by simpa using hk)).1) h.bel.size
  have hst := (World.ownsRow.stored hargs k (.int .i64 (k : Int))).1
  rw [fillI_set (rangeI_len n) (rangeI_at hk)] at hst
  refine ⟨?_, by simp [h.len], ?_, fun x hx => ?_, hst, hne, h.hg, below_only hb5 ho2 (fun k hk => by have := List.mem_singleton.1 hk; have := h.hg; omega) hb5.size⟩
  · rw [e1]
    exact ownsRow_only hown ho2 (fun k hk hm => hne (by rw [hk, List.mem_singleton.1 hm]))
  · rw [List.map_append, h.eqs, ownL_snoc ha, hqe]; rfl
  · rcases List.mem_append.1 hx with hx | hx
    · exact h.fvs x hx
    · rw [List.mem_singleton.1 hx]; exact hq
end
set_option maxRecDepth 100000 in
set_option maxHeartbeats 8000000 in
theorem formedAs_any (L : List Fl) (t : Fl) (vl vv kv av pv : Value) (w : World) (hN : NF w w.heap.size vl L) (hT : FV w w.heap.size t vv kv av) (hA : ∀ a ∈ t.args, 0 ≤ a ∧ a < (L.length : Int)) (hP : PV w w.heap.size pv primTab) (hla : t.args.length ≤ 1048576) :
    Calls Tryz.prog 30 #[vl, .agg (flVals t vv kv av).toArray, pv] w fun e w' => e = .returned (.bool (formedP prims (ownL L t.args) (asT t))) ∧ Below w.heap.size w w' := by
  obtain ⟨i0, hi0, hz0, hz1, hz2⟩ := info_parts infoFl
  obtain ⟨j0, hj0, hy0, hy1, hy2⟩ := info_parts infoI
  obtain ⟨PA, pc, hpe, hpc1, hpc2⟩ := hP.len
  rw [primTab_len] at hpe
  subst hpe
  obtain ⟨NA, nc, rfl, hn1, hn2⟩ := hN.len
  obtain ⟨VA, vc, rfl, hv1, hv2⟩ := hT.v.len
  obtain ⟨KA, kc, rfl, hk1, hk2⟩ := hT.k.len
  obtain ⟨AA, ac, rfl, ha1, ha2⟩ := hT.a.len
  obtain ⟨W, hW⟩ : ∃ W, w.alloc (BoxF t (.slice VA t.vars.length vc) (.slice KA t.keys.length kc) (.slice AA t.args.length ac)) = W := ⟨_, rfl⟩
  have hbw : Below w.heap.size w W := by rw [← hW]; exact (Below.refl _ _).alloc (Nat.le_refl _) _
  have HB := Lib.hid hbw
  have HX := Lib.hid (show Blk W w.heap.size 43 #[.int .i64 t.k, .int .i64 t.n, .int .i64 t.m, .int .i64 t.i, .int .u64 t.b, .string ⟨t.t.toArray⟩, .slice VA t.vars.length vc, .slice KA t.keys.length kc, .slice AA t.args.length ac] by rw [← hW]; exact Blk.new _ _ _)
  have HN := Lib.hid hN
  have HT := Lib.hid hT
  have HPV := Lib.hid hP
  have HA := Lib.hid hA
  have c8 : W.cell? ⟨w.heap.size, 8, none⟩ = some (.slice AA t.args.length ac) := HX.out.cell 8
  obtain ⟨n, hn⟩ : ∃ n, t.args.length = n := ⟨_, rfl⟩
  have HLN := Lib.hid hn
  unfold BoxF at hW
  unfold flVals
  obtain ⟨R, hR⟩ : ∃ R, formedP prims (ownL L t.args) (asT t) = R := ⟨_, rfl⟩
  have HR := Lib.hid hR
  rw [hR]
  rw [hn] at hW hla c8 ⊢
  clear hN hT hA hP hbw hR hn
  go_enter Tryz.func30, Tryz.ntmps30
  go_wp2_with (refine wpList_make_own _ rfl _ _ _ rfl W.heap.size 43 i0 _ 9 undFls hi0 hz0 hz1 _ _ _ (n + 1) rfl rfl (by omega) (by rw [hz2]; omega) (by unfold maxLen; omega) (Nat.le_refl _) ?_)
  intro w1 hown1 hgrow1
  have hb1 : Below W.heap.size W w1 := (Below.refl _ _).grown hgrow1 (Nat.le_refl _) (fun k hk => by cases hk)
  have HO1 := Lib.hid hown1
  have HB1 := Lib.hid hb1
  have HX1 := Lib.hid (HX.out.below hb1 HX.out.lt)
  have c8' : w1.cell? ⟨w.heap.size, 8, none⟩ = some (.slice AA n ac) := by have := HX1.out.cell 8; rw [← HLN.out]; exact this
  clear hown1 hgrow1 hb1
  go_wp2_with (refine wpList_make_full _ rfl _ _ _ rfl w1.heap.size 3 j0 (.int .i64 0) 1 undI hj0 hy0 hy1 _ _ _ _ n rfl rfl (by omega) (by omega) (by rw [hy2]; omega) (by unfold maxLen; omega) (Nat.le_refl _) ?_)
  intro w2 hown2 hgrow2
  rw [toList_madeCells_one] at hown2
  have ho2 : Only [] w1 w2 := (Only.refl [] w1).grown hgrow2 (fun k hk => by cases hk)
  have hg12 := (World.ownsRow.lt HO1.out W.heap.size rfl).2
  have hb2 : Below W.heap.size W w2 := below_only HB1.out ho2 (fun k hk => by cases hk) HB1.out.size
  have HS0 := Lib.hid (show AsS w W L t.args n w1.heap.size (.slice (some ⟨W.heap.size, 0, none⟩) 0 (n + 1)) [] 0 w2 from ⟨ownsRow_only HO1.out ho2 (by simp), rfl, rfl, fun x hx => (by cases hx), hown2, fun e => by have : W.heap.size = w1.heap.size := Option.some.inj e; omega, by omega, hb2⟩)
  have HX2 := Lib.hid (HX1.out.only ho2 (by simp))
  have c82 : w2.cell? ⟨w.heap.size, 8, none⟩ = some (.slice AA n ac) := by have := HX2.out.cell 8; rw [← HLN.out]; exact this
  obtain ⟨g2, hg2⟩ : ∃ g2, w1.heap.size = g2 := ⟨_, rfl⟩
  rw [hg2] at HS0 ⊢
  have hws : w.heap.size < W.heap.size := HX.out.lt
  clear hown2 hgrow2 ho2 hg12 hb2 hg2 c8 c8' HO1 HB1 HX1 HX2
  go_wp2_with fail
  clear c82 hW
  go_loopw [24, 7] (fun ix ox wr => ∃ (k : Nat) (nds : List Nd9) (ov : Value), k ≤ n ∧ ix = .int .i64 (k : Int) ∧ ov = ox ∧ Hid (AsS w W L t.args n g2 ov nds k wr)) (fun ix _ _ => n - (intOf ix).toNat)
  case atStart => exact ⟨0, [], _, Nat.zero_le _, rfl, rfl, HS0⟩
  case round =>
    obtain ⟨k, nds, ov, hk, rfl, rfl, HS⟩ := hrel
    obtain ⟨wo, rfl⟩ : ∃ wo : World, wo = wr := ⟨_, rfl⟩
    have HBW := Lib.hid (HB.out.trans (HS.out.bel.mono HB.out.size))
    rcases Nat.lt_or_ge k n with hlt | hge
    · obtain ⟨a, ha⟩ : ∃ a, t.args[k]? = some a := ⟨_, List.getElem?_eq_getElem (by have := HLN.out; omega)⟩
      obtain ⟨aa, rfl, _, ca⟩ := (HT.out.a.keep (w' := wo) (fun p hp => HBW.out.cell hp)).at_ ha
      obtain ⟨h0, h1⟩ := HA.out a (List.mem_of_getElem? ha)
      obtain ⟨x, rfl⟩ : ∃ x : Nat, a = (x : Int) := ⟨a.toNat, by omega⟩
      obtain ⟨u, hu⟩ : ∃ u, L[x]? = some u := ⟨_, List.getElem?_eq_getElem (by omega)⟩
      obtain ⟨ad, uv, uk, ua, rfl, had, htu, a0, a1, a2, a3, a4, a5, a6, a7, a8⟩ := (HN.out.keep (w' := wo) (fun p hp => HBW.out.cell hp)).at9 hu
      obtain ⟨UA, un, rfl, _, _⟩ := htu.v.len
      obtain ⟨UK, ukn, rfl, _, _⟩ := htu.k.len
      obtain ⟨UG, ugn, rfl, _, _⟩ := htu.a.len
      obtain ⟨_, uv', uk', ua', hadE, _, htu0, _, _, _, _, _, _, b6', b7', b8'⟩ := HN.out.at9 hu
      obtain rfl := Option.some.inj hadE
      have e6 := (HBW.out.cell (p := ⟨(ad.add (x * 9)).block, (ad.add (x * 9)).off + 6, none⟩) (by rw [block_of_add]; exact had)).trans b6'
      have e7 := (HBW.out.cell (p := ⟨(ad.add (x * 9)).block, (ad.add (x * 9)).off + 7, none⟩) (by rw [block_of_add]; exact had)).trans b7'
      have e8 := (HBW.out.cell (p := ⟨(ad.add (x * 9)).block, (ad.add (x * 9)).off + 8, none⟩) (by rw [block_of_add]; exact had)).trans b8'
      obtain rfl := Option.some.inj (e6.symm.trans a6)
      obtain rfl := Option.some.inj (e7.symm.trans a7)
      obtain rfl := Option.some.inj (e8.symm.trans a8)
      have HFU := Lib.hid htu0
      have hON := ownN_at (L := L) (a := (x : Int)) (by rw [Int.toNat_natCast]; exact hu)
      have HON := Lib.hid hON
      have HAK := Lib.hid ha
      have hxL : (x : Int) < (L.length : Int) := h1
      have hkn : (k : Int) < (n : Int) := by omega
      obtain ⟨W2, hW2⟩ : ∃ W2, wo.alloc (BoxF u (.slice UA u.vars.length un) (.slice UK u.keys.length ukn) (.slice UG u.args.length ugn)) = W2 := ⟨_, rfl⟩
      have HB2 := Lib.hid (show Blk W2 wo.heap.size 43 #[.int .i64 u.k, .int .i64 u.n, .int .i64 u.m, .int .i64 u.i, .int .u64 u.b, .string ⟨u.t.toArray⟩, .slice UA u.vars.length un, .slice UK u.keys.length ukn, .slice UG u.args.length ugn] by rw [← hW2]; exact Blk.new _ _ _)
      have HS2 := Lib.hid (show AsS w W L t.args n g2 ov nds k W2 by rw [← hW2]; exact HS.out.alloc _)
      have HO2 := Lib.hid (show Only [wo.heap.size] wo W2 by rw [← hW2]; exact (Only.refl _ _).alloc _)
      unfold BoxF at hW2
      clear h0 h1 ha hu htu htu0 had b6' b7' b8' e6 e7 e8 hadE hON HBW
      have q0 : W2.cell? ⟨wo.heap.size, 0, none⟩ = some (.int .i64 u.k) := HB2.out.cell 0
      have q1 : W2.cell? ⟨wo.heap.size, 1, none⟩ = some (.int .i64 u.n) := HB2.out.cell 1
      have q2 : W2.cell? ⟨wo.heap.size, 2, none⟩ = some (.int .i64 u.m) := HB2.out.cell 2
      have q3 : W2.cell? ⟨wo.heap.size, 3, none⟩ = some (.int .i64 u.i) := HB2.out.cell 3
      have q4 : W2.cell? ⟨wo.heap.size, 4, none⟩ = some (.int .u64 u.b) := HB2.out.cell 4
      have q5 : W2.cell? ⟨wo.heap.size, 5, none⟩ = some (.string ⟨u.t.toArray⟩) := HB2.out.cell 5
      have q6 : W2.cell? ⟨wo.heap.size, 6, none⟩ = some (.slice UA u.vars.length un) := HB2.out.cell 6
      have q7 : W2.cell? ⟨wo.heap.size, 7, none⟩ = some (.slice UK u.keys.length ukn) := HB2.out.cell 7
      have q8 : W2.cell? ⟨wo.heap.size, 8, none⟩ = some (.slice UG u.args.length ugn) := HB2.out.cell 8
      have f0 := HB2.out.frozen 0
      have f1 := HB2.out.frozen 1
      have f2 := HB2.out.frozen 2
      have f3 := HB2.out.frozen 3
      have f4 := HB2.out.frozen 4
      have f5 := HB2.out.frozen 5
      have f6 := HB2.out.frozen 6
      have f7 := HB2.out.frozen 7
      have f8 := HB2.out.frozen 8
      go_upto_if 35 with fail
      go_cut [24] from 24 to 45 (fun ix wx => ix = .int .i64 (k : Int) ∧ ∃ (q : Fl) (vq kq aq : Value), Hid (FV w w.heap.size q vq kq aq ∧ q = ownN L (x : Int) ∧ ∀ y ∈ [vq, kq, aq], y.oneCell' = true) ∧ Hid (Blk wx wo.heap.size 43 #[.int .i64 q.k, .int .i64 q.n, .int .i64 q.m, .int .i64 q.i, .int .u64 q.b, .string ⟨q.t.toArray⟩, vq, kq, aq]) ∧ Hid (AsS w W L t.args n g2 ov nds k wx))
      case first =>
        by_cases h15 : u.k = 15
        · have k15 := b_true h15
          have HE := Lib.hid (show haltFl = ownN L (x : Int) by rw [HON.out, if_pos h15])
          clear h15
          go_wp2_with fail
          go_meet
          case rel =>
            refine ⟨rfl, haltFl, .slice none 0 0, .slice none 0 0, .slice none 0 0, Lib.hid ⟨small_FV rfl (nil_IV _ _) (nil_IV _ _), HE.out, by decide⟩, Lib.hid ?_, Lib.hid ?_⟩
            · have t9 := HB2.out
              replace t9 : Blk (World.setCell W2 ⟨wo.heap.size, 0, none⟩ (.int .i64 13)) wo.heap.size 43 #[.int .i64 13, .int .i64 u.n, .int .i64 u.m, .int .i64 u.i, .int .u64 u.b, .string ⟨u.t.toArray⟩, .slice UA u.vars.length un, .slice UK u.keys.length ukn, .slice UG u.args.length ugn] := t9.set_ 0 (.int .i64 13)
              replace t9 : Blk (World.setCell (World.setCell W2 ⟨wo.heap.size, 0, none⟩ (.int .i64 13)) ⟨wo.heap.size, 1, none⟩ (.int .i64 0)) wo.heap.size 43 #[.int .i64 13, .int .i64 0, .int .i64 u.m, .int .i64 u.i, .int .u64 u.b, .string ⟨u.t.toArray⟩, .slice UA u.vars.length un, .slice UK u.keys.length ukn, .slice UG u.args.length ugn] := t9.set_ 1 (.int .i64 0)
              replace t9 : Blk (World.setCell (World.setCell (World.setCell W2 ⟨wo.heap.size, 0, none⟩ (.int .i64 13)) ⟨wo.heap.size, 1, none⟩ (.int .i64 0)) ⟨wo.heap.size, 2, none⟩ (.int .i64 0)) wo.heap.size 43 #[.int .i64 13, .int .i64 0, .int .i64 0, .int .i64 u.i, .int .u64 u.b, .string ⟨u.t.toArray⟩, .slice UA u.vars.length un, .slice UK u.keys.length ukn, .slice UG u.args.length ugn] := t9.set_ 2 (.int .i64 0)
              replace t9 : Blk (World.setCell (World.setCell (World.setCell (World.setCell W2 ⟨wo.heap.size, 0, none⟩ (.int .i64 13)) ⟨wo.heap.size, 1, none⟩ (.int .i64 0)) ⟨wo.heap.size, 2, none⟩ (.int .i64 0)) ⟨wo.heap.size, 3, none⟩ (.int .i64 0)) wo.heap.size 43 #[.int .i64 13, .int .i64 0, .int .i64 0, .int .i64 0, .int .u64 u.b, .string ⟨u.t.toArray⟩, .slice UA u.vars.length un, .slice UK u.keys.length ukn, .slice UG u.args.length ugn] := t9.set_ 3 (.int .i64 0)
              replace t9 : Blk (World.setCell (World.setCell (World.setCell (World.setCell (World.setCell W2 ⟨wo.heap.size, 0, none⟩ (.int .i64 13)) ⟨wo.heap.size, 1, none⟩ (.int .i64 0)) ⟨wo.heap.size, 2, none⟩ (.int .i64 0)) ⟨wo.heap.size, 3, none⟩ (.int .i64 0)) ⟨wo.heap.size, 4, none⟩ (.int .u64 0)) wo.heap.size 43 #[.int .i64 13, .int .i64 0, .int .i64 0, .int .i64 0, .int .u64 0, .string ⟨u.t.toArray⟩, .slice UA u.vars.length un, .slice UK u.keys.length ukn, .slice UG u.args.length ugn] := t9.set_ 4 (.int .u64 0)
              replace t9 : Blk (World.setCell (World.setCell (World.setCell (World.setCell (World.setCell (World.setCell W2 ⟨wo.heap.size, 0, none⟩ (.int .i64 13)) ⟨wo.heap.size, 1, none⟩ (.int .i64 0)) ⟨wo.heap.size, 2, none⟩ (.int .i64 0)) ⟨wo.heap.size, 3, none⟩ (.int .i64 0)) ⟨wo.heap.size, 4, none⟩ (.int .u64 0)) ⟨wo.heap.size, 5, none⟩ (.string ⟨#[]⟩)) wo.heap.size 43 #[.int .i64 13, .int .i64 0, .int .i64 0, .int .i64 0, .int .u64 0, .string ⟨#[]⟩, .slice UA u.vars.length un, .slice UK u.keys.length ukn, .slice UG u.args.length ugn] := t9.set_ 5 (.string ⟨#[]⟩)
              replace t9 : Blk (World.setCell (World.setCell (World.setCell (World.setCell (World.setCell (World.setCell (World.setCell W2 ⟨wo.heap.size, 0, none⟩ (.int .i64 13)) ⟨wo.heap.size, 1, none⟩ (.int .i64 0)) ⟨wo.heap.size, 2, none⟩ (.int .i64 0)) ⟨wo.heap.size, 3, none⟩ (.int .i64 0)) ⟨wo.heap.size, 4, none⟩ (.int .u64 0)) ⟨wo.heap.size, 5, none⟩ (.string ⟨#[]⟩)) ⟨wo.heap.size, 6, none⟩ (.slice none 0 0)) wo.heap.size 43 #[.int .i64 13, .int .i64 0, .int .i64 0, .int .i64 0, .int .u64 0, .string ⟨#[]⟩, .slice none 0 0, .slice UK u.keys.length ukn, .slice UG u.args.length ugn] := t9.set_ 6 (.slice none 0 0)
              replace t9 : Blk (World.setCell (World.setCell (World.setCell (World.setCell (World.setCell (World.setCell (World.setCell (World.setCell W2 ⟨wo.heap.size, 0, none⟩ (.int .i64 13)) ⟨wo.heap.size, 1, none⟩ (.int .i64 0)) ⟨wo.heap.size, 2, none⟩ (.int .i64 0)) ⟨wo.heap.size, 3, none⟩ (.int .i64 0)) ⟨wo.heap.size, 4, none⟩ (.int .u64 0)) ⟨wo.heap.size, 5, none⟩ (.string ⟨#[]⟩)) ⟨wo.heap.size, 6, none⟩ (.slice none 0 0)) ⟨wo.heap.size, 7, none⟩ (.slice none 0 0)) wo.heap.size 43 #[.int .i64 13, .int .i64 0, .int .i64 0, .int .i64 0, .int .u64 0, .string ⟨#[]⟩, .slice none 0 0, .slice none 0 0, .slice UG u.args.length ugn] := t9.set_ 7 (.slice none 0 0)
              replace t9 : Blk (World.setCell (World.setCell (World.setCell (World.setCell (World.setCell (World.setCell (World.setCell (World.setCell (World.setCell W2 ⟨wo.heap.size, 0, none⟩ (.int .i64 13)) ⟨wo.heap.size, 1, none⟩ (.int .i64 0)) ⟨wo.heap.size, 2, none⟩ (.int .i64 0)) ⟨wo.heap.size, 3, none⟩ (.int .i64 0)) ⟨wo.heap.size, 4, none⟩ (.int .u64 0)) ⟨wo.heap.size, 5, none⟩ (.string ⟨#[]⟩)) ⟨wo.heap.size, 6, none⟩ (.slice none 0 0)) ⟨wo.heap.size, 7, none⟩ (.slice none 0 0)) ⟨wo.heap.size, 8, none⟩ (.slice none 0 0)) wo.heap.size 43 #[.int .i64 13, .int .i64 0, .int .i64 0, .int .i64 0, .int .u64 0, .string ⟨#[]⟩, .slice none 0 0, .slice none 0 0, .slice none 0 0] := t9.set_ 8 (.slice none 0 0)
              exact t9
            · exact HS.out.only (HO2.out.one.one.one.one.one.one.one.one.one) (Nat.le_refl _)
        · have k15 := b_false h15
          have HE := Lib.hid (show u = ownN L (x : Int) by rw [HON.out, if_neg h15])
          clear h15
          go_wp2_with fail
          go_meet
          case rel => exact ⟨rfl, u, _, _, _, Lib.hid ⟨HFU.out, HE.out, by intro y hy; simp only [List.mem_cons, List.not_mem_nil, or_false] at hy; rcases hy with rfl | rfl | rfl <;> rfl⟩, HB2, HS2⟩
      case rest =>
        obtain ⟨rfl, q, vq, kq, aq, HQ, HQB, HSQ⟩ := hcut
        clear q0 q1 q2 q3 q4 q5 q6 q7 q8 f0 f1 f2 f3 f4 f5 f6 f7 f8 hW2 a0 a1 a2 a3 a4 a5 a6 a7 a8 ca
        have p0 : wc.cell? ⟨wo.heap.size, 0, none⟩ = some (.int .i64 q.k) := HQB.out.cell 0
        have p1 : wc.cell? ⟨wo.heap.size, 1, none⟩ = some (.int .i64 q.n) := HQB.out.cell 1
        have p2 : wc.cell? ⟨wo.heap.size, 2, none⟩ = some (.int .i64 q.m) := HQB.out.cell 2
        have p3 : wc.cell? ⟨wo.heap.size, 3, none⟩ = some (.int .i64 q.i) := HQB.out.cell 3
        have p4 : wc.cell? ⟨wo.heap.size, 4, none⟩ = some (.int .u64 q.b) := HQB.out.cell 4
        have p5 : wc.cell? ⟨wo.heap.size, 5, none⟩ = some (.string ⟨q.t.toArray⟩) := HQB.out.cell 5
        have p6 : wc.cell? ⟨wo.heap.size, 6, none⟩ = some vq := HQB.out.cell 6
        have p7 : wc.cell? ⟨wo.heap.size, 7, none⟩ = some kq := HQB.out.cell 7
        have p8 : wc.cell? ⟨wo.heap.size, 8, none⟩ = some aq := HQB.out.cell 8
        obtain ⟨VQ, vqc, rfl, _, _⟩ := HQ.out.1.v.len
        obtain ⟨KQ, kqc, rfl, _, _⟩ := HQ.out.1.k.len
        obtain ⟨AQ, aqc, rfl, _, _⟩ := HQ.out.1.a.len
        have hzz := HSQ.out.bel.size
        obtain ⟨pcv, hpc⟩ : ∃ pcv, progC nds = pcv := ⟨_, rfl⟩
        have HOW := Lib.hid (show wc.ownsRow W.heap.size 43 9 ov k pcv from hpc ▸ HSQ.out.own)
        have HPC := Lib.hid hpc
        have HO9 := Lib.hid (one9 (t := q) HQ.out.2.2)
        clear hpc
        go_wp2_with (at_builtin; refine wpList_append_any _ rfl _ _ 22 rfl W.heap.size 43 i0 _ 9 128 undFls hi0 hz0 hz1 hz2 rfl (by decide) _ k pcv rfl (World.ownsRow.alloc HOW.out _) _ _ _ _ [_, _, _, _, _, _, _, _, _] rfl (Reads.blk' (Blk.new _ _ _) rfl) HO9.out (by unfold maxLen; omega) (by omega) (by simp; omega) ?_)
        intro ov2 w5 hown5 hgrow5 hor5
        rw [← HPC.out] at hown5
        have HNX := Lib.hid (HSQ.out.next hlt hown5 hgrow5 hor5 HQ.out.1 HQ.out.2.1 HAK.out)
        have hag := (HSQ.out.mid hgrow5).2
        obtain ⟨y, hy⟩ : ∃ y, (fillI (rangeI n) n k)[k]? = some y := ⟨_, List.getElem?_eq_getElem (by rw [fillI_len (rangeI_len n) hk]; exact hlt)⟩
        have cg := World.ownsRow.cellAt hag k (by omega)
        rw [hy] at cg
        have fg := World.ownsRow.frozenAt hag k
        clear hown5 hgrow5 hor5 hag hy p0 p1 p2 p3 p4 p5 p6 p7 p8 hzz
        go_wp2_with fail
        go_roundw
        case rel => exact ⟨k + 1, _, _, by omega, by go_num, rfl, HNX⟩
        case measure => simp [intOf]; omega
    · obtain rfl : k = n := by omega
      have q0 : (k : Int) ≤ (k : Int) := Int.le_refl _
      have hsz := HB.out.size
      have HX3 := Lib.hid (HX.out.below HS.out.bel HX.out.lt)
      obtain ⟨W6, hW6⟩ : ∃ W6, wo.setCell ⟨w.heap.size, 8, none⟩ (.slice (some ⟨g2, 0, none⟩) k k) = W6 := ⟨_, rfl⟩
      have ho6 : Only [w.heap.size] wo W6 := by rw [← hW6]; exact (Only.refl _ _).one
      have HB6 := Lib.hid (show Below w.heap.size w W6 from below_only HBW.out ho6 (fun k hk => by have := List.mem_singleton.1 hk; omega) HBW.out.size)
      have HX6 := Lib.hid (show Blk W6 w.heap.size 43 #[.int .i64 t.k, .int .i64 t.n, .int .i64 t.m, .int .i64 t.i, .int .u64 t.b, .string ⟨t.t.toArray⟩, .slice VA t.vars.length vc, .slice KA t.keys.length kc, .slice (some ⟨g2, 0, none⟩) k k] by rw [← hW6]; exact HX3.out.set_ 8 (.slice (some ⟨g2, 0, none⟩) k k))
      have hlen := HS.out.len
      have hown6 : W6.ownsRow W.heap.size 43 9 ov nds.length (progC nds) := by
        rw [hlen]
        exact ownsRow_only HS.out.own ho6 (fun k hk hm => by have := (World.ownsRow.lt HS.out.own k hk).1; have := List.mem_singleton.1 hm; omega)
      have hfv6 : ∀ x ∈ nds, FV W6 W6.heap.size x.1 x.2.1 x.2.2.1 x.2.2.2 := fun x hx => (HS.out.fvs x hx).below HB6.out
      have hN6 := own_NF hown6 hfv6 (by omega)
      rw [HS.out.eqs, List.take_of_length_le (by have := HLN.out; omega)] at hN6
      have hI6 : OI g2 W6 (.slice (some ⟨g2, 0, none⟩) k k) (rangeI k) := by
        unfold OI
        rw [rangeI_len]
        have := ownsRow_only HS.out.args ho6 (fun k hk hm => by have := HS.out.hg; have e : g2 = k := Option.some.inj hk; have := List.mem_singleton.1 hm; omega)
        rwa [fillI_all (rangeI_len k)] at this
      have hT6 : FV W6 W6.heap.size (asT t) (.slice VA t.vars.length vc) (.slice KA t.keys.length kc) (.slice (some ⟨g2, 0, none⟩) k k) := by
        have h := HT.out.below HB6.out
        refine ⟨h.v, h.k, ?_, h.rk, h.rn, h.rm, h.ri, fun x hx => ?_, h.rv, h.lv, h.lk, ?_⟩
        · show IV _ _ _ (rangeI t.args.length)
          rw [HLN.out]; exact hI6.iv
        · change x ∈ rangeI t.args.length at hx
          unfold rangeI at hx
          obtain ⟨i, hi, rfl⟩ := List.mem_map.1 hx
          have := List.mem_range.1 hi
          have := HLN.out
          omega
        · show (rangeI t.args.length).length ≤ _
          rw [rangeI_len, HLN.out]; omega
      have HCF := Lib.hid (show Calls Tryz.prog 56 #[ov, .agg #[.int .i64 t.k, .int .i64 t.n, .int .i64 t.m, .int .i64 t.i, .int .u64 t.b, .string ⟨t.t.toArray⟩, .slice VA t.vars.length vc, .slice KA t.keys.length kc, .slice (some ⟨g2, 0, none⟩) k k], .slice (some PA) 61 pc] W6 fun e w' => e = .returned (.bool (formedP prims (ownL L t.args) (asT t))) ∧ Below W6.heap.size W6 w' from
        cFormed_any (ownL L t.args) (asT t) ov _ _ _ _ W6 hN6 hT6 (fun a ha => by
          change a ∈ rangeI t.args.length at ha
          unfold rangeI at ha
          obtain ⟨i, hi, rfl⟩ := List.mem_map.1 ha
          have := List.mem_range.1 hi
          unfold ownL
          rw [List.length_map]
          omega) (HPV.out.below HB6.out))
      rw [HR.out] at HCF
      have b8 : wo.cell? ⟨w.heap.size, 8, none⟩ = some (.slice AA t.args.length ac) := HX3.out.cell 8
      have g8 := HX3.out.frozen 8
      have b0 : W6.cell? ⟨w.heap.size, 0, none⟩ = some (.int .i64 t.k) := HX6.out.cell 0
      have b1 : W6.cell? ⟨w.heap.size, 1, none⟩ = some (.int .i64 t.n) := HX6.out.cell 1
      have b2 : W6.cell? ⟨w.heap.size, 2, none⟩ = some (.int .i64 t.m) := HX6.out.cell 2
      have b3 : W6.cell? ⟨w.heap.size, 3, none⟩ = some (.int .i64 t.i) := HX6.out.cell 3
      have b4 : W6.cell? ⟨w.heap.size, 4, none⟩ = some (.int .u64 t.b) := HX6.out.cell 4
      have b5 : W6.cell? ⟨w.heap.size, 5, none⟩ = some (.string ⟨t.t.toArray⟩) := HX6.out.cell 5
      have b6 : W6.cell? ⟨w.heap.size, 6, none⟩ = some (.slice VA t.vars.length vc) := HX6.out.cell 6
      have b7 : W6.cell? ⟨w.heap.size, 7, none⟩ = some (.slice KA t.keys.length kc) := HX6.out.cell 7
      have b8' : W6.cell? ⟨w.heap.size, 8, none⟩ = some (.slice (some ⟨g2, 0, none⟩) k k) := HX6.out.cell 8
      clear hge hk ho6 hlen hown6 hfv6 hN6 hI6 hT6 hsz
      go_wp2_with (go_at_call 56; ((with_reducible refine (HCF.out).mono ?_); rintro e w7 ⟨rfl, hb7⟩; have HB7 := Lib.hid (HB6.out.trans (hb7.mono HB6.out.size)); clear hb7))
      go_ret
      exact ⟨rfl, HB7.out⟩
end Go.Proofs.YtjhdlnllhjffkaaGreatDoor

namespace Go.Proofs.YtjhdlnllhjffkaaGreatDoor
open Go.RowKit LamM CpsM CloM

set_option maxRecDepth 100000 in
set_option maxHeartbeats 4000000 in
theorem fformed_any (L : List Fl) (t : Fl) (vl vv kv av pv : Value) (w : World) (hN : NF w w.heap.size vl L) (hT : FV w w.heap.size t vv kv av) (hA : ∀ a ∈ t.args, 0 ≤ a ∧ a < (L.length : Int)) (hP : PV w w.heap.size pv primTab) (hla : t.args.length ≤ 1048576) :
    Calls Tryz.prog 10 #[vl, .agg (flVals t vv kv av).toArray, pv] w fun e w' => e = .returned (.bool (formedG prims L t)) ∧ Below w.heap.size w w' := by
  have hmf := mk_func
  obtain ⟨NA, nc, rfl, hn1, hn2⟩ := hN.len
  obtain ⟨VA, vc, rfl, hv1, hv2⟩ := hT.v.len
  obtain ⟨KA, kc, rfl, hk1, hk2⟩ := hT.k.len
  obtain ⟨AA, ac, rfl, ha1, ha2⟩ := hT.a.len
  obtain ⟨W, hW⟩ : ∃ W, (w.alloc (.cells #[.slice NA L.length nc] 22)).alloc (BoxF t (.slice VA t.vars.length vc) (.slice KA t.keys.length kc) (.slice AA t.args.length ac)) = W := ⟨_, rfl⟩
  have hbw : Below w.heap.size w W := by rw [← hW]; exact ((Below.refl _ _).alloc (Nat.le_refl _) _).alloc (by simp) _
  have HB := Lib.hid hbw
  have HL := Lib.hid (show Blk W w.heap.size 22 #[.slice NA L.length nc] by rw [← hW]; exact (Blk.new _ _ _).alloc _)
  have HX := Lib.hid (show Blk W (w.heap.size + 1) 43 #[.int .i64 t.k, .int .i64 t.n, .int .i64 t.m, .int .i64 t.i, .int .u64 t.b, .string ⟨t.t.toArray⟩, .slice VA t.vars.length vc, .slice KA t.keys.length kc, .slice AA t.args.length ac] by rw [← hW]; exact blk_atF (by simp) _ _)
  have HN := Lib.hid (hN.below hbw)
  have HT := Lib.hid (hT.below hbw)
  have HPV := Lib.hid (hP.below hbw)
  have HA := Lib.hid hA
  have d0 : W.cell? ⟨w.heap.size, 0, none⟩ = some (.slice NA L.length nc) := HL.out.cell 0
  have c0 : W.cell? ⟨w.heap.size + 1, 0, none⟩ = some (.int .i64 t.k) := HX.out.cell 0
  unfold BoxF at hW
  unfold flVals
  obtain ⟨R, hR⟩ : ∃ R, formedG prims L t = R := ⟨_, rfl⟩
  rw [hR]
  unfold formedG at hR
  clear hN hT hA hP hbw
  rcases (by omega : t.k = 9 ∨ t.k = 10 ∨ (t.k ≠ 9 ∧ t.k ≠ 10)) with h9 | h10 | ⟨h9, h10⟩
  · have q9 := b_true h9
    rw [if_pos (.inl h9)] at hR
    subst hR
    clear h9
    go_enter Tryz.func10, Tryz.ntmps10
    go_wp2_with fail
    go_ret
    exact ⟨rfl, HB.out⟩
  · have q9 := b_false (show t.k ≠ 9 by omega)
    have q10 := b_true h10
    rw [if_pos (.inr h10)] at hR
    subst hR
    clear h10
    go_enter Tryz.func10, Tryz.ntmps10
    go_wp2_with fail
    go_ret
    exact ⟨rfl, HB.out⟩
  · have q9 := b_false h9
    have q10 := b_false h10
    rw [if_neg (by omega)] at hR
    by_cases h15 : t.k = 15
    · have q15 := b_true h15
      rw [if_pos h15] at hR
      have c2 : W.cell? ⟨w.heap.size + 1, 2, none⟩ = some (.int .i64 t.m) := HX.out.cell 2
      have c8 : W.cell? ⟨w.heap.size + 1, 8, none⟩ = some (.slice AA t.args.length ac) := HX.out.cell 8
      clear h9 h10 h15
      by_cases hm : 0 ≤ t.m
      · have qm := decide_eq_true hm
        by_cases hl : t.args.length ≤ 65
        · have ql := decide_eq_true (show (t.args.length : Int) ≤ 65 by omega)
          rw [decide_eq_true ⟨hm, hl⟩, Bool.true_and] at hR
          have HC := Lib.hid (fatomcon_any L t.args _ _ w.heap.size _ W HN.out HA.out HT.out.a d0)
          obtain ⟨b, hb⟩ : ∃ b, (t.args.any fun a => !atomB (kindC L a)) = b := ⟨_, rfl⟩
          have hRb : R = !b := by rw [← hR, ← hb, all_any]; rfl
          rw [hb] at HC
          subst hRb
          clear hR hb hm hl
          go_enter Tryz.func10, Tryz.ntmps10
          go_wp2_with (go_at_call 27; ((with_reducible refine (HC.out).mono ?_); rintro e w' ⟨rfl, rfl⟩))
          go_ret
          exact ⟨rfl, HB.out⟩
        · have ql := decide_eq_false (show ¬ (t.args.length : Int) ≤ 65 by omega)
          obtain rfl : R = false := by rw [← hR, decide_eq_false (by omega)]; rfl
          clear hR hm hl
          go_enter Tryz.func10, Tryz.ntmps10
          go_wp2_with fail
          go_ret
          exact ⟨rfl, HB.out⟩
      · have qm := decide_eq_false hm
        obtain rfl : R = false := by rw [← hR, decide_eq_false (by omega)]; rfl
        clear hR hm
        go_enter Tryz.func10, Tryz.ntmps10
        go_wp2_with fail
        go_ret
        exact ⟨rfl, HB.out⟩
    · have q15 := b_false h15
      rw [if_neg h15] at hR
      have HF := Lib.hid (formedAs_any L t (.slice NA L.length nc) (.slice VA t.vars.length vc) (.slice KA t.keys.length kc) (.slice AA t.args.length ac) pv W HN.out HT.out HA.out HPV.out hla)
      rw [hR] at HF
      unfold flVals at HF
      have c1 : W.cell? ⟨w.heap.size + 1, 1, none⟩ = some (.int .i64 t.n) := HX.out.cell 1
      have c2 : W.cell? ⟨w.heap.size + 1, 2, none⟩ = some (.int .i64 t.m) := HX.out.cell 2
      have c3 : W.cell? ⟨w.heap.size + 1, 3, none⟩ = some (.int .i64 t.i) := HX.out.cell 3
      have c4 : W.cell? ⟨w.heap.size + 1, 4, none⟩ = some (.int .u64 t.b) := HX.out.cell 4
      have c5 : W.cell? ⟨w.heap.size + 1, 5, none⟩ = some (.string ⟨t.t.toArray⟩) := HX.out.cell 5
      have c6 : W.cell? ⟨w.heap.size + 1, 6, none⟩ = some (.slice VA t.vars.length vc) := HX.out.cell 6
      have c7 : W.cell? ⟨w.heap.size + 1, 7, none⟩ = some (.slice KA t.keys.length kc) := HX.out.cell 7
      have c8 : W.cell? ⟨w.heap.size + 1, 8, none⟩ = some (.slice AA t.args.length ac) := HX.out.cell 8
      clear h9 h10 h15 hR
      go_enter Tryz.func10, Tryz.ntmps10
      go_wp2_with (go_at_call 30; ((with_reducible refine (HF.out).mono ?_); rintro e w2 ⟨rfl, hb2⟩; have HB2 := Lib.hid (HB.out.trans (hb2.mono HB.out.size)); clear hb2))
      go_ret
      exact ⟨rfl, HB2.out⟩
end Go.Proofs.YtjhdlnllhjffkaaGreatDoor

namespace Go.Proofs.YtjhdlnllhjffkaaGreatDoor
open Go.RowKit LamM CpsM CloM
set_option maxRecDepth 100000 in
set_option maxHeartbeats 2000000 in
theorem fpar1_any (ps : List Int) (vl : Value) (a : Int) (g B : Nat) (w : World) (hP : IV w B vl ps) (hg : w.cell? ⟨g, 0, none⟩ = some vl) :
    Calls Tryz.prog 14 #[.int .i64 a, .pointer (some ⟨g, 0, none⟩)] w fun e w' => e = .returned (.bool (!ps.contains a)) ∧ w = w' := by
  have HC := Lib.hid (con_any ps vl a B w hP)
  obtain ⟨A, c, rfl, h1, h2⟩ := hP.len
  generalize ps.contains a = r at *
  clear hP
  go_enter Tryz.func14, Tryz.ntmps14
  go_wp2_with (go_at_call 15; ((with_reducible refine (HC.out).mono ?_); rintro e w' ⟨rfl, rfl⟩))
  go_ret
  exact ⟨by cases r <;> rfl, rfl⟩
set_option maxRecDepth 100000 in
set_option maxHeartbeats 2000000 in
theorem fparidx_any (ps : List Int) (l : List Int) (vl v : Value) (g B C : Nat) (w : World) (hN : IV w C vl ps) (hVL : IV w B v l) (hg : w.cell? ⟨g, 0, none⟩ = some vl) :
    Calls Tryz.prog 33 #[v, .func (.func 14) #[] #[.pointer (some ⟨g, 0, none⟩)]] w (IdxPost (l.any fun a => !ps.contains a) w) := by
  obtain ⟨A, c, rfl, h1, h2⟩ := hVL.len
  have hl : l.length ≤ 9223372036854775807 := by unfold maxLen at h2; omega
  have HV := Lib.hid hVL
  have HW := Lib.hid (fun a (_ : a ∈ l) => fpar1_any ps vl a g C w hN hg)
  have HY := Lib.hid (fun k a (h : l[k]? = some a) (hc : (!ps.contains a) = true) => any_yesf (f := fun a => !ps.contains a) h hc)
  have HN := Lib.hid (any_nof (l := l) (f := fun a => !ps.contains a))
  unfold IdxPost
  obtain ⟨r, hr2⟩ : ∃ r, (l.any fun a => !ps.contains a) = r := ⟨_, rfl⟩
  rw [hr2] at HY HN ⊢
  clear hr2 hVL hN hg
  go_enter Tryz.func33, Tryz.ntmps33
  go_wp2
  go_loopw [8] (fun iv wr => wr = w ∧ ∃ k : Nat, k ≤ l.length ∧ iv = .int .i64 (k : Int) ∧ Hid (∀ j x, j < k → l[j]? = some x → (!ps.contains x) = false)) (fun iv _ => l.length - (intOf iv).toNat)
  case atStart => exact ⟨rfl, 0, Nat.zero_le _, rfl, Lib.hid (fun j x h => by omega)⟩
  case round =>
    obtain ⟨rfl, k, hk, rfl, HK⟩ := hrel
    rcases Nat.lt_or_ge k l.length with hlt | hge
    · obtain ⟨a, ha⟩ : ∃ a, l[k]? = some a := ⟨_, List.getElem?_eq_getElem hlt⟩
      obtain ⟨aa, rfl, _, ca⟩ := HV.out.at_ ha
      have hm1 : (k : Int) < (l.length : Int) := by omega
      have HWa := Lib.hid (HW.out a (List.mem_of_getElem? ha))
      cases hca : (!ps.contains a)
      · rw [hca] at HWa
        have HK2 := Lib.hid (show ∀ j x, j < k + 1 → l[j]? = some x → (!ps.contains x) = false from fun j x hj hx => by
          rcases Nat.lt_or_ge j k with h3 | h3
          · exact HK.out j x h3 hx
          · obtain rfl : j = k := by omega
            rw [ha] at hx; rw [← Option.some.inj hx]; exact hca)
        clear ha hca
        go_wp2_with (go_at_call 14; ((with_reducible refine (HWa.out).mono ?_); rintro e w' ⟨rfl, rfl⟩))
        go_roundw
        case rel => exact ⟨by first | rfl | trivial, k + 1, by omega, by go_num, HK2⟩
        case measure => simp [intOf]; omega
      · rw [hca] at HWa
        have HR := Lib.hid (HY.out k a ha hca)
        clear ha hca
        go_wp2_with (go_at_call 14; ((with_reducible refine (HWa.out).mono ?_); rintro e w' ⟨rfl, rfl⟩))
        go_ret
        exact ⟨(k : Int), rfl, fun _ => by omega, fun h => (by rw [HR.out] at h; cases h), rfl⟩
    · have q : (l.length : Int) ≤ (k : Int) := by omega
      have HR := Lib.hid (HN.out (fun j x hj hx => HK.out j x (by omega) hx))
      clear hge hk
      go_wp2_with fail
      go_ret
      exact ⟨-1, rfl, fun h => (by rw [HR.out] at h; cases h), fun _ => rfl, rfl⟩
set_option maxRecDepth 100000 in
theorem fparcon_any (ps : List Int) (l : List Int) (vl v : Value) (g B C : Nat) (w : World) (hN : IV w C vl ps) (hVL : IV w B v l) (hg : w.cell? ⟨g, 0, none⟩ = some vl) :
    Calls Tryz.prog 13 #[v, .func (.func 14) #[] #[.pointer (some ⟨g, 0, none⟩)]] w fun e w' => e = .returned (.bool (l.any fun a => !ps.contains a)) ∧ w = w' := by
  have H := Lib.hid (fparidx_any ps l vl v g B C w hN hVL hg)
  obtain ⟨r, hr2⟩ : ∃ r, (l.any fun a => !ps.contains a) = r := ⟨_, rfl⟩
  unfold IdxPost at H
  rw [hr2] at H ⊢
  clear hVL hN hg hr2
  go_enter Tryz.func13, Tryz.ntmps13
  go_wp2_with fail
  go_at_call 33
  (with_reducible refine (H.out).mono ?_)
  rintro e w' ⟨z, rfl, hz1, hz2, rfl⟩
  cases r
  · obtain rfl := hz2 rfl
    clear hz1 hz2
    go_wp2_with fail
    go_ret
    exact ⟨rfl, rfl⟩
  · have hz := hz1 rfl
    have qz := decide_eq_true hz
    clear hz1 hz2
    go_wp2_with fail
    go_ret
    exact ⟨by simp, rfl⟩
end Go.Proofs.YtjhdlnllhjffkaaGreatDoor
