/- Close: the free variables of all nodes that matter. -/
import Derived.Test.YtjhdlnllhjffkaaGreatDoorCloMh
import Derived.Test.YtjhdlnllhjffkaaGreatDoorCpsT
import Derived.Test.YtjhdlnllhjffkaaGreatDoorCloUn
namespace Go.Proofs.YtjhdlnllhjffkaaGreatDoor
open Go.RowKit LamM CpsM CloM

/-- The state of the rounds. -/
structure FrD (E : TypeId) (w0 : World) (n n' g gb : Nat) (inb : Nat → Bool) (F : Nat → List Int) (vs : List Value) (wr : World) : Prop where
  inb : wr.ownsRow gb 4 1 (.slice (some ⟨gb, 0, none⟩) n' n') n' (boolVals n' inb)
  row : wr.ownsRow g E 1 (.slice (some ⟨g, 0, none⟩) n n) n vs
  len : vs.length = n
  val : ∀ j v, vs[j]? = some v → IV wr wr.heap.size v (F j)
  bel : Below w0.heap.size w0 wr
  hb : gb < g
  hw : w0.heap.size ≤ g
section
variable {E : TypeId} {w0 wr w' : World} {n n' g gb : Nat} {inb : Nat → Bool} {F : Nat → List Int} {vs : List Value}
theorem FrD.lt (H : FrD E w0 n n' g gb inb F vs wr) : g < wr.heap.size := (World.ownsRow.lt H.row g rfl).2
theorem FrD.below (H : FrD E w0 n n' g gb inb F vs wr) (hb : Below wr.heap.size wr w') : FrD E w0 n n' g gb inb F vs w' :=
  ⟨ownsRow_below H.inb hb, ownsRow_below H.row hb, H.len, fun j v hj => (H.val j v hj).below hb, H.bel.trans (hb.mono H.bel.size), H.hb, H.hw⟩
theorem FrD.drew (H : FrD E w0 n n' g gb inb F vs wr) : FrD E w0 n n' g gb inb F vs wr.drew := H.below (Below.drew (Below.refl _ _))
/-- The cell of a node's set. -/
theorem FrD.at_ (H : FrD E w0 n n' g gb inb F vs wr) {i : Nat} (hi : i < n) : ∃ v, vs[i]? = some v ∧ wr.cell? ⟨g, i, none⟩ = some v ∧ wr.frozen? ⟨g, i, none⟩ = false ∧ IV wr wr.heap.size v (F i) := by
  obtain ⟨v, hv⟩ : ∃ v, vs[i]? = some v := ⟨_, List.getElem?_eq_getElem (by have := H.len; omega)⟩
  exact ⟨v, hv, (World.ownsRow.cellAt H.row i (by omega)).trans hv, World.ownsRow.frozenAt H.row i, H.val i v hv⟩
theorem FrD.made (H : FrD E w0 n n' g gb inb F vs wr) {i : Nat} (hi : i < n') : wr.cell? ⟨gb, i, none⟩ = some (.bool (inb i)) := by
  rw [World.ownsRow.cellAt H.inb i (by omega), boolVals_get hi]
theorem FrD.store (H : FrD E w0 n n' g gb inb F vs wr) {i : Nat} (hi : i < n) {u : Value} {l : List Int} (hu : IV wr wr.heap.size u l) : FrD E w0 n n' g gb inb (updS F i l) (vs.set i u) (wr.setCell ⟨g, i, none⟩ u) := by
  obtain ⟨v, hv, hc, _, hiv⟩ := H.at_ hi
  obtain ⟨A, c, rfl, _⟩ := hiv.len
  obtain ⟨ho, hg⟩ := World.ownsRow.stored H.row i u
  have hs : (wr.setCell ⟨g, i, none⟩ u).heap.size = wr.heap.size := by simp [World.setCell]
  refine ⟨H.inb.kept hg (.inr ?_), ho, by rw [List.length_set]; exact H.len, fun j x hj => ?_, H.bel.setCell (H.hw) u, H.hb, H.hw⟩
  · intro e; have := Option.some.inj (show some gb = some g from e); have := H.hb; omega
  · rw [hs]
    rw [List.getElem?_set] at hj
    by_cases e : i = j
    · subst e
      rw [if_pos rfl, if_pos (by have := H.len; omega)] at hj
      rw [← Option.some.inj hj, updS_at]
      exact hu.store hc u
    · rw [if_neg e] at hj
      rw [updS_ne (fun h => e h.symm)]
      exact (H.val j x hj).store hc u
theorem FrD.cell_ (H : FrD E w0 n n' g gb inb F vs wr) {i : Nat} {v : Value} (hv : vs[i]? = some v) (hi : i < n) : wr.cell? ⟨g, i, none⟩ = some v := (World.ownsRow.cellAt H.row i (by omega)).trans hv
theorem keepD10 {S : Nat} {tt : TypeId} {v0 v1 v2 v3 v4 v5 v6 v7 v8 vi vx : Value} {i x : Nat} (H : FrD E w0 n n' g gb inb F vs wr) (hB : Blk wr S tt #[v0, v1, v2, v3, v4, v5, v6, v7, v8]) (hi : vs[i]? = some vi) (hx : vs[x]? = some vx) (h1 : i < n) (h2 : x < n) :
    wr.cell? ⟨g, i, none⟩ = some vi ∧ wr.cell? ⟨g, x, none⟩ = some vx ∧ wr.cell? ⟨S, 0, none⟩ = some v0 ∧ wr.cell? ⟨S, 1, none⟩ = some v1 ∧ wr.cell? ⟨S, 2, none⟩ = some v2 ∧ wr.cell? ⟨S, 3, none⟩ = some v3 ∧ wr.cell? ⟨S, 4, none⟩ = some v4 ∧ wr.cell? ⟨S, 5, none⟩ = some v5 ∧ wr.cell? ⟨S, 6, none⟩ = some v6 ∧ wr.cell? ⟨S, 7, none⟩ = some v7 ∧ wr.cell? ⟨S, 8, none⟩ = some v8 :=
  ⟨H.cell_ hi h1, H.cell_ hx h2, hB.cell 0, hB.cell 1, hB.cell 2, hB.cell 3, hB.cell 4, hB.cell 5, hB.cell 6, hB.cell 7, hB.cell 8⟩
theorem FrD.cast {F' : Nat → List Int} (H : FrD E w0 n n' g gb inb F vs wr) (h : F = F') : FrD E w0 n n' g gb inb F' vs wr := h ▸ H
end
theorem FrD.start {E : TypeId} {w w1 w3 : World} {n n' gb : Nat} {inb : Nat → Bool} (hob : w1.ownsRow gb 4 1 (.slice (some ⟨gb, 0, none⟩) n' n') n' (boolVals n' inb)) (hb1 : Below w.heap.size w w1)
    (hw3 : w3.ownsRow w1.heap.size E 1 (.slice (some ⟨w1.heap.size, 0, none⟩) n n) n (List.replicate n (.slice none 0 0))) (hg3 : w1.grownBy w3 none) :
    FrD E w n n' w1.heap.size gb inb (fun _ => []) (List.replicate n (.slice none 0 0)) w3 := by
  have hb3 : Below w1.heap.size w1 w3 := (Below.refl _ _).grown hg3 (Nat.le_refl _) (fun k hk => by cases hk)
  have h1 := (World.ownsRow.lt hob gb rfl).2
  refine ⟨ownsRow_below hob hb3, hw3, by simp, fun j v hj => ?_, hb1.trans (hb3.mono hb1.size), h1, hb1.size⟩
  rw [List.getElem?_replicate] at hj
  split at hj
  · rw [← Option.some.inj hj]; exact nil_IV _ _
  · cases hj
theorem infoSetF : (Tryz.prog.info? 49).map (fun i => (i.zero, i.size, i.bytes)) = some (some (.slice none 0 0), 1, 24) := by kernel_rfl
theorem undSetsF : Tryz.prog.underlying 46 = some (.slice 49) := by kernel_rfl
set_option maxRecDepth 100000 in
set_option maxHeartbeats 8000000 in
theorem ffrees_any (L : List Fl) (A : Option Addr) (c n gb : Nat) (inb : Nat → Bool) (w0 w : World) (hn : n = L.length) (hn0 : 0 < n) (hN : NF w0 w0.heap.size (.slice A L.length c) L) (hob : w.ownsRow gb 4 1 (.slice (some ⟨gb, 0, none⟩) n n) n (boolVals n inb)) (hb0 : Below w0.heap.size w0 w)
    (hA : ∀ i t, inb i = true → L[i]? = some t → ∀ a ∈ t.args, 0 ≤ a ∧ a < (i : Int)) :
    Calls Tryz.prog 12 #[.slice A L.length c, .slice (some ⟨gb, 0, none⟩) n n] w fun e w' => ∃ g vs, e = .returned (.slice (some ⟨g, 0, none⟩) n n) ∧ FrD 49 w0 n n g gb inb (freeAllC inb L n) vs w' := by
  obtain ⟨i0, hi0, hz0, hz1, hz2⟩ := info_parts infoSetF
  obtain ⟨A', c', e, hc1, hc2⟩ := hN.len
  injection e with e1 e2 e3
  subst e1 e3
  have HN := Lib.hid hN
  have HALL := Lib.hid (fun i j => all_inC inb L i j)
  have hLn : n ≤ 1300000000000 := by omega
  have hLt : (tms L).length = L.length := tms_len L
  have HAN := Lib.hid (fun i t (h : L[i]? = some t) (hb : inb i = true) => all_nodeC h hb)
  have HAS := Lib.hid (fun i t (h : L[i]? = some t) (hb : inb i = false) => all_skipC h hb)
  have HA0 := Lib.hid (show freeAllC inb L 0 = fun _ => [] from rfl)
  have HAB := Lib.hid (fun i => all_beyondC (inb := inb) (L := L) (Nat.le_refl i))
  have HAR := Lib.hid hA
  obtain ⟨FF, hFF⟩ : ∃ F, freeAllC inb L = F := ⟨_, rfl⟩
  rw [hFF] at HALL HAN HAS HA0 HAB ⊢
  have HLT := Lib.hid hLt
  have HNL := Lib.hid hn
  have HOB := Lib.hid hob
  have HB1 := Lib.hid hb0
  rw [← hn]
  clear hN hn hFF hLt hob hb0 hA
  go_enter Tryz.func12, Tryz.ntmps12
  go_wp2_with (refine wpList_make_full _ rfl _ _ _ rfl w.heap.size 49 i0 (.slice none 0 0) 1 undSetsF hi0 hz0 hz1 _ _ _ _ n rfl rfl (by omega) (by omega) (by rw [hz2]; omega) (by unfold maxLen; omega) (Nat.le_refl _) ?_)
  intro w3 hown3 hgrow3
  rw [toList_madeCells_one] at hown3
  have HS0 := Lib.hid (FrD.start HOB.out HB1.out hown3 hgrow3)
  obtain ⟨g, hg⟩ : ∃ g, w.heap.size = g := ⟨_, rfl⟩
  rw [hg] at HS0 ⊢
  clear hown3 hgrow3 HOB HB1 hg
  generalize List.replicate n (Value.slice none 0 0) = vs0 at HS0
  go_wp2_with fail
  go_loopw [16] (fun ix wr => ∃ (k : Nat) (vs : List Value), k ≤ n ∧ ix = .int .i64 (k : Int) ∧ Hid (FrD 49 w0 n n g gb inb (FF k) vs wr)) (fun ix _ => n - (intOf ix).toNat)
  case atStart => exact ⟨0, vs0, Nat.zero_le _, rfl, by rw [HA0.out]; exact HS0⟩
  case round =>
    obtain ⟨k, vs, hk, rfl, HS⟩ := hrel
    obtain ⟨wo, rfl⟩ : ∃ wo : World, wo = wr := ⟨_, rfl⟩
    rcases Nat.lt_or_ge k n with hlt | hge
    · obtain ⟨t, ht⟩ : ∃ t, L[k]? = some t := ⟨_, List.getElem?_eq_getElem (by have := HNL.out; omega)⟩
      have HNr := HN.out.keep (fun p hp => HS.out.bel.cell hp)
      obtain ⟨ad, vv, kv, av, rfl, had, htv, a0, a1, a2, a3, a4, a5, a6, a7, a8⟩ := HNr.at9 ht
      obtain ⟨VA, vc, rfl, _, _⟩ := htv.v.len
      obtain ⟨KA, kc, rfl, _, _⟩ := htv.k.len
      obtain ⟨AA, ac, rfl, ha1, ha2⟩ := htv.a.len
      have lv := htv.lv
      have lk := htv.lk
      have la := htv.la
      have HTV := Lib.hid htv
      obtain ⟨W1, hW⟩ : ∃ W1, wo.alloc (BoxF t (.slice VA t.vars.length vc) (.slice KA t.keys.length kc) (.slice AA t.args.length ac)) = W1 := ⟨_, rfl⟩
      have hbw : Below wo.heap.size wo W1 := by rw [← hW]; exact (Below.refl _ _).alloc (Nat.le_refl _) _
      have HBX := Lib.hid (show Blk W1 wo.heap.size 43 #[.int .i64 t.k, .int .i64 t.n, .int .i64 t.m, .int .i64 t.i, .int .u64 t.b, .string ⟨t.t.toArray⟩, .slice VA t.vars.length vc, .slice KA t.keys.length kc, .slice AA t.args.length ac] by rw [← hW]; exact Blk.new _ _ _)
      have HS1 := Lib.hid (HS.out.below hbw)
      have HBW := Lib.hid hbw
      have cin := HS1.out.made hlt
      unfold BoxF at hW
      have hkn : (k : Int) < (n : Int) := by omega
      clear htv HNr hbw
      cases hin : inb k
      · rw [hin] at cin
        have HE := Lib.hid (HAS.out k t ht hin)
        clear ht hin
        go_wp2_with fail
        go_roundw
        case rel => exact ⟨k + 1, vs, by omega, by go_num, by rw [HE.out]; exact HS1⟩
        case measure => simp [intOf]; omega
      · rw [hin] at cin
        have HE := Lib.hid (HAN.out k t ht hin)
        have HAL := Lib.hid (HAR.out k t hin ht)
        obtain ⟨RR, hRR⟩ : ∃ RR, freeArgsC L (FF k) t k t.args (freeHeadC t) = RR := ⟨_, rfl⟩
        rw [hRR] at HE
        have HMT := Lib.hid (List.mem_of_getElem? ht)
        have HHI := Lib.hid (head_inC HMT.out)
        have HQ := Lib.hid (show freeArgsC L (FF k) t k (t.args.drop 0) (freeHeadC t) = RR from hRR)
        have HZ := Lib.hid (HAB.out k)
        have c0 : W1.cell? ⟨wo.heap.size, 0, none⟩ = some (.int .i64 t.k) := HBX.out.cell 0
        have c1 : W1.cell? ⟨wo.heap.size, 1, none⟩ = some (.int .i64 t.n) := HBX.out.cell 1
        clear ht hin hRR
        have c6 : W1.cell? ⟨wo.heap.size, 6, none⟩ = some (.slice VA t.vars.length vc) := HBX.out.cell 6
        have HVV := Lib.hid (show IV W1 W1.heap.size (.slice VA t.vars.length vc) t.vars from ((HTV.out.keep (w' := W1) (fun p hp => (HS1.out.bel.cell hp).trans (HS.out.bel.cell hp).symm)).more (by have := HS1.out.bel.size; omega)).v)
        go_upto_block 2 with fail
        go_cut [16, 8] from 16 to 89 (fun ix bv wx => ix = .int .i64 (k : Int) ∧ ∃ vs1 : List Value, Hid (FrD 49 w0 n n g gb inb (updS (FF k) k (freeHeadC t)) vs1 wx) ∧ Hid (Blk wx wo.heap.size 43 #[.int .i64 t.k, .int .i64 t.n, .int .i64 t.m, .int .i64 t.i, .int .u64 t.b, .string ⟨t.t.toArray⟩, .slice VA t.vars.length vc, .slice KA t.keys.length kc, .slice AA t.args.length ac]) ∧ Hid (IV wx wx.heap.size bv (bindsC t)))
        case first =>
          by_cases k1 : t.k = 1
          · have q1 := b_true k1
            have hba : Below W1.heap.size W1 (W1.alloc (.cells #[.int .i64 t.n] 3)) := (Below.refl _ _).alloc (Nat.le_refl _) _
            have HS2 := Lib.hid (HS1.out.below hba)
            obtain ⟨v0, _, cv, fv, _⟩ := HS2.out.at_ hlt
            have HS3 := Lib.hid (HS2.out.store hlt (u := .slice (some ⟨W1.heap.size, 0, none⟩) 1 1) ((one_IV W1 t.n).more (by simp)))
            have hgS : g < wo.heap.size := HS.out.lt
            have HX3 := Lib.hid ((HBX.out.alloc (.cells #[.int .i64 t.n] 3)).far (p := ⟨g, k, none⟩) (by show wo.heap.size ≠ g; omega) (.slice (some ⟨W1.heap.size, 0, none⟩) 1 1))
            have HK1 := Lib.hid (show freeHeadC t = [t.n] from if_pos k1)
            have HK2 := Lib.hid (show bindsC t = [] from bindsC_o (.inl (by omega)))
            clear k1 hba
            go_wp2_with fail
            go_meet
            case rel => exact ⟨rfl, _, by rw [HK1.out]; exact HS3, HX3, by rw [HK2.out]; exact Lib.hid (nil_IV _ _)⟩
          · have q1 := b_false k1
            have HK1 := Lib.hid (show freeHeadC t = [] from if_neg k1)
            have HS5 := Lib.hid (show FrD 49 w0 n n g gb inb (updS (FF k) k (freeHeadC t)) vs W1 by rw [HK1.out]; exact HS1.out.cast (updS_id HZ.out).symm)
            have hba : Below W1.heap.size W1 (W1.alloc (.cells #[.int .i64 t.n] 3)) := (Below.refl _ _).alloc (Nat.le_refl _) _
            have HS6 := Lib.hid (HS5.out.below hba)
            have HX6 := Lib.hid (HBX.out.alloc (.cells #[.int .i64 t.n] 3))
            have HON := Lib.hid (show IV (W1.alloc (.cells #[.int .i64 t.n] 3)) (W1.alloc (.cells #[.int .i64 t.n] 3)).heap.size (.slice (some ⟨W1.heap.size, 0, none⟩) 1 1) [t.n] from (one_IV W1 t.n).more (by simp))
            clear hba
            rcases (by omega : (t.k < 5 ∨ 10 < t.k) ∨ t.k = 5 ∨ t.k = 6 ∨ t.k = 7 ∨ t.k = 8 ∨ t.k = 9 ∨ t.k = 10) with h | h | h | h | h | h | h
            · have HK2 := Lib.hid (show bindsC t = _ from bindsC_o h)
              have q5 := b_false (show t.k ≠ 5 by omega)
              have q6 := b_false (show t.k ≠ 6 by omega)
              have q7 := b_false (show t.k ≠ 7 by omega)
              have q8 := b_false (show t.k ≠ 8 by omega)
              have q9 := b_false (show t.k ≠ 9 by omega)
              have q10 := b_false (show t.k ≠ 10 by omega)
              clear h k1
              go_wp2_with fail
              go_meet
              case rel => exact ⟨rfl, vs, HS5, HBX, by rw [HK2.out]; exact Lib.hid (nil_IV _ _)⟩
            · have HK2 := Lib.hid (show bindsC t = _ from bindsC_n (.inl h))
              have q5 := b_true h
              clear h k1
              go_wp2_with fail
              go_meet
              case rel => exact ⟨rfl, vs, HS6, HX6, by rw [HK2.out]; exact HON⟩
            · have HK2 := Lib.hid (show bindsC t = _ from bindsC_n (.inr (.inl h)))
              have q5 := b_false (show t.k ≠ 5 by omega)
              have q6 := b_true h
              clear h k1
              go_wp2_with fail
              go_meet
              case rel => exact ⟨rfl, vs, HS6, HX6, by rw [HK2.out]; exact HON⟩
            · have HK2 := Lib.hid (show bindsC t = _ from bindsC_n (.inr (.inr (.inl h))))
              have q5 := b_false (show t.k ≠ 5 by omega)
              have q6 := b_false (show t.k ≠ 6 by omega)
              have q7 := b_true h
              clear h k1
              go_wp2_with fail
              go_meet
              case rel => exact ⟨rfl, vs, HS6, HX6, by rw [HK2.out]; exact HON⟩
            · have HK2 := Lib.hid (show bindsC t = _ from bindsC_n (.inr (.inr (.inr h))))
              have q5 := b_false (show t.k ≠ 5 by omega)
              have q6 := b_false (show t.k ≠ 6 by omega)
              have q7 := b_false (show t.k ≠ 7 by omega)
              have q8 := b_true h
              clear h k1
              go_wp2_with fail
              go_meet
              case rel => exact ⟨rfl, vs, HS6, HX6, by rw [HK2.out]; exact HON⟩
            · have HK2 := Lib.hid (show bindsC t = _ from bindsC_v (.inl h))
              have q5 := b_false (show t.k ≠ 5 by omega)
              have q6 := b_false (show t.k ≠ 6 by omega)
              have q7 := b_false (show t.k ≠ 7 by omega)
              have q8 := b_false (show t.k ≠ 8 by omega)
              have q9 := b_true h
              clear h k1
              go_wp2_with fail
              go_meet
              case rel => exact ⟨rfl, vs, HS5, HBX, by rw [HK2.out]; exact HVV⟩
            · have HK2 := Lib.hid (show bindsC t = _ from bindsC_v (.inr h))
              have q5 := b_false (show t.k ≠ 5 by omega)
              have q6 := b_false (show t.k ≠ 6 by omega)
              have q7 := b_false (show t.k ≠ 7 by omega)
              have q8 := b_false (show t.k ≠ 8 by omega)
              have q9 := b_false (show t.k ≠ 9 by omega)
              have q10 := b_true h
              clear h k1
              go_wp2_with fail
              go_meet
              case rel => exact ⟨rfl, vs, HS5, HBX, by rw [HK2.out]; exact HVV⟩
        case rest =>
          obtain ⟨bv, rfl⟩ : ∃ bv, bv = u8 := ⟨_, rfl⟩
          obtain ⟨rfl, vs1, HS5, HX5, HBV⟩ := hcut
          clear cin c0 c1 c6
          have HTW := Lib.hid (show FV wc wc.heap.size t (.slice VA t.vars.length vc) (.slice KA t.keys.length kc) (.slice AA t.args.length ac) from (HTV.out.keep (w' := wc) (fun p hp => (HS5.out.bel.cell hp).trans (HS.out.bel.cell hp).symm)).more (by have := HS5.out.bel.size; omega))
          have b8 : wc.cell? ⟨wo.heap.size, 8, none⟩ = some (.slice AA t.args.length ac) := HX5.out.cell 8
          have HBI := Lib.hid (show ∀ acc l a, freeArgsC L (FF k) t k (a :: l) acc = freeArgsC L (FF k) t k l (if a < 0 ∨ (k : Int) ≤ a then acc else mrg acc (sel (atomB (kindC L a)) (bindsC t) (FF k a.toNat))) from fun _ _ _ => args_stepC)
          obtain ⟨bl, hbl⟩ : ∃ b, bindsC t = b := ⟨_, rfl⟩
          rw [hbl] at HBV HBI
          clear hbl
          go_wp2_with fail
          go_loopw [52] (fun jx wr => ∃ (m : Nat) (vs2 : List Value) (acc : List Int), m ≤ t.args.length ∧ jx = .int .i64 (m : Int) ∧ Hid (In (tms L) acc) ∧ Hid (freeArgsC L (FF k) t k (t.args.drop m) acc = RR) ∧ Hid (FrD 49 w0 n n g gb inb (updS (FF k) k acc) vs2 wr) ∧ Hid (Blk wr wo.heap.size 43 #[.int .i64 t.k, .int .i64 t.n, .int .i64 t.m, .int .i64 t.i, .int .u64 t.b, .string ⟨t.t.toArray⟩, .slice VA t.vars.length vc, .slice KA t.keys.length kc, .slice AA t.args.length ac]) ∧ Hid (IV wr wr.heap.size bv bl)) (fun jx _ => t.args.length - (intOf jx).toNat)
          case atStart => exact ⟨0, _, (freeHeadC t), Nat.zero_le _, rfl, HHI, HQ, HS5, HX5, HBV⟩
          case round =>
            obtain ⟨m, vs2, acc, hm, rfl, HI2, HQ2, HS2, HX2, HBV2⟩ := hrel
            rcases Nat.lt_or_ge m t.args.length with hmlt | hmge
            · obtain ⟨a, ha⟩ : ∃ a, t.args[m]? = some a := ⟨_, List.getElem?_eq_getElem hmlt⟩
              have htv2 := HTV.out.keep (w' := wr) (fun p hp => (HS2.out.bel.cell hp).trans (HS.out.bel.cell hp).symm)
              obtain ⟨aa, rfl, haa, ca2⟩ := htv2.a.at_ ha
              have hra := HTV.out.ra a (List.mem_of_getElem? ha)
              have hq2 := HQ2.out
              rw [drop_at ha, HBI.out] at hq2
              have hm1 : (m : Int) < (t.args.length : Int) := by omega
              have hlo := HAL.out a (List.mem_of_getElem? ha)
              clear ha
              rw [if_neg (by rintro (h | h) <;> omega)] at hq2
              obtain ⟨x, rfl⟩ : ∃ x : Nat, a = (x : Int) := ⟨a.toNat, by omega⟩
              rw [Int.toNat_natCast] at hq2
              obtain ⟨tx, htx⟩ : ∃ tx, L[x]? = some tx := ⟨_, List.getElem?_eq_getElem (by have := HNL.out; omega)⟩
              rw [kindC_at (by rw [Int.toNat_natCast]; exact htx)] at hq2
              obtain ⟨adx, _, _, _, hax, _, _, cxk, _⟩ := (HN.out.keep (w' := wr) (fun p hp => HS2.out.bel.cell hp)).at_ htx
              obtain rfl := Option.some.inj hax
              have HAT := Lib.hid (fun w' => catom_any tx.k w')
              obtain ⟨at_, hat⟩ : ∃ b, atomB tx.k = b := ⟨_, rfl⟩
              rw [hat] at hq2 HAT
              have HQ3 := Lib.hid hq2
              have q1 : decide ((x : Int) < 0) = false := decide_eq_false (by omega)
              have q2 : decide ((k : Int) ≤ (x : Int)) = false := decide_eq_false (by omega)
              have hxk : x < k := by omega
              have hxn0 : x < n := by omega
              have hxn : (x : Int) < (n : Int) := by omega
              obtain ⟨vi, ki, ci, fi, hvi⟩ := HS2.out.at_ (i := k) hlt
              obtain ⟨vx, kx, cx, _, hvx⟩ := HS2.out.at_ (i := x) hxn0
              rw [updS_at] at hvi
              rw [updS_ne (by omega)] at hvx
              obtain ⟨IA, ic, rfl, hi1, hi2⟩ := hvi.len
              obtain ⟨XA, xc, rfl, hx1, hx2⟩ := hvx.len
              have HIX := Lib.hid (HALL.out k x)
              have hla := HI2.out.len
              have hlx := HIX.out.len
              rw [HLT.out, ← HNL.out] at hla hlx
              have HWO := Lib.hid (fun w' vb (h1 : IV w' w'.heap.size (.slice XA (FF k x).length xc) (FF k x)) (h2 : IV w' w'.heap.size vb bl) => fwout_any (FF k x) bl _ vb w' HIX.out.ss (by omega) h1 h2)
              have HUN := Lib.hid (fun w' vb (h1 : IV w' w'.heap.size (.slice IA acc.length ic) acc) (h2 : IV w' w'.heap.size vb (sel at_ bl (FF k x))) => funion_any acc (sel at_ bl (FF k x)) _ vb w' HI2.out.ss (sel_in at_ HIX.out).ss (by omega) (by have := (sel_in (b := bl) at_ HIX.out).len; rw [HLT.out, ← HNL.out] at this; omega) h1 h2)
              have HS2D := Lib.hid HS2.out.drew
              have HX2D := Lib.hid HX2.out.drew
              have HVI := Lib.hid hvi.drew
              have HVX := Lib.hid hvx.drew
              have HKI := Lib.hid ki
              have HKX := Lib.hid kx
              have HBVD := Lib.hid HBV2.out.drew
              have K2 := Lib.hid (keepD10 HS2D.out HX2D.out ki kx hlt hxn0)
              have HI3 := Lib.hid (HI2.out.mrg (sel_in (b := bl) at_ HIX.out).sub)
              have hgS : g < wo.heap.size := HS.out.lt
              clear hq2 hlo htv2 hvi hvx hi1 hi2 hx1 hx2 ki kx htx hax hat
              have b8' : wr.cell? ⟨wo.heap.size, 8, none⟩ = some (.slice (some aa) t.args.length ac) := HX2.out.cell 8
              cases at_
              · go_wp2_with (go_at_call 29; ((with_reducible refine (HAT.out _).mono ?_); rintro e w' ⟨rfl, rfl⟩))
                go_region_with
                  (first
                    | (go_at_call 32; ((with_reducible refine (HWO.out _ _ HVX.out HBVD.out).mono ?_); rintro e w4 ⟨wv, rfl, hwv, hb4⟩; have HWV := Lib.hid (show IV w4 w4.heap.size wv (sel false bl (FF k x)) from hwv); have HS4 := Lib.hid (HS2D.out.below hb4); have HX4 := Lib.hid (HX2D.out.below hb4 HX2D.out.lt); have HVI4 := Lib.hid (HVI.out.below hb4); have HBV4 := Lib.hid (HBVD.out.below hb4); have K4 := Lib.hid (keepD10 HS4.out HX4.out HKI.out HKX.out hlt hxn0); have ck4 := K4.out; obtain ⟨e0, e1, e2, e3, e4, e5, e6, e7, e8, e9, e10⟩ := ck4; clear hwv hb4))
                    | (go_at_call 31; ((with_reducible refine (HUN.out _ _ HVI4.out HWV.out).mono ?_); rintro e w5 ⟨uv, rfl, huv, hb5⟩; obtain ⟨UA, uc, rfl, _, _⟩ := huv.len; have HS5 := Lib.hid (HS4.out.below hb5); have HX5 := Lib.hid (HX4.out.below hb5 HX4.out.lt); have HBV5 := Lib.hid (HBV4.out.below hb5); have f5 := World.ownsRow.frozenAt HS5.out.row k; have c5 := HS5.out.cell_ HKI.out hlt; have HS6 := Lib.hid ((HS5.out.store hlt huv).cast updS_two); have HX6 := Lib.hid (HX5.out.far (p := ⟨g, k, none⟩) (by show wo.heap.size ≠ g; omega) (.slice UA (mrg acc (sel false bl (FF k x))).length uc)); have HBV6 := Lib.hid (HBV5.out.store c5 (.slice UA (mrg acc (sel false bl (FF k x))).length uc)); clear huv hb5)))
                all_goals
                  go_wp2_with fail
                  go_roundw
                  case rel => exact ⟨m + 1, _, _, by omega, by go_num, HI3, HQ3, HS6, HX6, by simpa using HBV6⟩
                  case measure => simp [intOf]; omega
              · have HVXS := Lib.hid (show IV wr.drew wr.drew.heap.size (.slice XA (FF k x).length xc) (sel true bl (FF k x)) from HVX.out)
                go_wp2_with (go_at_call 29; ((with_reducible refine (HAT.out _).mono ?_); rintro e w' ⟨rfl, rfl⟩))
                go_region_with
                  (first
                    | (go_at_call 31; ((with_reducible refine (HUN.out _ _ HVI.out HVXS.out).mono ?_); rintro e w5 ⟨uv, rfl, huv, hb5⟩; obtain ⟨UA, uc, rfl, _, _⟩ := huv.len; have HS5 := Lib.hid (HS2D.out.below hb5); have HX5 := Lib.hid (HX2D.out.below hb5 HX2D.out.lt); have HBV5 := Lib.hid (HBVD.out.below hb5); have f5 := World.ownsRow.frozenAt HS5.out.row k; have c5 := HS5.out.cell_ HKI.out hlt; have HS6 := Lib.hid ((HS5.out.store hlt huv).cast updS_two); have HX6 := Lib.hid (HX5.out.far (p := ⟨g, k, none⟩) (by show wo.heap.size ≠ g; omega) (.slice UA (mrg acc (sel true bl (FF k x))).length uc)); have HBV6 := Lib.hid (HBV5.out.store c5 (.slice UA (mrg acc (sel true bl (FF k x))).length uc)); clear huv hb5)))
                all_goals
                  go_wp2_with fail
                  go_roundw
                  case rel => exact ⟨m + 1, _, _, by omega, by go_num, HI3, HQ3, HS6, HX6, by simpa using HBV6⟩
                  case measure => simp [intOf]; omega
            · obtain rfl : m = t.args.length := by omega
              have HRR := Lib.hid (show acc = RR by have := HQ2.out; rw [List.drop_length] at this; exact this)
              have q0 : (t.args.length : Int) ≤ (t.args.length : Int) := Int.le_refl _
              clear hmge hm
              go_wp2_with fail
              go_roundw
              case rel => exact ⟨k + 1, vs2, by omega, by go_num, by rw [HE.out, ← HRR.out]; exact HS2⟩
              case measure => simp [intOf]; omega
    · obtain rfl : k = n := by omega
      have q0 : (k : Int) ≤ (k : Int) := Int.le_refl _
      clear hge hk
      go_wp2_with fail
      go_ret
      exact ⟨g, vs, rfl, HS.out⟩

end Go.Proofs.YtjhdlnllhjffkaaGreatDoor
