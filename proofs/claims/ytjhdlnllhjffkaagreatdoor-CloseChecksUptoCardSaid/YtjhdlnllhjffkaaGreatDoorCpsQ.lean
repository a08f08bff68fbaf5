/- Cps: has a node its form: the program's formed, the reference's. -/
import Derived.Test.YtjhdlnllhjffkaaGreatDoorCpsE
import Derived.Test.YtjhdlnllhjffkaaGreatDoorCloMh
namespace Go.Proofs.YtjhdlnllhjffkaaGreatDoor
open Go.RowKit LamM CpsM

theorem formedC_1 {L : List Fl} {t : Fl} (h : t.k = 1) : formedC L t = (decide (t.args.length = 0 ∧ 0 ≤ t.n)) := by unfold formedC; rw [if_pos (by omega)]
theorem formedC_2 {L : List Fl} {t : Fl} (h : t.k = 2) : formedC L t = (decide (t.args.length = 0 ∧ -4611686018427387904 ≤ t.i ∧ t.i ≤ 4611686018427387903)) := by unfold formedC; rw [if_neg (by omega), if_pos (by omega)]
theorem formedC_3 {L : List Fl} {t : Fl} (h : t.k = 3) : formedC L t = (decide (t.args.length = 0)) := by unfold formedC; rw [if_neg (by omega), if_neg (by omega), if_pos (by omega)]
theorem formedC_4 {L : List Fl} {t : Fl} (h : t.k = 4) : formedC L t = (decide (t.args.length = 0 ∧ t.t.length ≤ 65536)) := by unfold formedC; rw [if_neg (by omega), if_neg (by omega), if_neg (by omega), if_pos (by omega)]
theorem formedC_5 {L : List Fl} {t : Fl} (h : t.k = 5) : formedC L t = (decide (2 ≤ t.args.length ∧ t.args.length ≤ 1025 ∧ 0 ≤ t.n) && (atomsB L (t.args.take (t.args.length - 1)) && movesB L (t.args.drop (t.args.length - 1)))) := by unfold formedC; rw [if_neg (by omega), if_neg (by omega), if_neg (by omega), if_neg (by omega), if_pos (by omega)]
theorem formedC_67 {L : List Fl} {t : Fl} (h : t.k = 6 ∨ t.k = 7) : formedC L t = (decide (t.args.length = 2 ∧ 0 ≤ t.n ∧ 0 ≤ t.m) && (atomsB L (t.args.take 1) && movesB L (t.args.drop 1))) := by unfold formedC; rw [if_neg (by omega), if_neg (by omega), if_neg (by omega), if_neg (by omega), if_neg (by omega), if_pos (by omega)]
theorem formedC_8 {L : List Fl} {t : Fl} (h : t.k = 8) : formedC L t = (decide (0 ≤ t.n)) := by unfold formedC; rw [if_neg (by omega), if_neg (by omega), if_neg (by omega), if_neg (by omega), if_neg (by omega), if_neg (by omega), if_pos (by omega)]
theorem formedC_9 {L : List Fl} {t : Fl} (h : t.k = 9) : formedC L t = (fixOkC L t) := by unfold formedC; rw [if_neg (by omega), if_neg (by omega), if_neg (by omega), if_neg (by omega), if_neg (by omega), if_neg (by omega), if_neg (by omega), if_pos (by omega)]
theorem formedC_10 {L : List Fl} {t : Fl} (h : t.k = 10) : formedC L t = (decide (t.args.length = 1) && (parOk t.vars && movesB L t.args)) := by unfold formedC; rw [if_neg (by omega), if_neg (by omega), if_neg (by omega), if_neg (by omega), if_neg (by omega), if_neg (by omega), if_neg (by omega), if_neg (by omega), if_pos (by omega)]
theorem formedC_11 {L : List Fl} {t : Fl} (h : t.k = 11) : formedC L t = (decide (1 ≤ t.args.length ∧ t.args.length ≤ 65) && atomsB L t.args) := by unfold formedC; rw [if_neg (by omega), if_neg (by omega), if_neg (by omega), if_neg (by omega), if_neg (by omega), if_neg (by omega), if_neg (by omega), if_neg (by omega), if_neg (by omega), if_pos (by omega)]
theorem formedC_12 {L : List Fl} {t : Fl} (h : t.k = 12) : formedC L t = (decide (t.args.length = 1 + t.keys.length ∨ t.args.length = 2 + t.keys.length) && (t.keys.all keyOk && (atomsB L (t.args.take 1) && movesB L (t.args.drop 1)))) := by unfold formedC; rw [if_neg (by omega), if_neg (by omega), if_neg (by omega), if_neg (by omega), if_neg (by omega), if_neg (by omega), if_neg (by omega), if_neg (by omega), if_neg (by omega), if_neg (by omega), if_pos (by omega)]
theorem formedC_1314 {L : List Fl} {t : Fl} (h : t.k = 13 ∨ t.k = 14) : formedC L t = (decide (t.args.length = 1) && atomsB L t.args) := by unfold formedC; rw [if_neg (by omega), if_neg (by omega), if_neg (by omega), if_neg (by omega), if_neg (by omega), if_neg (by omega), if_neg (by omega), if_neg (by omega), if_neg (by omega), if_neg (by omega), if_neg (by omega), if_pos (by omega)]
theorem formedC_no {L : List Fl} {t : Fl} (h : t.k < 1 ∨ 14 < t.k) : formedC L t = false := by unfold formedC; rw [if_neg (by omega), if_neg (by omega), if_neg (by omega), if_neg (by omega), if_neg (by omega), if_neg (by omega), if_neg (by omega), if_neg (by omega), if_neg (by omega), if_neg (by omega), if_neg (by omega), if_neg (by omega)]
theorem drop_whole {l : List Int} {a b : Nat} (hb : b = l.length) : (l.drop a).take (b - a) = l.drop a := List.take_of_length_le (by rw [List.length_drop]; omega)
theorem take_whole {l : List Int} {b : Nat} (hb : b = l.length) : (l.drop 0).take (b - 0) = l := by rw [List.drop_zero, Nat.sub_zero]; exact List.take_of_length_le (by omega)
set_option maxRecDepth 100000 in
set_option maxHeartbeats 4000000 in
theorem cformed_1 (L : List Fl) (t : Fl) (vl vv kv av : Value) (w : World) (hN : NF w w.heap.size vl L) (hT : FV w w.heap.size t vv kv av) (hA : ∀ a ∈ t.args, 0 ≤ a ∧ a < (L.length : Int)) (hk : t.k = 1) :
    Calls Tryz.prog 81 #[vl, .agg (flVals t vv kv av).toArray] w fun e w' => e = .returned (.bool (formedC L t)) ∧ Below w.heap.size w w' := by
  obtain ⟨NA, nc, rfl, hn1, hn2⟩ := hN.len
  obtain ⟨VA, vc, rfl, hv1, hv2⟩ := hT.v.len
  obtain ⟨KA, kc, rfl, hk1, hk2⟩ := hT.k.len
  obtain ⟨AA, ac, rfl, ha1, ha2⟩ := hT.a.len
  have lv := hT.lv
  have lk := hT.lk
  have la := hT.la
  obtain ⟨W, hW⟩ : ∃ W, w.alloc (BoxF t (.slice VA t.vars.length vc) (.slice KA t.keys.length kc) (.slice AA t.args.length ac)) = W := ⟨_, rfl⟩
  have hbw : Below w.heap.size w W := by rw [← hW]; exact (Below.refl _ _).alloc (Nat.le_refl _) _
  have HB := Lib.hid hbw
  have HX := Lib.hid (show Blk W w.heap.size 43 #[.int .i64 t.k, .int .i64 t.n, .int .i64 t.m, .int .i64 t.i, .int .u64 t.b, .string ⟨t.t.toArray⟩, .slice VA t.vars.length vc, .slice KA t.keys.length kc, .slice AA t.args.length ac] by rw [← hW]; exact Blk.new _ _ _)
  have HN := Lib.hid (hN.below hbw)
  have HT := Lib.hid (hT.below hbw)
  have HV := Lib.hid (hT.v.below hbw)
  have HK := Lib.hid (hT.k.below hbw)
  have HA := Lib.hid (hT.a.below hbw)
  have HR := Lib.hid hA
  have HW0 := Lib.hid (Below.refl W.heap.size W)
  clear hN hT hA hbw
  have c0 : W.cell? ⟨w.heap.size, 0, none⟩ = some (.int .i64 t.k) := HX.out.cell 0
  have c1 : W.cell? ⟨w.heap.size, 1, none⟩ = some (.int .i64 t.n) := HX.out.cell 1
  have c2 : W.cell? ⟨w.heap.size, 2, none⟩ = some (.int .i64 t.m) := HX.out.cell 2
  have c3 : W.cell? ⟨w.heap.size, 3, none⟩ = some (.int .i64 t.i) := HX.out.cell 3
  have c4 : W.cell? ⟨w.heap.size, 4, none⟩ = some (.int .u64 t.b) := HX.out.cell 4
  have c5 : W.cell? ⟨w.heap.size, 5, none⟩ = some (.string ⟨t.t.toArray⟩) := HX.out.cell 5
  have c6 : W.cell? ⟨w.heap.size, 6, none⟩ = some (.slice VA t.vars.length vc) := HX.out.cell 6
  have c7 : W.cell? ⟨w.heap.size, 7, none⟩ = some (.slice KA t.keys.length kc) := HX.out.cell 7
  have c8 : W.cell? ⟨w.heap.size, 8, none⟩ = some (.slice AA t.args.length ac) := HX.out.cell 8
  unfold BoxF at hW
  unfold flVals
  obtain ⟨R, hR⟩ : ∃ R, formedC L t = R := ⟨_, rfl⟩
  rw [hR]
  rw [formedC_1 hk] at hR
  have q1 := b_true (show t.k = 1 by omega)
  by_cases h1 : t.args.length = 0
  · have rh1 := b_true (show (t.args.length : Int) = 0 by omega)
    by_cases h2 : 0 ≤ t.n
    · have rh2 := decide_eq_true h2
      rw [decide_eq_true (by omega)] at hR
      subst hR
      clear hk
      clear h1 h2
      go_enter Tryz.func81, Tryz.ntmps81
      go_wp2_with fail
      go_ret
      exact ⟨rfl, HB.out.trans (HW0.out.mono HB.out.size)⟩
    · have rh2 := decide_eq_false h2
      obtain rfl : R = false := by rw [← hR, decide_eq_false (by omega)]
      clear hR hk
      clear h1 h2
      go_enter Tryz.func81, Tryz.ntmps81
      go_wp2_with fail
      go_ret
      exact ⟨rfl, HB.out.trans (HW0.out.mono HB.out.size)⟩
  · have rh1 := b_false (show (t.args.length : Int) ≠ 0 by omega)
    obtain rfl : R = false := by rw [← hR, decide_eq_false (by omega)]
    clear hR hk
    clear h1
    go_enter Tryz.func81, Tryz.ntmps81
    go_wp2_with fail
    go_ret
    exact ⟨rfl, HB.out.trans (HW0.out.mono HB.out.size)⟩
set_option maxRecDepth 100000 in
set_option maxHeartbeats 4000000 in
theorem cformed_2 (L : List Fl) (t : Fl) (vl vv kv av : Value) (w : World) (hN : NF w w.heap.size vl L) (hT : FV w w.heap.size t vv kv av) (hA : ∀ a ∈ t.args, 0 ≤ a ∧ a < (L.length : Int)) (hk : t.k = 2) :
    Calls Tryz.prog 81 #[vl, .agg (flVals t vv kv av).toArray] w fun e w' => e = .returned (.bool (formedC L t)) ∧ Below w.heap.size w w' := by
  obtain ⟨NA, nc, rfl, hn1, hn2⟩ := hN.len
  obtain ⟨VA, vc, rfl, hv1, hv2⟩ := hT.v.len
  obtain ⟨KA, kc, rfl, hk1, hk2⟩ := hT.k.len
  obtain ⟨AA, ac, rfl, ha1, ha2⟩ := hT.a.len
  have lv := hT.lv
  have lk := hT.lk
  have la := hT.la
  obtain ⟨W, hW⟩ : ∃ W, w.alloc (BoxF t (.slice VA t.vars.length vc) (.slice KA t.keys.length kc) (.slice AA t.args.length ac)) = W := ⟨_, rfl⟩
  have hbw : Below w.heap.size w W := by rw [← hW]; exact (Below.refl _ _).alloc (Nat.le_refl _) _
  have HB := Lib.hid hbw
  have HX := Lib.hid (show Blk W w.heap.size 43 #[.int .i64 t.k, .int .i64 t.n, .int .i64 t.m, .int .i64 t.i, .int .u64 t.b, .string ⟨t.t.toArray⟩, .slice VA t.vars.length vc, .slice KA t.keys.length kc, .slice AA t.args.length ac] by rw [← hW]; exact Blk.new _ _ _)
  have HN := Lib.hid (hN.below hbw)
  have HT := Lib.hid (hT.below hbw)
  have HV := Lib.hid (hT.v.below hbw)
  have HK := Lib.hid (hT.k.below hbw)
  have HA := Lib.hid (hT.a.below hbw)
  have HR := Lib.hid hA
  have HW0 := Lib.hid (Below.refl W.heap.size W)
  clear hN hT hA hbw
  have c0 : W.cell? ⟨w.heap.size, 0, none⟩ = some (.int .i64 t.k) := HX.out.cell 0
  have c1 : W.cell? ⟨w.heap.size, 1, none⟩ = some (.int .i64 t.n) := HX.out.cell 1
  have c2 : W.cell? ⟨w.heap.size, 2, none⟩ = some (.int .i64 t.m) := HX.out.cell 2
  have c3 : W.cell? ⟨w.heap.size, 3, none⟩ = some (.int .i64 t.i) := HX.out.cell 3
  have c4 : W.cell? ⟨w.heap.size, 4, none⟩ = some (.int .u64 t.b) := HX.out.cell 4
  have c5 : W.cell? ⟨w.heap.size, 5, none⟩ = some (.string ⟨t.t.toArray⟩) := HX.out.cell 5
  have c6 : W.cell? ⟨w.heap.size, 6, none⟩ = some (.slice VA t.vars.length vc) := HX.out.cell 6
  have c7 : W.cell? ⟨w.heap.size, 7, none⟩ = some (.slice KA t.keys.length kc) := HX.out.cell 7
  have c8 : W.cell? ⟨w.heap.size, 8, none⟩ = some (.slice AA t.args.length ac) := HX.out.cell 8
  unfold BoxF at hW
  unfold flVals
  obtain ⟨R, hR⟩ : ∃ R, formedC L t = R := ⟨_, rfl⟩
  rw [hR]
  rw [formedC_2 hk] at hR
  have q1 := b_false (show t.k ≠ 1 by omega)
  have q2 := b_true (show t.k = 2 by omega)
  have HC := Lib.hid (fun w => fright_any t.i w)
  by_cases h1 : t.args.length = 0
  · have rh1 := b_true (show (t.args.length : Int) = 0 by omega)
    have hR2 : rightI t.i = R := by rw [← hR]; unfold rightI; congr 1; exact propext ⟨fun h => ⟨h1, h⟩, fun h => h.2⟩
    rw [hR2] at HC
    clear hR hR2 h1 hk
    go_enter Tryz.func81, Tryz.ntmps81
    go_wp2_with (go_at_call 147; ((with_reducible refine (HC.out _).mono ?_); rintro e w' ⟨rfl, rfl⟩))
    go_ret
    exact ⟨rfl, HB.out.trans (HW0.out.mono HB.out.size)⟩
  · have rh1 := b_false (show (t.args.length : Int) ≠ 0 by omega)
    obtain rfl : R = false := by rw [← hR, decide_eq_false (by omega)]
    clear hR hk
    clear h1
    go_enter Tryz.func81, Tryz.ntmps81
    go_wp2_with fail
    go_ret
    exact ⟨rfl, HB.out.trans (HW0.out.mono HB.out.size)⟩
set_option maxRecDepth 100000 in
set_option maxHeartbeats 4000000 in
theorem cformed_3 (L : List Fl) (t : Fl) (vl vv kv av : Value) (w : World) (hN : NF w w.heap.size vl L) (hT : FV w w.heap.size t vv kv av) (hA : ∀ a ∈ t.args, 0 ≤ a ∧ a < (L.length : Int)) (hk : t.k = 3) :
    Calls Tryz.prog 81 #[vl, .agg (flVals t vv kv av).toArray] w fun e w' => e = .returned (.bool (formedC L t)) ∧ Below w.heap.size w w' := by
  obtain ⟨NA, nc, rfl, hn1, hn2⟩ := hN.len
  obtain ⟨VA, vc, rfl, hv1, hv2⟩ := hT.v.len
  obtain ⟨KA, kc, rfl, hk1, hk2⟩ := hT.k.len
  obtain ⟨AA, ac, rfl, ha1, ha2⟩ := hT.a.len
  have lv := hT.lv
  have lk := hT.lk
  have la := hT.la
  obtain ⟨W, hW⟩ : ∃ W, w.alloc (BoxF t (.slice VA t.vars.length vc) (.slice KA t.keys.length kc) (.slice AA t.args.length ac)) = W := ⟨_, rfl⟩
  have hbw : Below w.heap.size w W := by rw [← hW]; exact (Below.refl _ _).alloc (Nat.le_refl _) _
  have HB := Lib.hid hbw
  have HX := Lib.hid (show Blk W w.heap.size 43 #[.int .i64 t.k, .int .i64 t.n, .int .i64 t.m, .int .i64 t.i, .int .u64 t.b, .string ⟨t.t.toArray⟩, .slice VA t.vars.length vc, .slice KA t.keys.length kc, .slice AA t.args.length ac] by rw [← hW]; exact Blk.new _ _ _)
  have HN := Lib.hid (hN.below hbw)
  have HT := Lib.hid (hT.below hbw)
  have HV := Lib.hid (hT.v.below hbw)
  have HK := Lib.hid (hT.k.below hbw)
  have HA := Lib.hid (hT.a.below hbw)
  have HR := Lib.hid hA
  have HW0 := Lib.hid (Below.refl W.heap.size W)
  clear hN hT hA hbw
  have c0 : W.cell? ⟨w.heap.size, 0, none⟩ = some (.int .i64 t.k) := HX.out.cell 0
  have c1 : W.cell? ⟨w.heap.size, 1, none⟩ = some (.int .i64 t.n) := HX.out.cell 1
  have c2 : W.cell? ⟨w.heap.size, 2, none⟩ = some (.int .i64 t.m) := HX.out.cell 2
  have c3 : W.cell? ⟨w.heap.size, 3, none⟩ = some (.int .i64 t.i) := HX.out.cell 3
  have c4 : W.cell? ⟨w.heap.size, 4, none⟩ = some (.int .u64 t.b) := HX.out.cell 4
  have c5 : W.cell? ⟨w.heap.size, 5, none⟩ = some (.string ⟨t.t.toArray⟩) := HX.out.cell 5
  have c6 : W.cell? ⟨w.heap.size, 6, none⟩ = some (.slice VA t.vars.length vc) := HX.out.cell 6
  have c7 : W.cell? ⟨w.heap.size, 7, none⟩ = some (.slice KA t.keys.length kc) := HX.out.cell 7
  have c8 : W.cell? ⟨w.heap.size, 8, none⟩ = some (.slice AA t.args.length ac) := HX.out.cell 8
  unfold BoxF at hW
  unfold flVals
  obtain ⟨R, hR⟩ : ∃ R, formedC L t = R := ⟨_, rfl⟩
  rw [hR]
  rw [formedC_3 hk] at hR
  have q1 := b_false (show t.k ≠ 1 by omega)
  have q2 := b_false (show t.k ≠ 2 by omega)
  have q3 := b_true (show t.k = 3 by omega)
  by_cases h1 : t.args.length = 0
  · have rh1 := b_true (show (t.args.length : Int) = 0 by omega)
    rw [decide_eq_true (by omega)] at hR
    subst hR
    clear hk
    clear h1
    go_enter Tryz.func81, Tryz.ntmps81
    go_wp2_with fail
    go_ret
    exact ⟨rfl, HB.out.trans (HW0.out.mono HB.out.size)⟩
  · have rh1 := b_false (show (t.args.length : Int) ≠ 0 by omega)
    obtain rfl : R = false := by rw [← hR, decide_eq_false (by omega)]
    clear hR hk
    clear h1
    go_enter Tryz.func81, Tryz.ntmps81
    go_wp2_with fail
    go_ret
    exact ⟨rfl, HB.out.trans (HW0.out.mono HB.out.size)⟩
set_option maxRecDepth 100000 in
set_option maxHeartbeats 4000000 in
theorem cformed_4 (L : List Fl) (t : Fl) (vl vv kv av : Value) (w : World) (hN : NF w w.heap.size vl L) (hT : FV w w.heap.size t vv kv av) (hA : ∀ a ∈ t.args, 0 ≤ a ∧ a < (L.length : Int)) (hk : t.k = 4) :
    Calls Tryz.prog 81 #[vl, .agg (flVals t vv kv av).toArray] w fun e w' => e = .returned (.bool (formedC L t)) ∧ Below w.heap.size w w' := by
  obtain ⟨NA, nc, rfl, hn1, hn2⟩ := hN.len
  obtain ⟨VA, vc, rfl, hv1, hv2⟩ := hT.v.len
  obtain ⟨KA, kc, rfl, hk1, hk2⟩ := hT.k.len
  obtain ⟨AA, ac, rfl, ha1, ha2⟩ := hT.a.len
  have lv := hT.lv
  have lk := hT.lk
  have la := hT.la
  obtain ⟨W, hW⟩ : ∃ W, w.alloc (BoxF t (.slice VA t.vars.length vc) (.slice KA t.keys.length kc) (.slice AA t.args.length ac)) = W := ⟨_, rfl⟩
  have hbw : Below w.heap.size w W := by rw [← hW]; exact (Below.refl _ _).alloc (Nat.le_refl _) _
  have HB := Lib.hid hbw
  have HX := Lib.hid (show Blk W w.heap.size 43 #[.int .i64 t.k, .int .i64 t.n, .int .i64 t.m, .int .i64 t.i, .int .u64 t.b, .string ⟨t.t.toArray⟩, .slice VA t.vars.length vc, .slice KA t.keys.length kc, .slice AA t.args.length ac] by rw [← hW]; exact Blk.new _ _ _)
  have HN := Lib.hid (hN.below hbw)
  have HT := Lib.hid (hT.below hbw)
  have HV := Lib.hid (hT.v.below hbw)
  have HK := Lib.hid (hT.k.below hbw)
  have HA := Lib.hid (hT.a.below hbw)
  have HR := Lib.hid hA
  have HW0 := Lib.hid (Below.refl W.heap.size W)
  clear hN hT hA hbw
  have c0 : W.cell? ⟨w.heap.size, 0, none⟩ = some (.int .i64 t.k) := HX.out.cell 0
  have c1 : W.cell? ⟨w.heap.size, 1, none⟩ = some (.int .i64 t.n) := HX.out.cell 1
  have c2 : W.cell? ⟨w.heap.size, 2, none⟩ = some (.int .i64 t.m) := HX.out.cell 2
  have c3 : W.cell? ⟨w.heap.size, 3, none⟩ = some (.int .i64 t.i) := HX.out.cell 3
  have c4 : W.cell? ⟨w.heap.size, 4, none⟩ = some (.int .u64 t.b) := HX.out.cell 4
  have c5 : W.cell? ⟨w.heap.size, 5, none⟩ = some (.string ⟨t.t.toArray⟩) := HX.out.cell 5
  have c6 : W.cell? ⟨w.heap.size, 6, none⟩ = some (.slice VA t.vars.length vc) := HX.out.cell 6
  have c7 : W.cell? ⟨w.heap.size, 7, none⟩ = some (.slice KA t.keys.length kc) := HX.out.cell 7
  have c8 : W.cell? ⟨w.heap.size, 8, none⟩ = some (.slice AA t.args.length ac) := HX.out.cell 8
  unfold BoxF at hW
  unfold flVals
  obtain ⟨R, hR⟩ : ∃ R, formedC L t = R := ⟨_, rfl⟩
  rw [hR]
  rw [formedC_4 hk] at hR
  have q1 := b_false (show t.k ≠ 1 by omega)
  have q2 := b_false (show t.k ≠ 2 by omega)
  have q3 := b_false (show t.k ≠ 3 by omega)
  have q4 := b_true (show t.k = 4 by omega)
  have HC := Lib.hid (fun w => sright_any t.t w)
  by_cases h1 : t.args.length = 0
  · have rh1 := b_true (show (t.args.length : Int) = 0 by omega)
    have hR2 : decide (t.t.length ≤ 65536) = R := by rw [← hR]; congr 1; exact propext ⟨fun h => ⟨h1, h⟩, fun h => h.2⟩
    rw [hR2] at HC
    clear hR hR2 h1 hk
    go_enter Tryz.func81, Tryz.ntmps81
    go_wp2_with (go_at_call 148; ((with_reducible refine (HC.out _).mono ?_); rintro e w' ⟨rfl, rfl⟩))
    go_ret
    exact ⟨rfl, HB.out.trans (HW0.out.mono HB.out.size)⟩
  · have rh1 := b_false (show (t.args.length : Int) ≠ 0 by omega)
    obtain rfl : R = false := by rw [← hR, decide_eq_false (by omega)]
    clear hR hk
    clear h1
    go_enter Tryz.func81, Tryz.ntmps81
    go_wp2_with fail
    go_ret
    exact ⟨rfl, HB.out.trans (HW0.out.mono HB.out.size)⟩
set_option maxRecDepth 100000 in
set_option maxHeartbeats 4000000 in
theorem cformed_5 (L : List Fl) (t : Fl) (vl vv kv av : Value) (w : World) (hN : NF w w.heap.size vl L) (hT : FV w w.heap.size t vv kv av) (hA : ∀ a ∈ t.args, 0 ≤ a ∧ a < (L.length : Int)) (hk : t.k = 5) :
    Calls Tryz.prog 81 #[vl, .agg (flVals t vv kv av).toArray] w fun e w' => e = .returned (.bool (formedC L t)) ∧ Below w.heap.size w w' := by
  obtain ⟨NA, nc, rfl, hn1, hn2⟩ := hN.len
  obtain ⟨VA, vc, rfl, hv1, hv2⟩ := hT.v.len
  obtain ⟨KA, kc, rfl, hk1, hk2⟩ := hT.k.len
  obtain ⟨AA, ac, rfl, ha1, ha2⟩ := hT.a.len
  have lv := hT.lv
  have lk := hT.lk
  have la := hT.la
  obtain ⟨W, hW⟩ : ∃ W, w.alloc (BoxF t (.slice VA t.vars.length vc) (.slice KA t.keys.length kc) (.slice AA t.args.length ac)) = W := ⟨_, rfl⟩
  have hbw : Below w.heap.size w W := by rw [← hW]; exact (Below.refl _ _).alloc (Nat.le_refl _) _
  have HB := Lib.hid hbw
  have HX := Lib.hid (show Blk W w.heap.size 43 #[.int .i64 t.k, .int .i64 t.n, .int .i64 t.m, .int .i64 t.i, .int .u64 t.b, .string ⟨t.t.toArray⟩, .slice VA t.vars.length vc, .slice KA t.keys.length kc, .slice AA t.args.length ac] by rw [← hW]; exact Blk.new _ _ _)
  have HN := Lib.hid (hN.below hbw)
  have HT := Lib.hid (hT.below hbw)
  have HV := Lib.hid (hT.v.below hbw)
  have HK := Lib.hid (hT.k.below hbw)
  have HA := Lib.hid (hT.a.below hbw)
  have HR := Lib.hid hA
  have HW0 := Lib.hid (Below.refl W.heap.size W)
  clear hN hT hA hbw
  have c0 : W.cell? ⟨w.heap.size, 0, none⟩ = some (.int .i64 t.k) := HX.out.cell 0
  have c1 : W.cell? ⟨w.heap.size, 1, none⟩ = some (.int .i64 t.n) := HX.out.cell 1
  have c2 : W.cell? ⟨w.heap.size, 2, none⟩ = some (.int .i64 t.m) := HX.out.cell 2
  have c3 : W.cell? ⟨w.heap.size, 3, none⟩ = some (.int .i64 t.i) := HX.out.cell 3
  have c4 : W.cell? ⟨w.heap.size, 4, none⟩ = some (.int .u64 t.b) := HX.out.cell 4
  have c5 : W.cell? ⟨w.heap.size, 5, none⟩ = some (.string ⟨t.t.toArray⟩) := HX.out.cell 5
  have c6 : W.cell? ⟨w.heap.size, 6, none⟩ = some (.slice VA t.vars.length vc) := HX.out.cell 6
  have c7 : W.cell? ⟨w.heap.size, 7, none⟩ = some (.slice KA t.keys.length kc) := HX.out.cell 7
  have c8 : W.cell? ⟨w.heap.size, 8, none⟩ = some (.slice AA t.args.length ac) := HX.out.cell 8
  unfold BoxF at hW
  unfold flVals
  obtain ⟨R, hR⟩ : ∃ R, formedC L t = R := ⟨_, rfl⟩
  rw [hR]
  rw [formedC_5 hk] at hR
  have q1 := b_false (show t.k ≠ 1 by omega)
  have q2 := b_false (show t.k ≠ 2 by omega)
  have q3 := b_false (show t.k ≠ 3 by omega)
  have q4 := b_false (show t.k ≠ 4 by omega)
  have q5 := b_true (show t.k = 5 by omega)
  by_cases h1 : 2 ≤ t.args.length
  · have rh1 := decide_eq_true (show (2 : Int) ≤ (t.args.length : Int) by omega)
    by_cases h2 : t.args.length ≤ 1025
    · have rh2 := decide_eq_true (show (t.args.length : Int) - 1 ≤ 1024 by omega)
      by_cases h3 : 0 ≤ t.n
      · have rh3 := decide_eq_true h3
        rw [decide_eq_true (by omega), Bool.true_and] at hR
        obtain ⟨n1, hn⟩ : ∃ n1, t.args.length = n1 + 1 := ⟨t.args.length - 1, by omega⟩
        obtain ⟨a0, ha0⟩ : ∃ a0, t.args[0]? = some a0 := ⟨_, List.getElem?_eq_getElem (by omega)⟩
        obtain ⟨aa, rfl, _, _⟩ := HA.out.at_ ha0
        have hne : ¬ ac = n1 := by omega
        have hac : ¬ ac = 0 := by omega
        have hcn : (n1 : Int) ≤ (ac : Int) := by omega
        have hd := iv_drop HA.out (k := n1) (by omega)
        have ht := iv_take HA.out (k := n1) (by omega)
        rw [if_neg hne, hn, show n1 + 1 - n1 = 1 by omega] at hd
        have HD := Lib.hid (show IV W W.heap.size (.slice (some (aa.add n1)) 1 (ac - n1)) (t.args.drop n1) from hd)
        have HC1 := Lib.hid (fun w2 (hb : Below W.heap.size W w2) => catoms_any L (t.args.take n1) _ (.slice (some aa) n1 ac) w2 (HN.out.below hb) (fun a ha => HR.out a (List.mem_of_mem_take ha)) (ht.below hb))
        have HC2 := Lib.hid (fun w2 (hb : Below W.heap.size W w2) => cmoves_any L (t.args.drop n1) _ (.slice (some (aa.add n1)) 1 (ac - n1)) w2 (HN.out.below hb) (fun a ha => HR.out a (List.mem_of_mem_drop ha)) (HD.out.below hb))
        rw [hn, Nat.add_sub_cancel] at hR
        rw [hn] at hW ⊢
        rw [hn] at c8 rh1 rh2
        have HXn := HX
        rw [hn] at HXn
        clear HX
        have HX := HXn
        clear HXn
        have rr1 : decide ((2 : Int) ≤ (n1 : Int) + 1) = true := decide_eq_true (by omega)
        have rr2 : decide ((n1 : Int) ≤ 1024) = true := decide_eq_true (by omega)
        clear hk h1 h2 h3 ha0 hd ht
        cases hx1 : atomsB L (t.args.take n1)
        · rw [hx1] at hR HC1
          obtain rfl : R = false := by rw [← hR]; rfl
          clear hR hx1
          go_enter Tryz.func81, Tryz.ntmps81
          go_wp2_with (go_at_call 82; ((with_reducible refine (HC1.out _ HW0.out).mono ?_); rintro e w2 ⟨rfl, hb⟩; have HW1 := Lib.hid (HW0.out.trans (hb.mono HW0.out.size)); clear hb; have d18 : w2.cell? ⟨w.heap.size, 8, none⟩ = some (.slice (some aa) (n1 + 1) ac) := (HX.out.below HW1.out HX.out.lt).cell 8))
          go_ret
          exact ⟨rfl, HB.out.trans (HW1.out.mono HB.out.size)⟩
        · rw [hx1, Bool.true_and] at hR
          rw [hx1] at HC1
          clear hx1
          cases hx2 : movesB L (t.args.drop n1)
          · rw [hx2] at hR HC2
            obtain rfl : R = false := by rw [← hR]
            clear hR hx2
            go_enter Tryz.func81, Tryz.ntmps81
            go_wp2_with (first
              | (go_at_call 82; ((with_reducible refine (HC1.out _ HW0.out).mono ?_); rintro e w2 ⟨rfl, hb⟩; have HW1 := Lib.hid (HW0.out.trans (hb.mono HW0.out.size)); clear hb; have d18 : w2.cell? ⟨w.heap.size, 8, none⟩ = some (.slice (some aa) (n1 + 1) ac) := (HX.out.below HW1.out HX.out.lt).cell 8))
              | (go_at_call 83; ((with_reducible refine (HC2.out _ HW1.out).mono ?_); rintro e w3 ⟨rfl, hb⟩; have HW2 := Lib.hid (HW1.out.trans (hb.mono HW1.out.size)); clear hb)))
            go_ret
            exact ⟨rfl, HB.out.trans (HW2.out.mono HB.out.size)⟩
          · rw [hx2] at hR HC2
            obtain rfl : R = true := hR.symm
            clear hR hx2
            go_enter Tryz.func81, Tryz.ntmps81
            go_wp2_with (first
              | (go_at_call 82; ((with_reducible refine (HC1.out _ HW0.out).mono ?_); rintro e w2 ⟨rfl, hb⟩; have HW1 := Lib.hid (HW0.out.trans (hb.mono HW0.out.size)); clear hb; have d18 : w2.cell? ⟨w.heap.size, 8, none⟩ = some (.slice (some aa) (n1 + 1) ac) := (HX.out.below HW1.out HX.out.lt).cell 8))
              | (go_at_call 83; ((with_reducible refine (HC2.out _ HW1.out).mono ?_); rintro e w3 ⟨rfl, hb⟩; have HW2 := Lib.hid (HW1.out.trans (hb.mono HW1.out.size)); clear hb)))
            go_ret
            exact ⟨rfl, HB.out.trans (HW2.out.mono HB.out.size)⟩
      · have rh3 := decide_eq_false h3
        obtain rfl : R = false := by rw [← hR, decide_eq_false (by omega)]; rfl
        clear hR hk
        clear h1 h2 h3
        go_enter Tryz.func81, Tryz.ntmps81
        go_wp2_with fail
        go_ret
        exact ⟨rfl, HB.out.trans (HW0.out.mono HB.out.size)⟩
    · have rh2 := decide_eq_false (show ¬ (t.args.length : Int) - 1 ≤ 1024 by omega)
      obtain rfl : R = false := by rw [← hR, decide_eq_false (by omega)]; rfl
      clear hR hk
      clear h1 h2
      go_enter Tryz.func81, Tryz.ntmps81
      go_wp2_with fail
      go_ret
      exact ⟨rfl, HB.out.trans (HW0.out.mono HB.out.size)⟩
  · have rh1 := decide_eq_false (show ¬ (2 : Int) ≤ (t.args.length : Int) by omega)
    obtain rfl : R = false := by rw [← hR, decide_eq_false (by omega)]; rfl
    clear hR hk
    clear h1
    go_enter Tryz.func81, Tryz.ntmps81
    go_wp2_with fail
    go_ret
    exact ⟨rfl, HB.out.trans (HW0.out.mono HB.out.size)⟩
set_option maxRecDepth 100000 in
set_option maxHeartbeats 4000000 in
theorem cformed_67_6 (L : List Fl) (t : Fl) (vl vv kv av : Value) (w : World) (hN : NF w w.heap.size vl L) (hT : FV w w.heap.size t vv kv av) (hA : ∀ a ∈ t.args, 0 ≤ a ∧ a < (L.length : Int)) (hk : t.k = 6) :
    Calls Tryz.prog 81 #[vl, .agg (flVals t vv kv av).toArray] w fun e w' => e = .returned (.bool (formedC L t)) ∧ Below w.heap.size w w' := by
  obtain ⟨NA, nc, rfl, hn1, hn2⟩ := hN.len
  obtain ⟨VA, vc, rfl, hv1, hv2⟩ := hT.v.len
  obtain ⟨KA, kc, rfl, hk1, hk2⟩ := hT.k.len
  obtain ⟨AA, ac, rfl, ha1, ha2⟩ := hT.a.len
  have lv := hT.lv
  have lk := hT.lk
  have la := hT.la
  obtain ⟨W, hW⟩ : ∃ W, w.alloc (BoxF t (.slice VA t.vars.length vc) (.slice KA t.keys.length kc) (.slice AA t.args.length ac)) = W := ⟨_, rfl⟩
  have hbw : Below w.heap.size w W := by rw [← hW]; exact (Below.refl _ _).alloc (Nat.le_refl _) _
  have HB := Lib.hid hbw
  have HX := Lib.hid (show Blk W w.heap.size 43 #[.int .i64 t.k, .int .i64 t.n, .int .i64 t.m, .int .i64 t.i, .int .u64 t.b, .string ⟨t.t.toArray⟩, .slice VA t.vars.length vc, .slice KA t.keys.length kc, .slice AA t.args.length ac] by rw [← hW]; exact Blk.new _ _ _)
  have HN := Lib.hid (hN.below hbw)
  have HT := Lib.hid (hT.below hbw)
  have HV := Lib.hid (hT.v.below hbw)
  have HK := Lib.hid (hT.k.below hbw)
  have HA := Lib.hid (hT.a.below hbw)
  have HR := Lib.hid hA
  have HW0 := Lib.hid (Below.refl W.heap.size W)
  clear hN hT hA hbw
  have c0 : W.cell? ⟨w.heap.size, 0, none⟩ = some (.int .i64 t.k) := HX.out.cell 0
  have c1 : W.cell? ⟨w.heap.size, 1, none⟩ = some (.int .i64 t.n) := HX.out.cell 1
  have c2 : W.cell? ⟨w.heap.size, 2, none⟩ = some (.int .i64 t.m) := HX.out.cell 2
  have c3 : W.cell? ⟨w.heap.size, 3, none⟩ = some (.int .i64 t.i) := HX.out.cell 3
  have c4 : W.cell? ⟨w.heap.size, 4, none⟩ = some (.int .u64 t.b) := HX.out.cell 4
  have c5 : W.cell? ⟨w.heap.size, 5, none⟩ = some (.string ⟨t.t.toArray⟩) := HX.out.cell 5
  have c6 : W.cell? ⟨w.heap.size, 6, none⟩ = some (.slice VA t.vars.length vc) := HX.out.cell 6
  have c7 : W.cell? ⟨w.heap.size, 7, none⟩ = some (.slice KA t.keys.length kc) := HX.out.cell 7
  have c8 : W.cell? ⟨w.heap.size, 8, none⟩ = some (.slice AA t.args.length ac) := HX.out.cell 8
  unfold BoxF at hW
  unfold flVals
  obtain ⟨R, hR⟩ : ∃ R, formedC L t = R := ⟨_, rfl⟩
  rw [hR]
  rw [formedC_67 (by omega)] at hR
  have q1 := b_false (show t.k ≠ 1 by omega)
  have q2 := b_false (show t.k ≠ 2 by omega)
  have q3 := b_false (show t.k ≠ 3 by omega)
  have q4 := b_false (show t.k ≠ 4 by omega)
  have q5 := b_false (show t.k ≠ 5 by omega)
  have q6 := b_true (show t.k = 6 by omega)
  by_cases h1 : t.args.length = 2
  · have rh1 := b_true (show (t.args.length : Int) = 2 by omega)
    by_cases h2 : 0 ≤ t.n
    · have rh2 := decide_eq_true h2
      by_cases h3 : 0 ≤ t.m
      · have rh3 := decide_eq_true h3
        rw [decide_eq_true (by omega), Bool.true_and] at hR
        obtain ⟨a0, ha0⟩ : ∃ a0, t.args[0]? = some a0 := ⟨_, List.getElem?_eq_getElem (by omega)⟩
        obtain ⟨aa, rfl, _, _⟩ := HA.out.at_ ha0
        have hne : ¬ ac = 1 := by omega
        have hac : ¬ ac = 0 := by omega
        have hcn : (1 : Int) ≤ (ac : Int) := by omega
        have hd := iv_drop HA.out (k := 1) (by omega)
        have ht := iv_take HA.out (k := 1) (by omega)
        rw [if_neg hne, h1, show 2 - 1 = 1 from rfl] at hd
        have HD := Lib.hid (show IV W W.heap.size (.slice (some ⟨aa.block, aa.off + 1, none⟩) 1 (ac - 1)) (t.args.drop 1) from hd)
        have HC1 := Lib.hid (fun w2 (hb : Below W.heap.size W w2) => catoms_any L (t.args.take 1) _ (.slice (some aa) 1 ac) w2 (HN.out.below hb) (fun a ha => HR.out a (List.mem_of_mem_take ha)) (ht.below hb))
        have HC2 := Lib.hid (fun w2 (hb : Below W.heap.size W w2) => cmoves_any L (t.args.drop 1) _ (.slice (some ⟨aa.block, aa.off + 1, none⟩) 1 (ac - 1)) w2 (HN.out.below hb) (fun a ha => HR.out a (List.mem_of_mem_drop ha)) (HD.out.below hb))
        rw [h1] at hW ⊢
        rw [h1] at c8
        have HXn := HX
        rw [h1] at HXn
        clear HX
        have HX := HXn
        clear HXn
        clear hk h2 h3 ha0 hd ht
        cases hx1 : atomsB L (t.args.take 1)
        · rw [hx1] at hR HC1
          obtain rfl : R = false := by rw [← hR]; rfl
          clear hR hx1
          go_enter Tryz.func81, Tryz.ntmps81
          go_wp2_with (go_at_call 82; ((with_reducible refine (HC1.out _ HW0.out).mono ?_); rintro e w2 ⟨rfl, hb⟩; have HW1 := Lib.hid (HW0.out.trans (hb.mono HW0.out.size)); clear hb; have d18 : w2.cell? ⟨w.heap.size, 8, none⟩ = some (.slice (some aa) 2 ac) := (HX.out.below HW1.out HX.out.lt).cell 8))
          go_ret
          exact ⟨rfl, HB.out.trans (HW1.out.mono HB.out.size)⟩
        · rw [hx1, Bool.true_and] at hR
          rw [hx1] at HC1
          clear hx1
          cases hx2 : movesB L (t.args.drop 1)
          · rw [hx2] at hR HC2
            obtain rfl : R = false := by rw [← hR]
            clear hR hx2
            go_enter Tryz.func81, Tryz.ntmps81
            go_wp2_with (first
              | (go_at_call 82; ((with_reducible refine (HC1.out _ HW0.out).mono ?_); rintro e w2 ⟨rfl, hb⟩; have HW1 := Lib.hid (HW0.out.trans (hb.mono HW0.out.size)); clear hb; have d18 : w2.cell? ⟨w.heap.size, 8, none⟩ = some (.slice (some aa) 2 ac) := (HX.out.below HW1.out HX.out.lt).cell 8))
              | (go_at_call 83; ((with_reducible refine (HC2.out _ HW1.out).mono ?_); rintro e w3 ⟨rfl, hb⟩; have HW2 := Lib.hid (HW1.out.trans (hb.mono HW1.out.size)); clear hb)))
            go_ret
            exact ⟨rfl, HB.out.trans (HW2.out.mono HB.out.size)⟩
          · rw [hx2] at hR HC2
            obtain rfl : R = true := hR.symm
            clear hR hx2
            go_enter Tryz.func81, Tryz.ntmps81
            go_wp2_with (first
              | (go_at_call 82; ((with_reducible refine (HC1.out _ HW0.out).mono ?_); rintro e w2 ⟨rfl, hb⟩; have HW1 := Lib.hid (HW0.out.trans (hb.mono HW0.out.size)); clear hb; have d18 : w2.cell? ⟨w.heap.size, 8, none⟩ = some (.slice (some aa) 2 ac) := (HX.out.below HW1.out HX.out.lt).cell 8))
              | (go_at_call 83; ((with_reducible refine (HC2.out _ HW1.out).mono ?_); rintro e w3 ⟨rfl, hb⟩; have HW2 := Lib.hid (HW1.out.trans (hb.mono HW1.out.size)); clear hb)))
            go_ret
            exact ⟨rfl, HB.out.trans (HW2.out.mono HB.out.size)⟩
      · have rh3 := decide_eq_false h3
        obtain rfl : R = false := by rw [← hR, decide_eq_false (by omega)]; rfl
        clear hR hk
        clear h1 h2 h3
        go_enter Tryz.func81, Tryz.ntmps81
        go_wp2_with fail
        go_ret
        exact ⟨rfl, HB.out.trans (HW0.out.mono HB.out.size)⟩
    · have rh2 := decide_eq_false h2
      obtain rfl : R = false := by rw [← hR, decide_eq_false (by omega)]; rfl
      clear hR hk
      clear h1 h2
      go_enter Tryz.func81, Tryz.ntmps81
      go_wp2_with fail
      go_ret
      exact ⟨rfl, HB.out.trans (HW0.out.mono HB.out.size)⟩
  · have rh1 := b_false (show (t.args.length : Int) ≠ 2 by omega)
    obtain rfl : R = false := by rw [← hR, decide_eq_false (by omega)]; rfl
    clear hR hk
    clear h1
    go_enter Tryz.func81, Tryz.ntmps81
    go_wp2_with fail
    go_ret
    exact ⟨rfl, HB.out.trans (HW0.out.mono HB.out.size)⟩
set_option maxRecDepth 100000 in
set_option maxHeartbeats 4000000 in
theorem cformed_67_7 (L : List Fl) (t : Fl) (vl vv kv av : Value) (w : World) (hN : NF w w.heap.size vl L) (hT : FV w w.heap.size t vv kv av) (hA : ∀ a ∈ t.args, 0 ≤ a ∧ a < (L.length : Int)) (hk : t.k = 7) :
    Calls Tryz.prog 81 #[vl, .agg (flVals t vv kv av).toArray] w fun e w' => e = .returned (.bool (formedC L t)) ∧ Below w.heap.size w w' := by
  obtain ⟨NA, nc, rfl, hn1, hn2⟩ := hN.len
  obtain ⟨VA, vc, rfl, hv1, hv2⟩ := hT.v.len
  obtain ⟨KA, kc, rfl, hk1, hk2⟩ := hT.k.len
  obtain ⟨AA, ac, rfl, ha1, ha2⟩ := hT.a.len
  have lv := hT.lv
  have lk := hT.lk
  have la := hT.la
  obtain ⟨W, hW⟩ : ∃ W, w.alloc (BoxF t (.slice VA t.vars.length vc) (.slice KA t.keys.length kc) (.slice AA t.args.length ac)) = W := ⟨_, rfl⟩
  have hbw : Below w.heap.size w W := by rw [← hW]; exact (Below.refl _ _).alloc (Nat.le_refl _) _
  have HB := Lib.hid hbw
  have HX := Lib.hid (show Blk W w.heap.size 43 #[.int .i64 t.k, .int .i64 t.n, .int .i64 t.m, .int .i64 t.i, .int .u64 t.b, .string ⟨t.t.toArray⟩, .slice VA t.vars.length vc, .slice KA t.keys.length kc, .slice AA t.args.length ac] by rw [← hW]; exact Blk.new _ _ _)
  have HN := Lib.hid (hN.below hbw)
  have HT := Lib.hid (hT.below hbw)
  have HV := Lib.hid (hT.v.below hbw)
  have HK := Lib.hid (hT.k.below hbw)
  have HA := Lib.hid (hT.a.below hbw)
  have HR := Lib.hid hA
  have HW0 := Lib.hid (Below.refl W.heap.size W)
  clear hN hT hA hbw
  have c0 : W.cell? ⟨w.heap.size, 0, none⟩ = some (.int .i64 t.k) := HX.out.cell 0
  have c1 : W.cell? ⟨w.heap.size, 1, none⟩ = some (.int .i64 t.n) := HX.out.cell 1
  have c2 : W.cell? ⟨w.heap.size, 2, none⟩ = some (.int .i64 t.m) := HX.out.cell 2
  have c3 : W.cell? ⟨w.heap.size, 3, none⟩ = some (.int .i64 t.i) := HX.out.cell 3
  have c4 : W.cell? ⟨w.heap.size, 4, none⟩ = some (.int .u64 t.b) := HX.out.cell 4
  have c5 : W.cell? ⟨w.heap.size, 5, none⟩ = some (.string ⟨t.t.toArray⟩) := HX.out.cell 5
  have c6 : W.cell? ⟨w.heap.size, 6, none⟩ = some (.slice VA t.vars.length vc) := HX.out.cell 6
  have c7 : W.cell? ⟨w.heap.size, 7, none⟩ = some (.slice KA t.keys.length kc) := HX.out.cell 7
  have c8 : W.cell? ⟨w.heap.size, 8, none⟩ = some (.slice AA t.args.length ac) := HX.out.cell 8
  unfold BoxF at hW
  unfold flVals
  obtain ⟨R, hR⟩ : ∃ R, formedC L t = R := ⟨_, rfl⟩
  rw [hR]
  rw [formedC_67 (by omega)] at hR
  have q1 := b_false (show t.k ≠ 1 by omega)
  have q2 := b_false (show t.k ≠ 2 by omega)
  have q3 := b_false (show t.k ≠ 3 by omega)
  have q4 := b_false (show t.k ≠ 4 by omega)
  have q5 := b_false (show t.k ≠ 5 by omega)
  have q6 := b_false (show t.k ≠ 6 by omega)
  have q7 := b_true (show t.k = 7 by omega)
  by_cases h1 : t.args.length = 2
  · have rh1 := b_true (show (t.args.length : Int) = 2 by omega)
    by_cases h2 : 0 ≤ t.n
    · have rh2 := decide_eq_true h2
      by_cases h3 : 0 ≤ t.m
      · have rh3 := decide_eq_true h3
        rw [decide_eq_true (by omega), Bool.true_and] at hR
        obtain ⟨a0, ha0⟩ : ∃ a0, t.args[0]? = some a0 := ⟨_, List.getElem?_eq_getElem (by omega)⟩
        obtain ⟨aa, rfl, _, _⟩ := HA.out.at_ ha0
        have hne : ¬ ac = 1 := by omega
        have hac : ¬ ac = 0 := by omega
        have hcn : (1 : Int) ≤ (ac : Int) := by omega
        have hd := iv_drop HA.out (k := 1) (by omega)
        have ht := iv_take HA.out (k := 1) (by omega)
        rw [if_neg hne, h1, show 2 - 1 = 1 from rfl] at hd
        have HD := Lib.hid (show IV W W.heap.size (.slice (some ⟨aa.block, aa.off + 1, none⟩) 1 (ac - 1)) (t.args.drop 1) from hd)
        have HC1 := Lib.hid (fun w2 (hb : Below W.heap.size W w2) => catoms_any L (t.args.take 1) _ (.slice (some aa) 1 ac) w2 (HN.out.below hb) (fun a ha => HR.out a (List.mem_of_mem_take ha)) (ht.below hb))
        have HC2 := Lib.hid (fun w2 (hb : Below W.heap.size W w2) => cmoves_any L (t.args.drop 1) _ (.slice (some ⟨aa.block, aa.off + 1, none⟩) 1 (ac - 1)) w2 (HN.out.below hb) (fun a ha => HR.out a (List.mem_of_mem_drop ha)) (HD.out.below hb))
        rw [h1] at hW ⊢
        rw [h1] at c8
        have HXn := HX
        rw [h1] at HXn
        clear HX
        have HX := HXn
        clear HXn
        clear hk h2 h3 ha0 hd ht
        cases hx1 : atomsB L (t.args.take 1)
        · rw [hx1] at hR HC1
          obtain rfl : R = false := by rw [← hR]; rfl
          clear hR hx1
          go_enter Tryz.func81, Tryz.ntmps81
          go_wp2_with (go_at_call 82; ((with_reducible refine (HC1.out _ HW0.out).mono ?_); rintro e w2 ⟨rfl, hb⟩; have HW1 := Lib.hid (HW0.out.trans (hb.mono HW0.out.size)); clear hb; have d18 : w2.cell? ⟨w.heap.size, 8, none⟩ = some (.slice (some aa) 2 ac) := (HX.out.below HW1.out HX.out.lt).cell 8))
          go_ret
          exact ⟨rfl, HB.out.trans (HW1.out.mono HB.out.size)⟩
        · rw [hx1, Bool.true_and] at hR
          rw [hx1] at HC1
          clear hx1
          cases hx2 : movesB L (t.args.drop 1)
          · rw [hx2] at hR HC2
            obtain rfl : R = false := by rw [← hR]
            clear hR hx2
            go_enter Tryz.func81, Tryz.ntmps81
            go_wp2_with (first
              | (go_at_call 82; ((with_reducible refine (HC1.out _ HW0.out).mono ?_); rintro e w2 ⟨rfl, hb⟩; have HW1 := Lib.hid (HW0.out.trans (hb.mono HW0.out.size)); clear hb; have d18 : w2.cell? ⟨w.heap.size, 8, none⟩ = some (.slice (some aa) 2 ac) := (HX.out.below HW1.out HX.out.lt).cell 8))
              | (go_at_call 83; ((with_reducible refine (HC2.out _ HW1.out).mono ?_); rintro e w3 ⟨rfl, hb⟩; have HW2 := Lib.hid (HW1.out.trans (hb.mono HW1.out.size)); clear hb)))
            go_ret
            exact ⟨rfl, HB.out.trans (HW2.out.mono HB.out.size)⟩
          · rw [hx2] at hR HC2
            obtain rfl : R = true := hR.symm
            clear hR hx2
            go_enter Tryz.func81, Tryz.ntmps81
            go_wp2_with (first
              | (go_at_call 82; ((with_reducible refine (HC1.out _ HW0.out).mono ?_); rintro e w2 ⟨rfl, hb⟩; have HW1 := Lib.hid (HW0.out.trans (hb.mono HW0.out.size)); clear hb; have d18 : w2.cell? ⟨w.heap.size, 8, none⟩ = some (.slice (some aa) 2 ac) := (HX.out.below HW1.out HX.out.lt).cell 8))
              | (go_at_call 83; ((with_reducible refine (HC2.out _ HW1.out).mono ?_); rintro e w3 ⟨rfl, hb⟩; have HW2 := Lib.hid (HW1.out.trans (hb.mono HW1.out.size)); clear hb)))
            go_ret
            exact ⟨rfl, HB.out.trans (HW2.out.mono HB.out.size)⟩
      · have rh3 := decide_eq_false h3
        obtain rfl : R = false := by rw [← hR, decide_eq_false (by omega)]; rfl
        clear hR hk
        clear h1 h2 h3
        go_enter Tryz.func81, Tryz.ntmps81
        go_wp2_with fail
        go_ret
        exact ⟨rfl, HB.out.trans (HW0.out.mono HB.out.size)⟩
    · have rh2 := decide_eq_false h2
      obtain rfl : R = false := by rw [← hR, decide_eq_false (by omega)]; rfl
      clear hR hk
      clear h1 h2
      go_enter Tryz.func81, Tryz.ntmps81
      go_wp2_with fail
      go_ret
      exact ⟨rfl, HB.out.trans (HW0.out.mono HB.out.size)⟩
  · have rh1 := b_false (show (t.args.length : Int) ≠ 2 by omega)
    obtain rfl : R = false := by rw [← hR, decide_eq_false (by omega)]; rfl
    clear hR hk
    clear h1
    go_enter Tryz.func81, Tryz.ntmps81
    go_wp2_with fail
    go_ret
    exact ⟨rfl, HB.out.trans (HW0.out.mono HB.out.size)⟩
set_option maxRecDepth 100000 in
set_option maxHeartbeats 4000000 in
theorem cformed_8 (L : List Fl) (t : Fl) (vl vv kv av : Value) (w : World) (hN : NF w w.heap.size vl L) (hT : FV w w.heap.size t vv kv av) (hA : ∀ a ∈ t.args, 0 ≤ a ∧ a < (L.length : Int)) (hk : t.k = 8) :
    Calls Tryz.prog 81 #[vl, .agg (flVals t vv kv av).toArray] w fun e w' => e = .returned (.bool (formedC L t)) ∧ Below w.heap.size w w' := by
  obtain ⟨NA, nc, rfl, hn1, hn2⟩ := hN.len
  obtain ⟨VA, vc, rfl, hv1, hv2⟩ := hT.v.len
  obtain ⟨KA, kc, rfl, hk1, hk2⟩ := hT.k.len
  obtain ⟨AA, ac, rfl, ha1, ha2⟩ := hT.a.len
  have lv := hT.lv
  have lk := hT.lk
  have la := hT.la
  obtain ⟨W, hW⟩ : ∃ W, w.alloc (BoxF t (.slice VA t.vars.length vc) (.slice KA t.keys.length kc) (.slice AA t.args.length ac)) = W := ⟨_, rfl⟩
  have hbw : Below w.heap.size w W := by rw [← hW]; exact (Below.refl _ _).alloc (Nat.le_refl _) _
  have HB := Lib.hid hbw
  have HX := Lib.hid (show Blk W w.heap.size 43 #[.int .i64 t.k, .int .i64 t.n, .int .i64 t.m, .int .i64 t.i, .int .u64 t.b, .string ⟨t.t.toArray⟩, .slice VA t.vars.length vc, .slice KA t.keys.length kc, .slice AA t.args.length ac] by rw [← hW]; exact Blk.new _ _ _)
  have HN := Lib.hid (hN.below hbw)
  have HT := Lib.hid (hT.below hbw)
  have HV := Lib.hid (hT.v.below hbw)
  have HK := Lib.hid (hT.k.below hbw)
  have HA := Lib.hid (hT.a.below hbw)
  have HR := Lib.hid hA
  have HW0 := Lib.hid (Below.refl W.heap.size W)
  clear hN hT hA hbw
  have c0 : W.cell? ⟨w.heap.size, 0, none⟩ = some (.int .i64 t.k) := HX.out.cell 0
  have c1 : W.cell? ⟨w.heap.size, 1, none⟩ = some (.int .i64 t.n) := HX.out.cell 1
  have c2 : W.cell? ⟨w.heap.size, 2, none⟩ = some (.int .i64 t.m) := HX.out.cell 2
  have c3 : W.cell? ⟨w.heap.size, 3, none⟩ = some (.int .i64 t.i) := HX.out.cell 3
  have c4 : W.cell? ⟨w.heap.size, 4, none⟩ = some (.int .u64 t.b) := HX.out.cell 4
  have c5 : W.cell? ⟨w.heap.size, 5, none⟩ = some (.string ⟨t.t.toArray⟩) := HX.out.cell 5
  have c6 : W.cell? ⟨w.heap.size, 6, none⟩ = some (.slice VA t.vars.length vc) := HX.out.cell 6
  have c7 : W.cell? ⟨w.heap.size, 7, none⟩ = some (.slice KA t.keys.length kc) := HX.out.cell 7
  have c8 : W.cell? ⟨w.heap.size, 8, none⟩ = some (.slice AA t.args.length ac) := HX.out.cell 8
  unfold BoxF at hW
  unfold flVals
  obtain ⟨R, hR⟩ : ∃ R, formedC L t = R := ⟨_, rfl⟩
  rw [hR]
  rw [formedC_8 hk] at hR
  have q1 := b_false (show t.k ≠ 1 by omega)
  have q2 := b_false (show t.k ≠ 2 by omega)
  have q3 := b_false (show t.k ≠ 3 by omega)
  have q4 := b_false (show t.k ≠ 4 by omega)
  have q5 := b_false (show t.k ≠ 5 by omega)
  have q6 := b_false (show t.k ≠ 6 by omega)
  have q7 := b_false (show t.k ≠ 7 by omega)
  have q8 := b_true (show t.k = 8 by omega)
  by_cases h2 : 0 ≤ t.n
  · have rh2 := decide_eq_true h2
    rw [decide_eq_true (by omega)] at hR
    subst hR
    clear hk
    clear h2
    go_enter Tryz.func81, Tryz.ntmps81
    go_wp2_with fail
    go_ret
    exact ⟨rfl, HB.out.trans (HW0.out.mono HB.out.size)⟩
  · have rh2 := decide_eq_false h2
    obtain rfl : R = false := by rw [← hR, decide_eq_false (by omega)]
    clear hR hk
    clear h2
    go_enter Tryz.func81, Tryz.ntmps81
    go_wp2_with fail
    go_ret
    exact ⟨rfl, HB.out.trans (HW0.out.mono HB.out.size)⟩
set_option maxRecDepth 100000 in
set_option maxHeartbeats 4000000 in
theorem cformed_9 (L : List Fl) (t : Fl) (vl vv kv av : Value) (w : World) (hN : NF w w.heap.size vl L) (hT : FV w w.heap.size t vv kv av) (hA : ∀ a ∈ t.args, 0 ≤ a ∧ a < (L.length : Int)) (hk : t.k = 9) :
    Calls Tryz.prog 81 #[vl, .agg (flVals t vv kv av).toArray] w fun e w' => e = .returned (.bool (formedC L t)) ∧ Below w.heap.size w w' := by
  obtain ⟨NA, nc, rfl, hn1, hn2⟩ := hN.len
  obtain ⟨VA, vc, rfl, hv1, hv2⟩ := hT.v.len
  obtain ⟨KA, kc, rfl, hk1, hk2⟩ := hT.k.len
  obtain ⟨AA, ac, rfl, ha1, ha2⟩ := hT.a.len
  have lv := hT.lv
  have lk := hT.lk
  have la := hT.la
  obtain ⟨W, hW⟩ : ∃ W, w.alloc (BoxF t (.slice VA t.vars.length vc) (.slice KA t.keys.length kc) (.slice AA t.args.length ac)) = W := ⟨_, rfl⟩
  have hbw : Below w.heap.size w W := by rw [← hW]; exact (Below.refl _ _).alloc (Nat.le_refl _) _
  have HB := Lib.hid hbw
  have HX := Lib.hid (show Blk W w.heap.size 43 #[.int .i64 t.k, .int .i64 t.n, .int .i64 t.m, .int .i64 t.i, .int .u64 t.b, .string ⟨t.t.toArray⟩, .slice VA t.vars.length vc, .slice KA t.keys.length kc, .slice AA t.args.length ac] by rw [← hW]; exact Blk.new _ _ _)
  have HN := Lib.hid (hN.below hbw)
  have HT := Lib.hid (hT.below hbw)
  have HV := Lib.hid (hT.v.below hbw)
  have HK := Lib.hid (hT.k.below hbw)
  have HA := Lib.hid (hT.a.below hbw)
  have HR := Lib.hid hA
  have HW0 := Lib.hid (Below.refl W.heap.size W)
  clear hN hT hA hbw
  have c0 : W.cell? ⟨w.heap.size, 0, none⟩ = some (.int .i64 t.k) := HX.out.cell 0
  have c1 : W.cell? ⟨w.heap.size, 1, none⟩ = some (.int .i64 t.n) := HX.out.cell 1
  have c2 : W.cell? ⟨w.heap.size, 2, none⟩ = some (.int .i64 t.m) := HX.out.cell 2
  have c3 : W.cell? ⟨w.heap.size, 3, none⟩ = some (.int .i64 t.i) := HX.out.cell 3
  have c4 : W.cell? ⟨w.heap.size, 4, none⟩ = some (.int .u64 t.b) := HX.out.cell 4
  have c5 : W.cell? ⟨w.heap.size, 5, none⟩ = some (.string ⟨t.t.toArray⟩) := HX.out.cell 5
  have c6 : W.cell? ⟨w.heap.size, 6, none⟩ = some (.slice VA t.vars.length vc) := HX.out.cell 6
  have c7 : W.cell? ⟨w.heap.size, 7, none⟩ = some (.slice KA t.keys.length kc) := HX.out.cell 7
  have c8 : W.cell? ⟨w.heap.size, 8, none⟩ = some (.slice AA t.args.length ac) := HX.out.cell 8
  unfold BoxF at hW
  unfold flVals
  obtain ⟨R, hR⟩ : ∃ R, formedC L t = R := ⟨_, rfl⟩
  rw [hR]
  rw [formedC_9 hk] at hR
  have q1 := b_false (show t.k ≠ 1 by omega)
  have q2 := b_false (show t.k ≠ 2 by omega)
  have q3 := b_false (show t.k ≠ 3 by omega)
  have q4 := b_false (show t.k ≠ 4 by omega)
  have q5 := b_false (show t.k ≠ 5 by omega)
  have q6 := b_false (show t.k ≠ 6 by omega)
  have q7 := b_false (show t.k ≠ 7 by omega)
  have q8 := b_false (show t.k ≠ 8 by omega)
  have q9 := b_true (show t.k = 9 by omega)
  have HC := Lib.hid (cfixed_any L t _ _ _ _ W HN.out HT.out HR.out)
  rw [hR] at HC
  unfold flVals at HC
  clear hk hR
  go_enter Tryz.func81, Tryz.ntmps81
  go_wp2_with (go_at_call 149; ((with_reducible refine (HC.out).mono ?_); rintro e w' ⟨rfl, hb⟩; have HW1 := Lib.hid hb; clear hb))
  go_ret
  exact ⟨rfl, HB.out.trans (HW1.out.mono HB.out.size)⟩
set_option maxRecDepth 100000 in
set_option maxHeartbeats 4000000 in
theorem cformed_10 (L : List Fl) (t : Fl) (vl vv kv av : Value) (w : World) (hN : NF w w.heap.size vl L) (hT : FV w w.heap.size t vv kv av) (hA : ∀ a ∈ t.args, 0 ≤ a ∧ a < (L.length : Int)) (hk : t.k = 10) :
    Calls Tryz.prog 81 #[vl, .agg (flVals t vv kv av).toArray] w fun e w' => e = .returned (.bool (formedC L t)) ∧ Below w.heap.size w w' := by
  obtain ⟨NA, nc, rfl, hn1, hn2⟩ := hN.len
  obtain ⟨VA, vc, rfl, hv1, hv2⟩ := hT.v.len
  obtain ⟨KA, kc, rfl, hk1, hk2⟩ := hT.k.len
  obtain ⟨AA, ac, rfl, ha1, ha2⟩ := hT.a.len
  have lv := hT.lv
  have lk := hT.lk
  have la := hT.la
  obtain ⟨W, hW⟩ : ∃ W, w.alloc (BoxF t (.slice VA t.vars.length vc) (.slice KA t.keys.length kc) (.slice AA t.args.length ac)) = W := ⟨_, rfl⟩
  have hbw : Below w.heap.size w W := by rw [← hW]; exact (Below.refl _ _).alloc (Nat.le_refl _) _
  have HB := Lib.hid hbw
  have HX := Lib.hid (show Blk W w.heap.size 43 #[.int .i64 t.k, .int .i64 t.n, .int .i64 t.m, .int .i64 t.i, .int .u64 t.b, .string ⟨t.t.toArray⟩, .slice VA t.vars.length vc, .slice KA t.keys.length kc, .slice AA t.args.length ac] by rw [← hW]; exact Blk.new _ _ _)
  have HN := Lib.hid (hN.below hbw)
  have HT := Lib.hid (hT.below hbw)
  have HV := Lib.hid (hT.v.below hbw)
  have HK := Lib.hid (hT.k.below hbw)
  have HA := Lib.hid (hT.a.below hbw)
  have HR := Lib.hid hA
  have HW0 := Lib.hid (Below.refl W.heap.size W)
  clear hN hT hA hbw
  have c0 : W.cell? ⟨w.heap.size, 0, none⟩ = some (.int .i64 t.k) := HX.out.cell 0
  have c1 : W.cell? ⟨w.heap.size, 1, none⟩ = some (.int .i64 t.n) := HX.out.cell 1
  have c2 : W.cell? ⟨w.heap.size, 2, none⟩ = some (.int .i64 t.m) := HX.out.cell 2
  have c3 : W.cell? ⟨w.heap.size, 3, none⟩ = some (.int .i64 t.i) := HX.out.cell 3
  have c4 : W.cell? ⟨w.heap.size, 4, none⟩ = some (.int .u64 t.b) := HX.out.cell 4
  have c5 : W.cell? ⟨w.heap.size, 5, none⟩ = some (.string ⟨t.t.toArray⟩) := HX.out.cell 5
  have c6 : W.cell? ⟨w.heap.size, 6, none⟩ = some (.slice VA t.vars.length vc) := HX.out.cell 6
  have c7 : W.cell? ⟨w.heap.size, 7, none⟩ = some (.slice KA t.keys.length kc) := HX.out.cell 7
  have c8 : W.cell? ⟨w.heap.size, 8, none⟩ = some (.slice AA t.args.length ac) := HX.out.cell 8
  unfold BoxF at hW
  unfold flVals
  obtain ⟨R, hR⟩ : ∃ R, formedC L t = R := ⟨_, rfl⟩
  rw [hR]
  rw [formedC_10 hk] at hR
  have q1 := b_false (show t.k ≠ 1 by omega)
  have q2 := b_false (show t.k ≠ 2 by omega)
  have q3 := b_false (show t.k ≠ 3 by omega)
  have q4 := b_false (show t.k ≠ 4 by omega)
  have q5 := b_false (show t.k ≠ 5 by omega)
  have q6 := b_false (show t.k ≠ 6 by omega)
  have q7 := b_false (show t.k ≠ 7 by omega)
  have q8 := b_false (show t.k ≠ 8 by omega)
  have q9 := b_false (show t.k ≠ 9 by omega)
  have q10 := b_true (show t.k = 10 by omega)
  by_cases h1 : t.args.length = 1
  · have rh1 := b_true (show (t.args.length : Int) = 1 by omega)
    rw [decide_eq_true (by omega), Bool.true_and] at hR
    have HC1 := Lib.hid (cparams_any t.vars _ W.heap.size W HV.out)
    have HC2 := Lib.hid (fun w2 (hb : Below W.heap.size W w2) => cmoves_any L t.args _ _ w2 (HN.out.below hb) HR.out (HA.out.below hb))
    rw [h1] at hW ⊢
    rw [h1] at HC2 c8
    have HXn := HX
    rw [h1] at HXn
    clear HX
    have HX := HXn
    clear HXn
    clear hk
    cases hx1 : parOk t.vars
    · rw [hx1] at hR HC1
      obtain rfl : R = false := by rw [← hR]; rfl
      clear hR hx1
      go_enter Tryz.func81, Tryz.ntmps81
      go_wp2_with (go_at_call 54; ((with_reducible refine (HC1.out).mono ?_); rintro e w' ⟨rfl, rfl⟩))
      go_ret
      exact ⟨rfl, HB.out.trans (HW0.out.mono HB.out.size)⟩
    · rw [hx1, Bool.true_and] at hR
      rw [hx1] at HC1
      clear hx1
      cases hx2 : movesB L t.args
      · rw [hx2] at hR HC2
        obtain rfl : R = false := by rw [← hR]
        clear hR hx2
        go_enter Tryz.func81, Tryz.ntmps81
        go_wp2_with (first
          | (go_at_call 54; ((with_reducible refine (HC1.out).mono ?_); rintro e w' ⟨rfl, rfl⟩))
          | (go_at_call 83; ((with_reducible refine (HC2.out _ HW0.out).mono ?_); rintro e w3 ⟨rfl, hb⟩; have HW2 := Lib.hid (HW0.out.trans (hb.mono HW0.out.size)); clear hb)))
        go_ret
        exact ⟨rfl, HB.out.trans (HW2.out.mono HB.out.size)⟩
      · rw [hx2] at hR HC2
        obtain rfl : R = true := hR.symm
        clear hR hx2
        go_enter Tryz.func81, Tryz.ntmps81
        go_wp2_with (first
          | (go_at_call 54; ((with_reducible refine (HC1.out).mono ?_); rintro e w' ⟨rfl, rfl⟩))
          | (go_at_call 83; ((with_reducible refine (HC2.out _ HW0.out).mono ?_); rintro e w3 ⟨rfl, hb⟩; have HW2 := Lib.hid (HW0.out.trans (hb.mono HW0.out.size)); clear hb)))
        go_ret
        exact ⟨rfl, HB.out.trans (HW2.out.mono HB.out.size)⟩
  · have rh1 := b_false (show (t.args.length : Int) ≠ 1 by omega)
    obtain rfl : R = false := by rw [← hR, decide_eq_false (by omega)]; rfl
    clear hR hk
    clear h1
    go_enter Tryz.func81, Tryz.ntmps81
    go_wp2_with fail
    go_ret
    exact ⟨rfl, HB.out.trans (HW0.out.mono HB.out.size)⟩
set_option maxRecDepth 100000 in
set_option maxHeartbeats 4000000 in
theorem cformed_11 (L : List Fl) (t : Fl) (vl vv kv av : Value) (w : World) (hN : NF w w.heap.size vl L) (hT : FV w w.heap.size t vv kv av) (hA : ∀ a ∈ t.args, 0 ≤ a ∧ a < (L.length : Int)) (hk : t.k = 11) :
    Calls Tryz.prog 81 #[vl, .agg (flVals t vv kv av).toArray] w fun e w' => e = .returned (.bool (formedC L t)) ∧ Below w.heap.size w w' := by
  obtain ⟨NA, nc, rfl, hn1, hn2⟩ := hN.len
  obtain ⟨VA, vc, rfl, hv1, hv2⟩ := hT.v.len
  obtain ⟨KA, kc, rfl, hk1, hk2⟩ := hT.k.len
  obtain ⟨AA, ac, rfl, ha1, ha2⟩ := hT.a.len
  have lv := hT.lv
  have lk := hT.lk
  have la := hT.la
  obtain ⟨W, hW⟩ : ∃ W, w.alloc (BoxF t (.slice VA t.vars.length vc) (.slice KA t.keys.length kc) (.slice AA t.args.length ac)) = W := ⟨_, rfl⟩
  have hbw : Below w.heap.size w W := by rw [← hW]; exact (Below.refl _ _).alloc (Nat.le_refl _) _
  have HB := Lib.hid hbw
  have HX := Lib.hid (show Blk W w.heap.size 43 #[.int .i64 t.k, .int .i64 t.n, .int .i64 t.m, .int .i64 t.i, .int .u64 t.b, .string ⟨t.t.toArray⟩, .slice VA t.vars.length vc, .slice KA t.keys.length kc, .slice AA t.args.length ac] by rw [← hW]; exact Blk.new _ _ _)
  have HN := Lib.hid (hN.below hbw)
  have HT := Lib.hid (hT.below hbw)
  have HV := Lib.hid (hT.v.below hbw)
  have HK := Lib.hid (hT.k.below hbw)
  have HA := Lib.hid (hT.a.below hbw)
  have HR := Lib.hid hA
  have HW0 := Lib.hid (Below.refl W.heap.size W)
  clear hN hT hA hbw
  have c0 : W.cell? ⟨w.heap.size, 0, none⟩ = some (.int .i64 t.k) := HX.out.cell 0
  have c1 : W.cell? ⟨w.heap.size, 1, none⟩ = some (.int .i64 t.n) := HX.out.cell 1
  have c2 : W.cell? ⟨w.heap.size, 2, none⟩ = some (.int .i64 t.m) := HX.out.cell 2
  have c3 : W.cell? ⟨w.heap.size, 3, none⟩ = some (.int .i64 t.i) := HX.out.cell 3
  have c4 : W.cell? ⟨w.heap.size, 4, none⟩ = some (.int .u64 t.b) := HX.out.cell 4
  have c5 : W.cell? ⟨w.heap.size, 5, none⟩ = some (.string ⟨t.t.toArray⟩) := HX.out.cell 5
  have c6 : W.cell? ⟨w.heap.size, 6, none⟩ = some (.slice VA t.vars.length vc) := HX.out.cell 6
  have c7 : W.cell? ⟨w.heap.size, 7, none⟩ = some (.slice KA t.keys.length kc) := HX.out.cell 7
  have c8 : W.cell? ⟨w.heap.size, 8, none⟩ = some (.slice AA t.args.length ac) := HX.out.cell 8
  unfold BoxF at hW
  unfold flVals
  obtain ⟨R, hR⟩ : ∃ R, formedC L t = R := ⟨_, rfl⟩
  rw [hR]
  rw [formedC_11 hk] at hR
  have q1 := b_false (show t.k ≠ 1 by omega)
  have q2 := b_false (show t.k ≠ 2 by omega)
  have q3 := b_false (show t.k ≠ 3 by omega)
  have q4 := b_false (show t.k ≠ 4 by omega)
  have q5 := b_false (show t.k ≠ 5 by omega)
  have q6 := b_false (show t.k ≠ 6 by omega)
  have q7 := b_false (show t.k ≠ 7 by omega)
  have q8 := b_false (show t.k ≠ 8 by omega)
  have q9 := b_false (show t.k ≠ 9 by omega)
  have q10 := b_false (show t.k ≠ 10 by omega)
  have q11 := b_true (show t.k = 11 by omega)
  by_cases h1 : 1 ≤ t.args.length
  · have rh1 := decide_eq_true (show (1 : Int) ≤ (t.args.length : Int) by omega)
    by_cases h2 : t.args.length ≤ 65
    · have rh2 := decide_eq_true (show (t.args.length : Int) - 1 ≤ 64 by omega)
      rw [decide_eq_true (by omega), Bool.true_and] at hR
      have HC1 := Lib.hid (fun w2 (hb : Below W.heap.size W w2) => catoms_any L t.args _ _ w2 (HN.out.below hb) HR.out (HA.out.below hb))
      clear hk
      clear h1 h2
      cases hx1 : atomsB L t.args
      · rw [hx1] at hR HC1
        obtain rfl : R = false := by rw [← hR]
        clear hR hx1
        go_enter Tryz.func81, Tryz.ntmps81
        go_wp2_with (go_at_call 82; ((with_reducible refine (HC1.out _ HW0.out).mono ?_); rintro e w2 ⟨rfl, hb⟩; have HW1 := Lib.hid (HW0.out.trans (hb.mono HW0.out.size)); clear hb))
        go_ret
        exact ⟨rfl, HB.out.trans (HW1.out.mono HB.out.size)⟩
      · rw [hx1] at hR HC1
        obtain rfl : R = true := hR.symm
        clear hR hx1
        go_enter Tryz.func81, Tryz.ntmps81
        go_wp2_with (go_at_call 82; ((with_reducible refine (HC1.out _ HW0.out).mono ?_); rintro e w2 ⟨rfl, hb⟩; have HW1 := Lib.hid (HW0.out.trans (hb.mono HW0.out.size)); clear hb))
        go_ret
        exact ⟨rfl, HB.out.trans (HW1.out.mono HB.out.size)⟩
    · have rh2 := decide_eq_false (show ¬ (t.args.length : Int) - 1 ≤ 64 by omega)
      obtain rfl : R = false := by rw [← hR, decide_eq_false (by omega)]; rfl
      clear hR hk
      clear h1 h2
      go_enter Tryz.func81, Tryz.ntmps81
      go_wp2_with fail
      go_ret
      exact ⟨rfl, HB.out.trans (HW0.out.mono HB.out.size)⟩
  · have rh1 := decide_eq_false (show ¬ (1 : Int) ≤ (t.args.length : Int) by omega)
    obtain rfl : R = false := by rw [← hR, decide_eq_false (by omega)]; rfl
    clear hR hk
    clear h1
    go_enter Tryz.func81, Tryz.ntmps81
    go_wp2_with fail
    go_ret
    exact ⟨rfl, HB.out.trans (HW0.out.mono HB.out.size)⟩
set_option maxRecDepth 100000 in
set_option maxHeartbeats 4000000 in
theorem cformed_12 (L : List Fl) (t : Fl) (vl vv kv av : Value) (w : World) (hN : NF w w.heap.size vl L) (hT : FV w w.heap.size t vv kv av) (hA : ∀ a ∈ t.args, 0 ≤ a ∧ a < (L.length : Int)) (hk : t.k = 12) :
    Calls Tryz.prog 81 #[vl, .agg (flVals t vv kv av).toArray] w fun e w' => e = .returned (.bool (formedC L t)) ∧ Below w.heap.size w w' := by
  obtain ⟨NA, nc, rfl, hn1, hn2⟩ := hN.len
  obtain ⟨VA, vc, rfl, hv1, hv2⟩ := hT.v.len
  obtain ⟨KA, kc, rfl, hk1, hk2⟩ := hT.k.len
  obtain ⟨AA, ac, rfl, ha1, ha2⟩ := hT.a.len
  have lv := hT.lv
  have lk := hT.lk
  have la := hT.la
  obtain ⟨W, hW⟩ : ∃ W, w.alloc (BoxF t (.slice VA t.vars.length vc) (.slice KA t.keys.length kc) (.slice AA t.args.length ac)) = W := ⟨_, rfl⟩
  have hbw : Below w.heap.size w W := by rw [← hW]; exact (Below.refl _ _).alloc (Nat.le_refl _) _
  have HB := Lib.hid hbw
  have HX := Lib.hid (show Blk W w.heap.size 43 #[.int .i64 t.k, .int .i64 t.n, .int .i64 t.m, .int .i64 t.i, .int .u64 t.b, .string ⟨t.t.toArray⟩, .slice VA t.vars.length vc, .slice KA t.keys.length kc, .slice AA t.args.length ac] by rw [← hW]; exact Blk.new _ _ _)
  have HN := Lib.hid (hN.below hbw)
  have HT := Lib.hid (hT.below hbw)
  have HV := Lib.hid (hT.v.below hbw)
  have HK := Lib.hid (hT.k.below hbw)
  have HA := Lib.hid (hT.a.below hbw)
  have HR := Lib.hid hA
  have HW0 := Lib.hid (Below.refl W.heap.size W)
  clear hN hT hA hbw
  have c0 : W.cell? ⟨w.heap.size, 0, none⟩ = some (.int .i64 t.k) := HX.out.cell 0
  have c1 : W.cell? ⟨w.heap.size, 1, none⟩ = some (.int .i64 t.n) := HX.out.cell 1
  have c2 : W.cell? ⟨w.heap.size, 2, none⟩ = some (.int .i64 t.m) := HX.out.cell 2
  have c3 : W.cell? ⟨w.heap.size, 3, none⟩ = some (.int .i64 t.i) := HX.out.cell 3
  have c4 : W.cell? ⟨w.heap.size, 4, none⟩ = some (.int .u64 t.b) := HX.out.cell 4
  have c5 : W.cell? ⟨w.heap.size, 5, none⟩ = some (.string ⟨t.t.toArray⟩) := HX.out.cell 5
  have c6 : W.cell? ⟨w.heap.size, 6, none⟩ = some (.slice VA t.vars.length vc) := HX.out.cell 6
  have c7 : W.cell? ⟨w.heap.size, 7, none⟩ = some (.slice KA t.keys.length kc) := HX.out.cell 7
  have c8 : W.cell? ⟨w.heap.size, 8, none⟩ = some (.slice AA t.args.length ac) := HX.out.cell 8
  unfold BoxF at hW
  unfold flVals
  obtain ⟨R, hR⟩ : ∃ R, formedC L t = R := ⟨_, rfl⟩
  rw [hR]
  rw [formedC_12 hk] at hR
  have q1 := b_false (show t.k ≠ 1 by omega)
  have q2 := b_false (show t.k ≠ 2 by omega)
  have q3 := b_false (show t.k ≠ 3 by omega)
  have q4 := b_false (show t.k ≠ 4 by omega)
  have q5 := b_false (show t.k ≠ 5 by omega)
  have q6 := b_false (show t.k ≠ 6 by omega)
  have q7 := b_false (show t.k ≠ 7 by omega)
  have q8 := b_false (show t.k ≠ 8 by omega)
  have q9 := b_false (show t.k ≠ 9 by omega)
  have q10 := b_false (show t.k ≠ 10 by omega)
  have q11 := b_false (show t.k ≠ 11 by omega)
  have q12 := b_true (show t.k = 12 by omega)
  have HC1 := Lib.hid (fun w2 (hb : Below W.heap.size W w2) => cconfunk_any t.keys _ w2 (HK.out.below hb))
  by_cases h1 : t.args.length = 1 + t.keys.length
  · have r1 := b_true (show (t.args.length : Int) = 1 + (t.keys.length : Int) by omega)
    rw [decide_eq_true (by omega), Bool.true_and] at hR
    obtain ⟨a0, ha0⟩ : ∃ a0, t.args[0]? = some a0 := ⟨_, List.getElem?_eq_getElem (by omega)⟩
    obtain ⟨aa, rfl, _, _⟩ := HA.out.at_ ha0
    have hac : ¬ ac = 0 := by omega
    have hcn : (1 : Int) ≤ (ac : Int) := by omega
    have han : (1 : Int) ≤ (t.args.length : Int) := by omega
    have ht := iv_take HA.out (k := 1) (by omega)
    have hd := iv_drop HA.out (k := 1) (by omega)
    obtain ⟨A1, hA1⟩ : ∃ A1, (if ac = 1 then some aa else some ⟨aa.block, aa.off + 1, none⟩) = A1 := ⟨_, rfl⟩
    have HD := Lib.hid (show IV W W.heap.size (.slice A1 (t.args.length - 1) (ac - 1)) (t.args.drop 1) by rw [← hA1]; exact hd)
    have HC2 := Lib.hid (fun w2 (hb : Below W.heap.size W w2) => catoms_any L (t.args.take 1) _ (.slice (some aa) 1 ac) w2 (HN.out.below hb) (fun a ha => HR.out a (List.mem_of_mem_take ha)) (ht.below hb))
    have HC3 := Lib.hid (fun w2 (hb : Below W.heap.size W w2) => cmoves_any L (t.args.drop 1) _ (.slice A1 (t.args.length - 1) (ac - 1)) w2 (HN.out.below hb) (fun a ha => HR.out a (List.mem_of_mem_drop ha)) (HD.out.below hb))
    clear hk ha0 ht hd h1
    rw [← Bool.not_not (t.keys.all keyOk)] at hR
    cases hx1 : t.keys.all keyOk
    · rw [hx1] at hR HC1
      obtain rfl : R = false := by rw [← hR]; rfl
      clear hR hx1
      go_enter Tryz.func81, Tryz.ntmps81
      go_wp2_with (go_at_call 150; ((with_reducible refine (HC1.out _ HW0.out).mono ?_); rintro e w2 ⟨rfl, hb⟩; have HW1 := Lib.hid (HW0.out.trans (hb.mono HW0.out.size)); clear hb; have d18 : w2.cell? ⟨w.heap.size, 8, none⟩ = some (.slice (some aa) t.args.length ac) := (HX.out.below HW1.out HX.out.lt).cell 8))
      go_ret
      exact ⟨rfl, HB.out.trans (HW1.out.mono HB.out.size)⟩
    · rw [hx1, Bool.not_not, Bool.true_and] at hR
      rw [hx1] at HC1
      clear hx1
      cases hx2 : atomsB L (t.args.take 1)
      · rw [hx2] at hR HC2
        obtain rfl : R = false := by rw [← hR]; rfl
        clear hR hx2
        go_enter Tryz.func81, Tryz.ntmps81
        go_wp2_with (first
          | (go_at_call 150; ((with_reducible refine (HC1.out _ HW0.out).mono ?_); rintro e w2 ⟨rfl, hb⟩; have HW1 := Lib.hid (HW0.out.trans (hb.mono HW0.out.size)); clear hb; have d18 : w2.cell? ⟨w.heap.size, 8, none⟩ = some (.slice (some aa) t.args.length ac) := (HX.out.below HW1.out HX.out.lt).cell 8))
          | (go_at_call 82; ((with_reducible refine (HC2.out _ HW1.out).mono ?_); rintro e w3 ⟨rfl, hb⟩; have HW2 := Lib.hid (HW1.out.trans (hb.mono HW1.out.size)); clear hb; have d28 : w3.cell? ⟨w.heap.size, 8, none⟩ = some (.slice (some aa) t.args.length ac) := (HX.out.below HW2.out HX.out.lt).cell 8)))
        go_ret
        exact ⟨rfl, HB.out.trans (HW2.out.mono HB.out.size)⟩
      · rw [hx2, Bool.true_and] at hR
        rw [hx2] at HC2
        clear hx2
        cases hx3 : movesB L (t.args.drop 1)
        · rw [hx3] at hR HC3
          obtain rfl : R = false := hR.symm
          clear hR hx3
          go_enter Tryz.func81, Tryz.ntmps81
          go_wp2_with (first
            | (go_at_call 150; ((with_reducible refine (HC1.out _ HW0.out).mono ?_); rintro e w2 ⟨rfl, hb⟩; have HW1 := Lib.hid (HW0.out.trans (hb.mono HW0.out.size)); clear hb; have d18 : w2.cell? ⟨w.heap.size, 8, none⟩ = some (.slice (some aa) t.args.length ac) := (HX.out.below HW1.out HX.out.lt).cell 8))
            | (go_at_call 82; ((with_reducible refine (HC2.out _ HW1.out).mono ?_); rintro e w3 ⟨rfl, hb⟩; have HW2 := Lib.hid (HW1.out.trans (hb.mono HW1.out.size)); clear hb; have d28 : w3.cell? ⟨w.heap.size, 8, none⟩ = some (.slice (some aa) t.args.length ac) := (HX.out.below HW2.out HX.out.lt).cell 8))
            | (go_at_call 83; ((with_reducible refine (HC3.out _ HW2.out).mono ?_); rintro e w4 ⟨rfl, hb⟩; have HW3 := Lib.hid (HW2.out.trans (hb.mono HW2.out.size)); clear hb)))
          go_ret
          exact ⟨rfl, HB.out.trans (HW3.out.mono HB.out.size)⟩
        · rw [hx3] at hR HC3
          obtain rfl : R = true := hR.symm
          clear hR hx3
          go_enter Tryz.func81, Tryz.ntmps81
          go_wp2_with (first
            | (go_at_call 150; ((with_reducible refine (HC1.out _ HW0.out).mono ?_); rintro e w2 ⟨rfl, hb⟩; have HW1 := Lib.hid (HW0.out.trans (hb.mono HW0.out.size)); clear hb; have d18 : w2.cell? ⟨w.heap.size, 8, none⟩ = some (.slice (some aa) t.args.length ac) := (HX.out.below HW1.out HX.out.lt).cell 8))
            | (go_at_call 82; ((with_reducible refine (HC2.out _ HW1.out).mono ?_); rintro e w3 ⟨rfl, hb⟩; have HW2 := Lib.hid (HW1.out.trans (hb.mono HW1.out.size)); clear hb; have d28 : w3.cell? ⟨w.heap.size, 8, none⟩ = some (.slice (some aa) t.args.length ac) := (HX.out.below HW2.out HX.out.lt).cell 8))
            | (go_at_call 83; ((with_reducible refine (HC3.out _ HW2.out).mono ?_); rintro e w4 ⟨rfl, hb⟩; have HW3 := Lib.hid (HW2.out.trans (hb.mono HW2.out.size)); clear hb)))
          go_ret
          exact ⟨rfl, HB.out.trans (HW3.out.mono HB.out.size)⟩
  · have r1 := b_false (show (t.args.length : Int) ≠ 1 + (t.keys.length : Int) by omega)
    by_cases h2 : t.args.length = 2 + t.keys.length
    · have r2 := b_true (show (t.args.length : Int) = 2 + (t.keys.length : Int) by omega)
      rw [decide_eq_true (by omega), Bool.true_and] at hR
      obtain ⟨a0, ha0⟩ : ∃ a0, t.args[0]? = some a0 := ⟨_, List.getElem?_eq_getElem (by omega)⟩
      obtain ⟨aa, rfl, _, _⟩ := HA.out.at_ ha0
      have hac : ¬ ac = 0 := by omega
      have hcn : (1 : Int) ≤ (ac : Int) := by omega
      have han : (1 : Int) ≤ (t.args.length : Int) := by omega
      have ht := iv_take HA.out (k := 1) (by omega)
      have hd := iv_drop HA.out (k := 1) (by omega)
      obtain ⟨A1, hA1⟩ : ∃ A1, (if ac = 1 then some aa else some ⟨aa.block, aa.off + 1, none⟩) = A1 := ⟨_, rfl⟩
      have HD := Lib.hid (show IV W W.heap.size (.slice A1 (t.args.length - 1) (ac - 1)) (t.args.drop 1) by rw [← hA1]; exact hd)
      have HC2 := Lib.hid (fun w2 (hb : Below W.heap.size W w2) => catoms_any L (t.args.take 1) _ (.slice (some aa) 1 ac) w2 (HN.out.below hb) (fun a ha => HR.out a (List.mem_of_mem_take ha)) (ht.below hb))
      have HC3 := Lib.hid (fun w2 (hb : Below W.heap.size W w2) => cmoves_any L (t.args.drop 1) _ (.slice A1 (t.args.length - 1) (ac - 1)) w2 (HN.out.below hb) (fun a ha => HR.out a (List.mem_of_mem_drop ha)) (HD.out.below hb))
      clear hk ha0 ht hd h1 h2
      rw [← Bool.not_not (t.keys.all keyOk)] at hR
      cases hx1 : t.keys.all keyOk
      · rw [hx1] at hR HC1
        obtain rfl : R = false := by rw [← hR]; rfl
        clear hR hx1
        go_enter Tryz.func81, Tryz.ntmps81
        go_wp2_with (go_at_call 150; ((with_reducible refine (HC1.out _ HW0.out).mono ?_); rintro e w2 ⟨rfl, hb⟩; have HW1 := Lib.hid (HW0.out.trans (hb.mono HW0.out.size)); clear hb; have d18 : w2.cell? ⟨w.heap.size, 8, none⟩ = some (.slice (some aa) t.args.length ac) := (HX.out.below HW1.out HX.out.lt).cell 8))
        go_ret
        exact ⟨rfl, HB.out.trans (HW1.out.mono HB.out.size)⟩
      · rw [hx1, Bool.not_not, Bool.true_and] at hR
        rw [hx1] at HC1
        clear hx1
        cases hx2 : atomsB L (t.args.take 1)
        · rw [hx2] at hR HC2
          obtain rfl : R = false := by rw [← hR]; rfl
          clear hR hx2
          go_enter Tryz.func81, Tryz.ntmps81
          go_wp2_with (first
            | (go_at_call 150; ((with_reducible refine (HC1.out _ HW0.out).mono ?_); rintro e w2 ⟨rfl, hb⟩; have HW1 := Lib.hid (HW0.out.trans (hb.mono HW0.out.size)); clear hb; have d18 : w2.cell? ⟨w.heap.size, 8, none⟩ = some (.slice (some aa) t.args.length ac) := (HX.out.below HW1.out HX.out.lt).cell 8))
            | (go_at_call 82; ((with_reducible refine (HC2.out _ HW1.out).mono ?_); rintro e w3 ⟨rfl, hb⟩; have HW2 := Lib.hid (HW1.out.trans (hb.mono HW1.out.size)); clear hb; have d28 : w3.cell? ⟨w.heap.size, 8, none⟩ = some (.slice (some aa) t.args.length ac) := (HX.out.below HW2.out HX.out.lt).cell 8)))
          go_ret
          exact ⟨rfl, HB.out.trans (HW2.out.mono HB.out.size)⟩
        · rw [hx2, Bool.true_and] at hR
          rw [hx2] at HC2
          clear hx2
          cases hx3 : movesB L (t.args.drop 1)
          · rw [hx3] at hR HC3
            obtain rfl : R = false := hR.symm
            clear hR hx3
            go_enter Tryz.func81, Tryz.ntmps81
            go_wp2_with (first
              | (go_at_call 150; ((with_reducible refine (HC1.out _ HW0.out).mono ?_); rintro e w2 ⟨rfl, hb⟩; have HW1 := Lib.hid (HW0.out.trans (hb.mono HW0.out.size)); clear hb; have d18 : w2.cell? ⟨w.heap.size, 8, none⟩ = some (.slice (some aa) t.args.length ac) := (HX.out.below HW1.out HX.out.lt).cell 8))
              | (go_at_call 82; ((with_reducible refine (HC2.out _ HW1.out).mono ?_); rintro e w3 ⟨rfl, hb⟩; have HW2 := Lib.hid (HW1.out.trans (hb.mono HW1.out.size)); clear hb; have d28 : w3.cell? ⟨w.heap.size, 8, none⟩ = some (.slice (some aa) t.args.length ac) := (HX.out.below HW2.out HX.out.lt).cell 8))
              | (go_at_call 83; ((with_reducible refine (HC3.out _ HW2.out).mono ?_); rintro e w4 ⟨rfl, hb⟩; have HW3 := Lib.hid (HW2.out.trans (hb.mono HW2.out.size)); clear hb)))
            go_ret
            exact ⟨rfl, HB.out.trans (HW3.out.mono HB.out.size)⟩
          · rw [hx3] at hR HC3
            obtain rfl : R = true := hR.symm
            clear hR hx3
            go_enter Tryz.func81, Tryz.ntmps81
            go_wp2_with (first
              | (go_at_call 150; ((with_reducible refine (HC1.out _ HW0.out).mono ?_); rintro e w2 ⟨rfl, hb⟩; have HW1 := Lib.hid (HW0.out.trans (hb.mono HW0.out.size)); clear hb; have d18 : w2.cell? ⟨w.heap.size, 8, none⟩ = some (.slice (some aa) t.args.length ac) := (HX.out.below HW1.out HX.out.lt).cell 8))
              | (go_at_call 82; ((with_reducible refine (HC2.out _ HW1.out).mono ?_); rintro e w3 ⟨rfl, hb⟩; have HW2 := Lib.hid (HW1.out.trans (hb.mono HW1.out.size)); clear hb; have d28 : w3.cell? ⟨w.heap.size, 8, none⟩ = some (.slice (some aa) t.args.length ac) := (HX.out.below HW2.out HX.out.lt).cell 8))
              | (go_at_call 83; ((with_reducible refine (HC3.out _ HW2.out).mono ?_); rintro e w4 ⟨rfl, hb⟩; have HW3 := Lib.hid (HW2.out.trans (hb.mono HW2.out.size)); clear hb)))
            go_ret
            exact ⟨rfl, HB.out.trans (HW3.out.mono HB.out.size)⟩
    · have r2 := b_false (show (t.args.length : Int) ≠ 2 + (t.keys.length : Int) by omega)
      obtain rfl : R = false := by rw [← hR, decide_eq_false (by omega)]; rfl
      clear hR hk h1 h2
      go_enter Tryz.func81, Tryz.ntmps81
      go_wp2_with fail
      go_ret
      exact ⟨rfl, HB.out.trans (HW0.out.mono HB.out.size)⟩
set_option maxRecDepth 100000 in
set_option maxHeartbeats 4000000 in
theorem cformed_1314_13 (L : List Fl) (t : Fl) (vl vv kv av : Value) (w : World) (hN : NF w w.heap.size vl L) (hT : FV w w.heap.size t vv kv av) (hA : ∀ a ∈ t.args, 0 ≤ a ∧ a < (L.length : Int)) (hk : t.k = 13) :
    Calls Tryz.prog 81 #[vl, .agg (flVals t vv kv av).toArray] w fun e w' => e = .returned (.bool (formedC L t)) ∧ Below w.heap.size w w' := by
  obtain ⟨NA, nc, rfl, hn1, hn2⟩ := hN.len
  obtain ⟨VA, vc, rfl, hv1, hv2⟩ := hT.v.len
  obtain ⟨KA, kc, rfl, hk1, hk2⟩ := hT.k.len
  obtain ⟨AA, ac, rfl, ha1, ha2⟩ := hT.a.len
  have lv := hT.lv
  have lk := hT.lk
  have la := hT.la
  obtain ⟨W, hW⟩ : ∃ W, w.alloc (BoxF t (.slice VA t.vars.length vc) (.slice KA t.keys.length kc) (.slice AA t.args.length ac)) = W := ⟨_, rfl⟩
  have hbw : Below w.heap.size w W := by rw [← hW]; exact (Below.refl _ _).alloc (Nat.le_refl _) _
  have HB := Lib.hid hbw
  have HX := Lib.hid (show Blk W w.heap.size 43 #[.int .i64 t.k, .int .i64 t.n, .int .i64 t.m, .int .i64 t.i, .int .u64 t.b, .string ⟨t.t.toArray⟩, .slice VA t.vars.length vc, .slice KA t.keys.length kc, .slice AA t.args.length ac] by rw [← hW]; exact Blk.new _ _ _)
  have HN := Lib.hid (hN.below hbw)
  have HT := Lib.hid (hT.below hbw)
  have HV := Lib.hid (hT.v.below hbw)
  have HK := Lib.hid (hT.k.below hbw)
  have HA := Lib.hid (hT.a.below hbw)
  have HR := Lib.hid hA
  have HW0 := Lib.hid (Below.refl W.heap.size W)
  clear hN hT hA hbw
  have c0 : W.cell? ⟨w.heap.size, 0, none⟩ = some (.int .i64 t.k) := HX.out.cell 0
  have c1 : W.cell? ⟨w.heap.size, 1, none⟩ = some (.int .i64 t.n) := HX.out.cell 1
  have c2 : W.cell? ⟨w.heap.size, 2, none⟩ = some (.int .i64 t.m) := HX.out.cell 2
  have c3 : W.cell? ⟨w.heap.size, 3, none⟩ = some (.int .i64 t.i) := HX.out.cell 3
  have c4 : W.cell? ⟨w.heap.size, 4, none⟩ = some (.int .u64 t.b) := HX.out.cell 4
  have c5 : W.cell? ⟨w.heap.size, 5, none⟩ = some (.string ⟨t.t.toArray⟩) := HX.out.cell 5
  have c6 : W.cell? ⟨w.heap.size, 6, none⟩ = some (.slice VA t.vars.length vc) := HX.out.cell 6
  have c7 : W.cell? ⟨w.heap.size, 7, none⟩ = some (.slice KA t.keys.length kc) := HX.out.cell 7
  have c8 : W.cell? ⟨w.heap.size, 8, none⟩ = some (.slice AA t.args.length ac) := HX.out.cell 8
  unfold BoxF at hW
  unfold flVals
  obtain ⟨R, hR⟩ : ∃ R, formedC L t = R := ⟨_, rfl⟩
  rw [hR]
  rw [formedC_1314 (by omega)] at hR
  have q1 := b_false (show t.k ≠ 1 by omega)
  have q2 := b_false (show t.k ≠ 2 by omega)
  have q3 := b_false (show t.k ≠ 3 by omega)
  have q4 := b_false (show t.k ≠ 4 by omega)
  have q5 := b_false (show t.k ≠ 5 by omega)
  have q6 := b_false (show t.k ≠ 6 by omega)
  have q7 := b_false (show t.k ≠ 7 by omega)
  have q8 := b_false (show t.k ≠ 8 by omega)
  have q9 := b_false (show t.k ≠ 9 by omega)
  have q10 := b_false (show t.k ≠ 10 by omega)
  have q11 := b_false (show t.k ≠ 11 by omega)
  have q12 := b_false (show t.k ≠ 12 by omega)
  have q13 := b_true (show t.k = 13 by omega)
  by_cases h1 : t.args.length = 1
  · have rh1 := b_true (show (t.args.length : Int) = 1 by omega)
    rw [decide_eq_true (by omega), Bool.true_and] at hR
    have HC1 := Lib.hid (fun w2 (hb : Below W.heap.size W w2) => catoms_any L t.args _ _ w2 (HN.out.below hb) HR.out (HA.out.below hb))
    rw [h1] at hW ⊢
    rw [h1] at HC1 c8
    clear hk
    cases hx1 : atomsB L t.args
    · rw [hx1] at hR HC1
      obtain rfl : R = false := by rw [← hR]
      clear hR hx1
      go_enter Tryz.func81, Tryz.ntmps81
      go_wp2_with (go_at_call 82; ((with_reducible refine (HC1.out _ HW0.out).mono ?_); rintro e w2 ⟨rfl, hb⟩; have HW1 := Lib.hid (HW0.out.trans (hb.mono HW0.out.size)); clear hb))
      go_ret
      exact ⟨rfl, HB.out.trans (HW1.out.mono HB.out.size)⟩
    · rw [hx1] at hR HC1
      obtain rfl : R = true := hR.symm
      clear hR hx1
      go_enter Tryz.func81, Tryz.ntmps81
      go_wp2_with (go_at_call 82; ((with_reducible refine (HC1.out _ HW0.out).mono ?_); rintro e w2 ⟨rfl, hb⟩; have HW1 := Lib.hid (HW0.out.trans (hb.mono HW0.out.size)); clear hb))
      go_ret
      exact ⟨rfl, HB.out.trans (HW1.out.mono HB.out.size)⟩
  · have rh1 := b_false (show (t.args.length : Int) ≠ 1 by omega)
    obtain rfl : R = false := by rw [← hR, decide_eq_false (by omega)]; rfl
    clear hR hk
    clear h1
    go_enter Tryz.func81, Tryz.ntmps81
    go_wp2_with fail
    go_ret
    exact ⟨rfl, HB.out.trans (HW0.out.mono HB.out.size)⟩
set_option maxRecDepth 100000 in
set_option maxHeartbeats 4000000 in
theorem cformed_1314_14 (L : List Fl) (t : Fl) (vl vv kv av : Value) (w : World) (hN : NF w w.heap.size vl L) (hT : FV w w.heap.size t vv kv av) (hA : ∀ a ∈ t.args, 0 ≤ a ∧ a < (L.length : Int)) (hk : t.k = 14) :
    Calls Tryz.prog 81 #[vl, .agg (flVals t vv kv av).toArray] w fun e w' => e = .returned (.bool (formedC L t)) ∧ Below w.heap.size w w' := by
  obtain ⟨NA, nc, rfl, hn1, hn2⟩ := hN.len
  obtain ⟨VA, vc, rfl, hv1, hv2⟩ := hT.v.len
  obtain ⟨KA, kc, rfl, hk1, hk2⟩ := hT.k.len
  obtain ⟨AA, ac, rfl, ha1, ha2⟩ := hT.a.len
  have lv := hT.lv
  have lk := hT.lk
  have la := hT.la
  obtain ⟨W, hW⟩ : ∃ W, w.alloc (BoxF t (.slice VA t.vars.length vc) (.slice KA t.keys.length kc) (.slice AA t.args.length ac)) = W := ⟨_, rfl⟩
  have hbw : Below w.heap.size w W := by rw [← hW]; exact (Below.refl _ _).alloc (Nat.le_refl _) _
  have HB := Lib.hid hbw
  have HX := Lib.hid (show Blk W w.heap.size 43 #[.int .i64 t.k, .int .i64 t.n, .int .i64 t.m, .int .i64 t.i, .int .u64 t.b, .string ⟨t.t.toArray⟩, .slice VA t.vars.length vc, .slice KA t.keys.length kc, .slice AA t.args.length ac] by rw [← hW]; exact Blk.new _ _ _)
  have HN := Lib.hid (hN.below hbw)
  have HT := Lib.hid (hT.below hbw)
  have HV := Lib.hid (hT.v.below hbw)
  have HK := Lib.hid (hT.k.below hbw)
  have HA := Lib.hid (hT.a.below hbw)
  have HR := Lib.hid hA
  have HW0 := Lib.hid (Below.refl W.heap.size W)
  clear hN hT hA hbw
  have c0 : W.cell? ⟨w.heap.size, 0, none⟩ = some (.int .i64 t.k) := HX.out.cell 0
  have c1 : W.cell? ⟨w.heap.size, 1, none⟩ = some (.int .i64 t.n) := HX.out.cell 1
  have c2 : W.cell? ⟨w.heap.size, 2, none⟩ = some (.int .i64 t.m) := HX.out.cell 2
  have c3 : W.cell? ⟨w.heap.size, 3, none⟩ = some (.int .i64 t.i) := HX.out.cell 3
  have c4 : W.cell? ⟨w.heap.size, 4, none⟩ = some (.int .u64 t.b) := HX.out.cell 4
  have c5 : W.cell? ⟨w.heap.size, 5, none⟩ = some (.string ⟨t.t.toArray⟩) := HX.out.cell 5
  have c6 : W.cell? ⟨w.heap.size, 6, none⟩ = some (.slice VA t.vars.length vc) := HX.out.cell 6
  have c7 : W.cell? ⟨w.heap.size, 7, none⟩ = some (.slice KA t.keys.length kc) := HX.out.cell 7
  have c8 : W.cell? ⟨w.heap.size, 8, none⟩ = some (.slice AA t.args.length ac) := HX.out.cell 8
  unfold BoxF at hW
  unfold flVals
  obtain ⟨R, hR⟩ : ∃ R, formedC L t = R := ⟨_, rfl⟩
  rw [hR]
  rw [formedC_1314 (by omega)] at hR
  have q1 := b_false (show t.k ≠ 1 by omega)
  have q2 := b_false (show t.k ≠ 2 by omega)
  have q3 := b_false (show t.k ≠ 3 by omega)
  have q4 := b_false (show t.k ≠ 4 by omega)
  have q5 := b_false (show t.k ≠ 5 by omega)
  have q6 := b_false (show t.k ≠ 6 by omega)
  have q7 := b_false (show t.k ≠ 7 by omega)
  have q8 := b_false (show t.k ≠ 8 by omega)
  have q9 := b_false (show t.k ≠ 9 by omega)
  have q10 := b_false (show t.k ≠ 10 by omega)
  have q11 := b_false (show t.k ≠ 11 by omega)
  have q12 := b_false (show t.k ≠ 12 by omega)
  have q13 := b_false (show t.k ≠ 13 by omega)
  have q14 := b_true (show t.k = 14 by omega)
  by_cases h1 : t.args.length = 1
  · have rh1 := b_true (show (t.args.length : Int) = 1 by omega)
    rw [decide_eq_true (by omega), Bool.true_and] at hR
    have HC1 := Lib.hid (fun w2 (hb : Below W.heap.size W w2) => catoms_any L t.args _ _ w2 (HN.out.below hb) HR.out (HA.out.below hb))
    rw [h1] at hW ⊢
    rw [h1] at HC1 c8
    clear hk
    cases hx1 : atomsB L t.args
    · rw [hx1] at hR HC1
      obtain rfl : R = false := by rw [← hR]
      clear hR hx1
      go_enter Tryz.func81, Tryz.ntmps81
      go_wp2_with (go_at_call 82; ((with_reducible refine (HC1.out _ HW0.out).mono ?_); rintro e w2 ⟨rfl, hb⟩; have HW1 := Lib.hid (HW0.out.trans (hb.mono HW0.out.size)); clear hb))
      go_ret
      exact ⟨rfl, HB.out.trans (HW1.out.mono HB.out.size)⟩
    · rw [hx1] at hR HC1
      obtain rfl : R = true := hR.symm
      clear hR hx1
      go_enter Tryz.func81, Tryz.ntmps81
      go_wp2_with (go_at_call 82; ((with_reducible refine (HC1.out _ HW0.out).mono ?_); rintro e w2 ⟨rfl, hb⟩; have HW1 := Lib.hid (HW0.out.trans (hb.mono HW0.out.size)); clear hb))
      go_ret
      exact ⟨rfl, HB.out.trans (HW1.out.mono HB.out.size)⟩
  · have rh1 := b_false (show (t.args.length : Int) ≠ 1 by omega)
    obtain rfl : R = false := by rw [← hR, decide_eq_false (by omega)]; rfl
    clear hR hk
    clear h1
    go_enter Tryz.func81, Tryz.ntmps81
    go_wp2_with fail
    go_ret
    exact ⟨rfl, HB.out.trans (HW0.out.mono HB.out.size)⟩
set_option maxRecDepth 100000 in
set_option maxHeartbeats 4000000 in
theorem cformed_no (L : List Fl) (t : Fl) (vl vv kv av : Value) (w : World) (hN : NF w w.heap.size vl L) (hT : FV w w.heap.size t vv kv av) (hA : ∀ a ∈ t.args, 0 ≤ a ∧ a < (L.length : Int)) (hk : t.k < 1 ∨ 14 < t.k) :
    Calls Tryz.prog 81 #[vl, .agg (flVals t vv kv av).toArray] w fun e w' => e = .returned (.bool (formedC L t)) ∧ Below w.heap.size w w' := by
  obtain ⟨NA, nc, rfl, hn1, hn2⟩ := hN.len
  obtain ⟨VA, vc, rfl, hv1, hv2⟩ := hT.v.len
  obtain ⟨KA, kc, rfl, hk1, hk2⟩ := hT.k.len
  obtain ⟨AA, ac, rfl, ha1, ha2⟩ := hT.a.len
  have lv := hT.lv
  have lk := hT.lk
  have la := hT.la
  obtain ⟨W, hW⟩ : ∃ W, w.alloc (BoxF t (.slice VA t.vars.length vc) (.slice KA t.keys.length kc) (.slice AA t.args.length ac)) = W := ⟨_, rfl⟩
  have hbw : Below w.heap.size w W := by rw [← hW]; exact (Below.refl _ _).alloc (Nat.le_refl _) _
  have HB := Lib.hid hbw
  have HX := Lib.hid (show Blk W w.heap.size 43 #[.int .i64 t.k, .int .i64 t.n, .int .i64 t.m, .int .i64 t.i, .int .u64 t.b, .string ⟨t.t.toArray⟩, .slice VA t.vars.length vc, .slice KA t.keys.length kc, .slice AA t.args.length ac] by rw [← hW]; exact Blk.new _ _ _)
  have HN := Lib.hid (hN.below hbw)
  have HT := Lib.hid (hT.below hbw)
  have HV := Lib.hid (hT.v.below hbw)
  have HK := Lib.hid (hT.k.below hbw)
  have HA := Lib.hid (hT.a.below hbw)
  have HR := Lib.hid hA
  have HW0 := Lib.hid (Below.refl W.heap.size W)
  clear hN hT hA hbw
  have c0 : W.cell? ⟨w.heap.size, 0, none⟩ = some (.int .i64 t.k) := HX.out.cell 0
  have c1 : W.cell? ⟨w.heap.size, 1, none⟩ = some (.int .i64 t.n) := HX.out.cell 1
  have c2 : W.cell? ⟨w.heap.size, 2, none⟩ = some (.int .i64 t.m) := HX.out.cell 2
  have c3 : W.cell? ⟨w.heap.size, 3, none⟩ = some (.int .i64 t.i) := HX.out.cell 3
  have c4 : W.cell? ⟨w.heap.size, 4, none⟩ = some (.int .u64 t.b) := HX.out.cell 4
  have c5 : W.cell? ⟨w.heap.size, 5, none⟩ = some (.string ⟨t.t.toArray⟩) := HX.out.cell 5
  have c6 : W.cell? ⟨w.heap.size, 6, none⟩ = some (.slice VA t.vars.length vc) := HX.out.cell 6
  have c7 : W.cell? ⟨w.heap.size, 7, none⟩ = some (.slice KA t.keys.length kc) := HX.out.cell 7
  have c8 : W.cell? ⟨w.heap.size, 8, none⟩ = some (.slice AA t.args.length ac) := HX.out.cell 8
  unfold BoxF at hW
  unfold flVals
  obtain ⟨R, hR⟩ : ∃ R, formedC L t = R := ⟨_, rfl⟩
  rw [hR]
  rw [formedC_no hk] at hR
  have q1 := b_false (show t.k ≠ 1 by omega)
  have q2 := b_false (show t.k ≠ 2 by omega)
  have q3 := b_false (show t.k ≠ 3 by omega)
  have q4 := b_false (show t.k ≠ 4 by omega)
  have q5 := b_false (show t.k ≠ 5 by omega)
  have q6 := b_false (show t.k ≠ 6 by omega)
  have q7 := b_false (show t.k ≠ 7 by omega)
  have q8 := b_false (show t.k ≠ 8 by omega)
  have q9 := b_false (show t.k ≠ 9 by omega)
  have q10 := b_false (show t.k ≠ 10 by omega)
  have q11 := b_false (show t.k ≠ 11 by omega)
  have q12 := b_false (show t.k ≠ 12 by omega)
  have q13 := b_false (show t.k ≠ 13 by omega)
  have q14 := b_false (show t.k ≠ 14 by omega)
  subst hR
  clear hk
  go_enter Tryz.func81, Tryz.ntmps81
  go_wp2_with fail
  go_ret
  exact ⟨rfl, HB.out.trans (HW0.out.mono HB.out.size)⟩
theorem cformed_any (L : List Fl) (t : Fl) (vl vv kv av : Value) (w : World) (hN : NF w w.heap.size vl L) (hT : FV w w.heap.size t vv kv av) (hA : ∀ a ∈ t.args, 0 ≤ a ∧ a < (L.length : Int)) :
    Calls Tryz.prog 81 #[vl, .agg (flVals t vv kv av).toArray] w fun e w' => e = .returned (.bool (formedC L t)) ∧ Below w.heap.size w w' := by
  rcases (by omega : (t.k < 1 ∨ 14 < t.k) ∨ t.k = 1 ∨ t.k = 2 ∨ t.k = 3 ∨ t.k = 4 ∨ t.k = 5 ∨ t.k = 6 ∨ t.k = 7 ∨ t.k = 8 ∨ t.k = 9 ∨ t.k = 10 ∨ t.k = 11 ∨ t.k = 12 ∨ t.k = 13 ∨ t.k = 14) with h | h | h | h | h | h | h | h | h | h | h | h | h | h | h
  · exact cformed_no L t vl vv kv av w hN hT hA h
  · exact cformed_1 L t vl vv kv av w hN hT hA h
  · exact cformed_2 L t vl vv kv av w hN hT hA h
  · exact cformed_3 L t vl vv kv av w hN hT hA h
  · exact cformed_4 L t vl vv kv av w hN hT hA h
  · exact cformed_5 L t vl vv kv av w hN hT hA h
  · exact cformed_67_6 L t vl vv kv av w hN hT hA h
  · exact cformed_67_7 L t vl vv kv av w hN hT hA h
  · exact cformed_8 L t vl vv kv av w hN hT hA h
  · exact cformed_9 L t vl vv kv av w hN hT hA h
  · exact cformed_10 L t vl vv kv av w hN hT hA h
  · exact cformed_11 L t vl vv kv av w hN hT hA h
  · exact cformed_12 L t vl vv kv av w hN hT hA h
  · exact cformed_1314_13 L t vl vv kv av w hN hT hA h
  · exact cformed_1314_14 L t vl vv kv av w hN hT hA h
end Go.Proofs.YtjhdlnllhjffkaaGreatDoor
