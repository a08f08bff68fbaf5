/- Close: the reference's form of a node. -/
import Derived.Test.YtjhdlnllhjffkaaGreatDoorCloMn
import Derived.Test.YtjhdlnllhjffkaaGreatDoorCpsQ
namespace Go.Proofs.YtjhdlnllhjffkaaGreatDoor
open Go.RowKit LamM CpsM CloM
set_option maxRecDepth 100000 in
set_option maxHeartbeats 4000000 in
theorem sformed_1 (L : List Fl) (t : Fl) (vl vv kv av : Value) (w : World) (hN : NF w w.heap.size vl L) (hT : FV w w.heap.size t vv kv av) (hA : ∀ a ∈ t.args, 0 ≤ a ∧ a < (L.length : Int)) (hk : t.k = 1) :
    Calls Tryz.prog 38 #[vl, .agg (flVals t vv kv av).toArray] w fun e w' => e = .returned (.bool (formedS L t)) ∧ Below w.heap.size w w' := by
  obtain ⟨NA, nc, rfl, hn1, hn2⟩ := hN.len
  obtain ⟨VA, vc, rfl, hv1, hv2⟩ := hT.v.len
  obtain ⟨KA, kc, rfl, hk1, hk2⟩ := hT.k.len
  obtain ⟨AA, ac, rfl, ha1, ha2⟩ := hT.a.len
  have lv := hT.lv
  have lk := hT.lk
  have la := hT.la
  obtain ⟨W, hW⟩ : ∃ W, w.alloc (BoxF t (.slice VA t.vars.length vc) (.slice KA t.keys.length kc) (.slice AA t.args.length ac)) = W := ⟨_, rfl⟩
  have hbw : Below w.heap.size w W := by rw [← hW]; exact (Below.refl _ _).alloc (Nat.le_refl _) _
  have HB := Lib.hid hbw
  have HX := Lib.hid (show Blk W w.heap.size 43 #[.int .i64 t.k, .int .i64 t.n, .int .i64 t.m, .int .i64 t.i, .int .u64 t.b, .string ⟨t.t.toArray⟩, .slice VA t.vars.length vc, .slice KA t.keys.length kc, .slice AA t.args.length ac] by rw [← hW]; exact Blk.new _ _ _)
  have HN := Lib.hid (hN.below hbw)
  have HT := Lib.hid (hT.below hbw)
  have HV := Lib.hid (hT.v.below hbw)
  have HK := Lib.hid (hT.k.below hbw)
  have HA := Lib.hid (hT.a.below hbw)
  have HR := Lib.hid hA
  have HW0 := Lib.hid (Below.refl W.heap.size W)
  clear hN hT hA hbw
  have c0 : W.cell? ⟨w.heap.size, 0, none⟩ = some (.int .i64 t.k) := HX.out.cell 0
  have c1 : W.cell? ⟨w.heap.size, 1, none⟩ = some (.int .i64 t.n) := HX.out.cell 1
  have c2 : W.cell? ⟨w.heap.size, 2, none⟩ = some (.int .i64 t.m) := HX.out.cell 2
  have c3 : W.cell? ⟨w.heap.size, 3, none⟩ = some (.int .i64 t.i) := HX.out.cell 3
  have c4 : W.cell? ⟨w.heap.size, 4, none⟩ = some (.int .u64 t.b) := HX.out.cell 4
  have c5 : W.cell? ⟨w.heap.size, 5, none⟩ = some (.string ⟨t.t.toArray⟩) := HX.out.cell 5
  have c6 : W.cell? ⟨w.heap.size, 6, none⟩ = some (.slice VA t.vars.length vc) := HX.out.cell 6
  have c7 : W.cell? ⟨w.heap.size, 7, none⟩ = some (.slice KA t.keys.length kc) := HX.out.cell 7
  have c8 : W.cell? ⟨w.heap.size, 8, none⟩ = some (.slice AA t.args.length ac) := HX.out.cell 8
  unfold BoxF at hW
  unfold flVals
  obtain ⟨R, hR⟩ : ∃ R, formedS L t = R := ⟨_, rfl⟩
  rw [hR]
  rw [formedS_1 hk] at hR
  have q1 := b_true (show t.k = 1 by omega)
  by_cases h1 : t.args.length = 0
  · have rh1 := b_true (show (t.args.length : Int) = 0 by omega)
    by_cases h2 : 0 ≤ t.n
    · have rh2 := decide_eq_true h2
      rw [decide_eq_true (by omega)] at hR
      subst hR
      clear hk
      clear h1 h2
      go_enter Tryz.func38, Tryz.ntmps38
      go_wp2_with fail
      go_ret
      exact ⟨rfl, HB.out.trans (HW0.out.mono HB.out.size)⟩
    · have rh2 := decide_eq_false h2
      obtain rfl : R = false := by rw [← hR, decide_eq_false (by omega)]
      clear hR hk
      clear h1 h2
      go_enter Tryz.func38, Tryz.ntmps38
      go_wp2_with fail
      go_ret
      exact ⟨rfl, HB.out.trans (HW0.out.mono HB.out.size)⟩
  · have rh1 := b_false (show (t.args.length : Int) ≠ 0 by omega)
    obtain rfl : R = false := by rw [← hR, decide_eq_false (by omega)]
    clear hR hk
    clear h1
    go_enter Tryz.func38, Tryz.ntmps38
    go_wp2_with fail
    go_ret
    exact ⟨rfl, HB.out.trans (HW0.out.mono HB.out.size)⟩
set_option maxRecDepth 100000 in
set_option maxHeartbeats 4000000 in
theorem sformed_2 (L : List Fl) (t : Fl) (vl vv kv av : Value) (w : World) (hN : NF w w.heap.size vl L) (hT : FV w w.heap.size t vv kv av) (hA : ∀ a ∈ t.args, 0 ≤ a ∧ a < (L.length : Int)) (hk : t.k = 2) :
    Calls Tryz.prog 38 #[vl, .agg (flVals t vv kv av).toArray] w fun e w' => e = .returned (.bool (formedS L t)) ∧ Below w.heap.size w w' := by
  obtain ⟨NA, nc, rfl, hn1, hn2⟩ := hN.len
  obtain ⟨VA, vc, rfl, hv1, hv2⟩ := hT.v.len
  obtain ⟨KA, kc, rfl, hk1, hk2⟩ := hT.k.len
  obtain ⟨AA, ac, rfl, ha1, ha2⟩ := hT.a.len
  have lv := hT.lv
  have lk := hT.lk
  have la := hT.la
  obtain ⟨W, hW⟩ : ∃ W, w.alloc (BoxF t (.slice VA t.vars.length vc) (.slice KA t.keys.length kc) (.slice AA t.args.length ac)) = W := ⟨_, rfl⟩
  have hbw : Below w.heap.size w W := by rw [← hW]; exact (Below.refl _ _).alloc (Nat.le_refl _) _
  have HB := Lib.hid hbw
  have HX := Lib.hid (show Blk W w.heap.size 43 #[.int .i64 t.k, .int .i64 t.n, .int .i64 t.m, .int .i64 t.i, .int .u64 t.b, .string ⟨t.t.toArray⟩, .slice VA t.vars.length vc, .slice KA t.keys.length kc, .slice AA t.args.length ac] by rw [← hW]; exact Blk.new _ _ _)
  have HN := Lib.hid (hN.below hbw)
  have HT := Lib.hid (hT.below hbw)
  have HV := Lib.hid (hT.v.below hbw)
  have HK := Lib.hid (hT.k.below hbw)
  have HA := Lib.hid (hT.a.below hbw)
  have HR := Lib.hid hA
  have HW0 := Lib.hid (Below.refl W.heap.size W)
  clear hN hT hA hbw
  have c0 : W.cell? ⟨w.heap.size, 0, none⟩ = some (.int .i64 t.k) := HX.out.cell 0
  have c1 : W.cell? ⟨w.heap.size, 1, none⟩ = some (.int .i64 t.n) := HX.out.cell 1
  have c2 : W.cell? ⟨w.heap.size, 2, none⟩ = some (.int .i64 t.m) := HX.out.cell 2
  have c3 : W.cell? ⟨w.heap.size, 3, none⟩ = some (.int .i64 t.i) := HX.out.cell 3
  have c4 : W.cell? ⟨w.heap.size, 4, none⟩ = some (.int .u64 t.b) := HX.out.cell 4
  have c5 : W.cell? ⟨w.heap.size, 5, none⟩ = some (.string ⟨t.t.toArray⟩) := HX.out.cell 5
  have c6 : W.cell? ⟨w.heap.size, 6, none⟩ = some (.slice VA t.vars.length vc) := HX.out.cell 6
  have c7 : W.cell? ⟨w.heap.size, 7, none⟩ = some (.slice KA t.keys.length kc) := HX.out.cell 7
  have c8 : W.cell? ⟨w.heap.size, 8, none⟩ = some (.slice AA t.args.length ac) := HX.out.cell 8
  unfold BoxF at hW
  unfold flVals
  obtain ⟨R, hR⟩ : ∃ R, formedS L t = R := ⟨_, rfl⟩
  rw [hR]
  rw [formedS_2 hk] at hR
  have q1 := b_false (show t.k ≠ 1 by omega)
  have q2 := b_true (show t.k = 2 by omega)
  have HC := Lib.hid (fun w => rright_any t.i w)
  by_cases h1 : t.args.length = 0
  · have rh1 := b_true (show (t.args.length : Int) = 0 by omega)
    have hR2 : rightI t.i = R := by rw [← hR]; unfold rightI; congr 1; exact propext ⟨fun h => ⟨h1, h⟩, fun h => h.2⟩
    rw [hR2] at HC
    clear hR hR2 h1 hk
    go_enter Tryz.func38, Tryz.ntmps38
    go_wp2_with (go_at_call 59; ((with_reducible refine (HC.out _).mono ?_); rintro e w' ⟨rfl, rfl⟩))
    go_ret
    exact ⟨rfl, HB.out.trans (HW0.out.mono HB.out.size)⟩
  · have rh1 := b_false (show (t.args.length : Int) ≠ 0 by omega)
    obtain rfl : R = false := by rw [← hR, decide_eq_false (by omega)]
    clear hR hk
    clear h1
    go_enter Tryz.func38, Tryz.ntmps38
    go_wp2_with fail
    go_ret
    exact ⟨rfl, HB.out.trans (HW0.out.mono HB.out.size)⟩
set_option maxRecDepth 100000 in
set_option maxHeartbeats 4000000 in
theorem sformed_3 (L : List Fl) (t : Fl) (vl vv kv av : Value) (w : World) (hN : NF w w.heap.size vl L) (hT : FV w w.heap.size t vv kv av) (hA : ∀ a ∈ t.args, 0 ≤ a ∧ a < (L.length : Int)) (hk : t.k = 3) :
    Calls Tryz.prog 38 #[vl, .agg (flVals t vv kv av).toArray] w fun e w' => e = .returned (.bool (formedS L t)) ∧ Below w.heap.size w w' := by
  obtain ⟨NA, nc, rfl, hn1, hn2⟩ := hN.len
  obtain ⟨VA, vc, rfl, hv1, hv2⟩ := hT.v.len
  obtain ⟨KA, kc, rfl, hk1, hk2⟩ := hT.k.len
  obtain ⟨AA, ac, rfl, ha1, ha2⟩ := hT.a.len
  have lv := hT.lv
  have lk := hT.lk
  have la := hT.la
  obtain ⟨W, hW⟩ : ∃ W, w.alloc (BoxF t (.slice VA t.vars.length vc) (.slice KA t.keys.length kc) (.slice AA t.args.length ac)) = W := ⟨_, rfl⟩
  have hbw : Below w.heap.size w W := by rw [← hW]; exact (Below.refl _ _).alloc (Nat.le_refl _) _
  have HB := Lib.hid hbw
  have HX := Lib.hid (show Blk W w.heap.size 43 #[.int .i64 t.k, .int .i64 t.n, .int .i64 t.m, .int .i64 t.i, .int .u64 t.b, .string ⟨t.t.toArray⟩, .slice VA t.vars.length vc, .slice KA t.keys.length kc, .slice AA t.args.length ac] by rw [← hW]; exact Blk.new _ _ _)
  have HN := Lib.hid (hN.below hbw)
  have HT := Lib.hid (hT.below hbw)
  have HV := Lib.hid (hT.v.below hbw)
  have HK := Lib.hid (hT.k.below hbw)
  have HA := Lib.hid (hT.a.below hbw)
  have HR := Lib.hid hA
  have HW0 := Lib.hid (Below.refl W.heap.size W)
  clear hN hT hA hbw
  have c0 : W.cell? ⟨w.heap.size, 0, none⟩ = some (.int .i64 t.k) := HX.out.cell 0
  have c1 : W.cell? ⟨w.heap.size, 1, none⟩ = some (.int .i64 t.n) := HX.out.cell 1
  have c2 : W.cell? ⟨w.heap.size, 2, none⟩ = some (.int .i64 t.m) := HX.out.cell 2
  have c3 : W.cell? ⟨w.heap.size, 3, none⟩ = some (.int .i64 t.i) := HX.out.cell 3
  have c4 : W.cell? ⟨w.heap.size, 4, none⟩ = some (.int .u64 t.b) := HX.out.cell 4
  have c5 : W.cell? ⟨w.heap.size, 5, none⟩ = some (.string ⟨t.t.toArray⟩) := HX.out.cell 5
  have c6 : W.cell? ⟨w.heap.size, 6, none⟩ = some (.slice VA t.vars.length vc) := HX.out.cell 6
  have c7 : W.cell? ⟨w.heap.size, 7, none⟩ = some (.slice KA t.keys.length kc) := HX.out.cell 7
  have c8 : W.cell? ⟨w.heap.size, 8, none⟩ = some (.slice AA t.args.length ac) := HX.out.cell 8
  unfold BoxF at hW
  unfold flVals
  obtain ⟨R, hR⟩ : ∃ R, formedS L t = R := ⟨_, rfl⟩
  rw [hR]
  rw [formedS_3 hk] at hR
  have q1 := b_false (show t.k ≠ 1 by omega)
  have q2 := b_false (show t.k ≠ 2 by omega)
  have q3 := b_true (show t.k = 3 by omega)
  by_cases h1 : t.args.length = 0
  · have rh1 := b_true (show (t.args.length : Int) = 0 by omega)
    rw [decide_eq_true (by omega)] at hR
    subst hR
    clear hk
    clear h1
    go_enter Tryz.func38, Tryz.ntmps38
    go_wp2_with fail
    go_ret
    exact ⟨rfl, HB.out.trans (HW0.out.mono HB.out.size)⟩
  · have rh1 := b_false (show (t.args.length : Int) ≠ 0 by omega)
    obtain rfl : R = false := by rw [← hR, decide_eq_false (by omega)]
    clear hR hk
    clear h1
    go_enter Tryz.func38, Tryz.ntmps38
    go_wp2_with fail
    go_ret
    exact ⟨rfl, HB.out.trans (HW0.out.mono HB.out.size)⟩
set_option maxRecDepth 100000 in
set_option maxHeartbeats 4000000 in
theorem sformed_4 (L : List Fl) (t : Fl) (vl vv kv av : Value) (w : World) (hN : NF w w.heap.size vl L) (hT : FV w w.heap.size t vv kv av) (hA : ∀ a ∈ t.args, 0 ≤ a ∧ a < (L.length : Int)) (hk : t.k = 4) :
    Calls Tryz.prog 38 #[vl, .agg (flVals t vv kv av).toArray] w fun e w' => e = .returned (.bool (formedS L t)) ∧ Below w.heap.size w w' := by
  obtain ⟨NA, nc, rfl, hn1, hn2⟩ := hN.len
  obtain ⟨VA, vc, rfl, hv1, hv2⟩ := hT.v.len
  obtain ⟨KA, kc, rfl, hk1, hk2⟩ := hT.k.len
  obtain ⟨AA, ac, rfl, ha1, ha2⟩ := hT.a.len
  have lv := hT.lv
  have lk := hT.lk
  have la := hT.la
  obtain ⟨W, hW⟩ : ∃ W, w.alloc (BoxF t (.slice VA t.vars.length vc) (.slice KA t.keys.length kc) (.slice AA t.args.length ac)) = W := ⟨_, rfl⟩
  have hbw : Below w.heap.size w W := by rw [← hW]; exact (Below.refl _ _).alloc (Nat.le_refl _) _
  have HB := Lib.hid hbw
  have HX := Lib.hid (show Blk W w.heap.size 43 #[.int .i64 t.k, .int .i64 t.n, .int .i64 t.m, .int .i64 t.i, .int .u64 t.b, .string ⟨t.t.toArray⟩, .slice VA t.vars.length vc, .slice KA t.keys.length kc, .slice AA t.args.length ac] by rw [← hW]; exact Blk.new _ _ _)
  have HN := Lib.hid (hN.below hbw)
  have HT := Lib.hid (hT.below hbw)
  have HV := Lib.hid (hT.v.below hbw)
  have HK := Lib.hid (hT.k.below hbw)
  have HA := Lib.hid (hT.a.below hbw)
  have HR := Lib.hid hA
  have HW0 := Lib.hid (Below.refl W.heap.size W)
  clear hN hT hA hbw
  have c0 : W.cell? ⟨w.heap.size, 0, none⟩ = some (.int .i64 t.k) := HX.out.cell 0
  have c1 : W.cell? ⟨w.heap.size, 1, none⟩ = some (.int .i64 t.n) := HX.out.cell 1
  have c2 : W.cell? ⟨w.heap.size, 2, none⟩ = some (.int .i64 t.m) := HX.out.cell 2
  have c3 : W.cell? ⟨w.heap.size, 3, none⟩ = some (.int .i64 t.i) := HX.out.cell 3
  have c4 : W.cell? ⟨w.heap.size, 4, none⟩ = some (.int .u64 t.b) := HX.out.cell 4
  have c5 : W.cell? ⟨w.heap.size, 5, none⟩ = some (.string ⟨t.t.toArray⟩) := HX.out.cell 5
  have c6 : W.cell? ⟨w.heap.size, 6, none⟩ = some (.slice VA t.vars.length vc) := HX.out.cell 6
  have c7 : W.cell? ⟨w.heap.size, 7, none⟩ = some (.slice KA t.keys.length kc) := HX.out.cell 7
  have c8 : W.cell? ⟨w.heap.size, 8, none⟩ = some (.slice AA t.args.length ac) := HX.out.cell 8
  unfold BoxF at hW
  unfold flVals
  obtain ⟨R, hR⟩ : ∃ R, formedS L t = R := ⟨_, rfl⟩
  rw [hR]
  rw [formedS_4 hk] at hR
  have q1 := b_false (show t.k ≠ 1 by omega)
  have q2 := b_false (show t.k ≠ 2 by omega)
  have q3 := b_false (show t.k ≠ 3 by omega)
  have q4 := b_true (show t.k = 4 by omega)
  have HC := Lib.hid (fun w => tright_any t.t w)
  by_cases h1 : t.args.length = 0
  · have rh1 := b_true (show (t.args.length : Int) = 0 by omega)
    have hR2 : decide (t.t.length ≤ 65536) = R := by rw [← hR]; congr 1; exact propext ⟨fun h => ⟨h1, h⟩, fun h => h.2⟩
    rw [hR2] at HC
    clear hR hR2 h1 hk
    go_enter Tryz.func38, Tryz.ntmps38
    go_wp2_with (go_at_call 60; ((with_reducible refine (HC.out _).mono ?_); rintro e w' ⟨rfl, rfl⟩))
    go_ret
    exact ⟨rfl, HB.out.trans (HW0.out.mono HB.out.size)⟩
  · have rh1 := b_false (show (t.args.length : Int) ≠ 0 by omega)
    obtain rfl : R = false := by rw [← hR, decide_eq_false (by omega)]
    clear hR hk
    clear h1
    go_enter Tryz.func38, Tryz.ntmps38
    go_wp2_with fail
    go_ret
    exact ⟨rfl, HB.out.trans (HW0.out.mono HB.out.size)⟩
set_option maxRecDepth 100000 in
set_option maxHeartbeats 4000000 in
theorem sformed_5 (L : List Fl) (t : Fl) (vl vv kv av : Value) (w : World) (hN : NF w w.heap.size vl L) (hT : FV w w.heap.size t vv kv av) (hA : ∀ a ∈ t.args, 0 ≤ a ∧ a < (L.length : Int)) (hk : t.k = 5) :
    Calls Tryz.prog 38 #[vl, .agg (flVals t vv kv av).toArray] w fun e w' => e = .returned (.bool (formedS L t)) ∧ Below w.heap.size w w' := by
  obtain ⟨NA, nc, rfl, hn1, hn2⟩ := hN.len
  obtain ⟨VA, vc, rfl, hv1, hv2⟩ := hT.v.len
  obtain ⟨KA, kc, rfl, hk1, hk2⟩ := hT.k.len
  obtain ⟨AA, ac, rfl, ha1, ha2⟩ := hT.a.len
  have lv := hT.lv
  have lk := hT.lk
  have la := hT.la
  obtain ⟨W, hW⟩ : ∃ W, w.alloc (BoxF t (.slice VA t.vars.length vc) (.slice KA t.keys.length kc) (.slice AA t.args.length ac)) = W := ⟨_, rfl⟩
  have hbw : Below w.heap.size w W := by rw [← hW]; exact (Below.refl _ _).alloc (Nat.le_refl _) _
  have HB := Lib.hid hbw
  have HX := Lib.hid (show Blk W w.heap.size 43 #[.int .i64 t.k, .int .i64 t.n, .int .i64 t.m, .int .i64 t.i, .int .u64 t.b, .string ⟨t.t.toArray⟩, .slice VA t.vars.length vc, .slice KA t.keys.length kc, .slice AA t.args.length ac] by rw [← hW]; exact Blk.new _ _ _)
  have HN := Lib.hid (hN.below hbw)
  have HT := Lib.hid (hT.below hbw)
  have HV := Lib.hid (hT.v.below hbw)
  have HK := Lib.hid (hT.k.below hbw)
  have HA := Lib.hid (hT.a.below hbw)
  have HR := Lib.hid hA
  have HW0 := Lib.hid (Below.refl W.heap.size W)
  clear hN hT hA hbw
  have c0 : W.cell? ⟨w.heap.size, 0, none⟩ = some (.int .i64 t.k) := HX.out.cell 0
  have c1 : W.cell? ⟨w.heap.size, 1, none⟩ = some (.int .i64 t.n) := HX.out.cell 1
  have c2 : W.cell? ⟨w.heap.size, 2, none⟩ = some (.int .i64 t.m) := HX.out.cell 2
  have c3 : W.cell? ⟨w.heap.size, 3, none⟩ = some (.int .i64 t.i) := HX.out.cell 3
  have c4 : W.cell? ⟨w.heap.size, 4, none⟩ = some (.int .u64 t.b) := HX.out.cell 4
  have c5 : W.cell? ⟨w.heap.size, 5, none⟩ = some (.string ⟨t.t.toArray⟩) := HX.out.cell 5
  have c6 : W.cell? ⟨w.heap.size, 6, none⟩ = some (.slice VA t.vars.length vc) := HX.out.cell 6
  have c7 : W.cell? ⟨w.heap.size, 7, none⟩ = some (.slice KA t.keys.length kc) := HX.out.cell 7
  have c8 : W.cell? ⟨w.heap.size, 8, none⟩ = some (.slice AA t.args.length ac) := HX.out.cell 8
  unfold BoxF at hW
  unfold flVals
  obtain ⟨R, hR⟩ : ∃ R, formedS L t = R := ⟨_, rfl⟩
  rw [hR]
  rw [formedS_5 hk] at hR
  have q1 := b_false (show t.k ≠ 1 by omega)
  have q2 := b_false (show t.k ≠ 2 by omega)
  have q3 := b_false (show t.k ≠ 3 by omega)
  have q4 := b_false (show t.k ≠ 4 by omega)
  have q5 := b_true (show t.k = 5 by omega)
  by_cases h1 : 2 ≤ t.args.length
  · have rh1 := decide_eq_true (show (2 : Int) ≤ (t.args.length : Int) by omega)
    by_cases h2 : t.args.length ≤ 1025
    · have rh2 := decide_eq_true (show (t.args.length : Int) - 1 ≤ 1024 by omega)
      by_cases h3 : 0 ≤ t.n
      · have rh3 := decide_eq_true h3
        rw [decide_eq_true (by omega), Bool.true_and] at hR
        obtain ⟨n1, hn⟩ : ∃ n1, t.args.length = n1 + 1 := ⟨t.args.length - 1, by omega⟩
        obtain ⟨a0, ha0⟩ : ∃ a0, t.args[0]? = some a0 := ⟨_, List.getElem?_eq_getElem (by omega)⟩
        obtain ⟨aa, rfl, _, _⟩ := HA.out.at_ ha0
        have hne : ¬ ac = n1 := by omega
        have hac : ¬ ac = 0 := by omega
        have hcn : (n1 : Int) ≤ (ac : Int) := by omega
        have HC1 := Lib.hid (fun w2 (hb : Below W.heap.size W w2) => skindsA_any L t _ _ _ _ 0 n1 w2 (HN.out.below hb) (HT.out.below hb) HR.out (by omega) (by omega))
        have HC2 := Lib.hid (fun w2 (hb : Below W.heap.size W w2) => skindsM_any L t _ _ _ _ n1 (n1 + 1) w2 (HN.out.below hb) (HT.out.below hb) HR.out (by omega) (by omega))
        rw [List.drop_zero, Nat.sub_zero] at HC1
        rw [drop_whole hn.symm] at HC2
        unfold flVals at HC1 HC2
        rw [hn, Nat.add_sub_cancel] at hR
        rw [hn] at hW ⊢
        rw [hn] at c8 rh1 rh2 HC1 HC2
        rw [show ((0 : Nat) : Int) = 0 from rfl] at HC1
        rw [show ((n1 + 1 : Nat) : Int) = (n1 : Int) + 1 from rfl] at HC2
        have HXn := HX
        rw [hn] at HXn
        clear HX
        have HX := HXn
        clear HXn
        have rr1 : decide ((2 : Int) ≤ (n1 : Int) + 1) = true := decide_eq_true (by omega)
        have rr2 : decide ((n1 : Int) ≤ 1024) = true := decide_eq_true (by omega)
        clear hk h1 h2 h3 ha0
        cases hx1 : atomsB L (t.args.take n1)
        · rw [hx1] at hR HC1
          obtain rfl : R = false := by rw [← hR]; rfl
          clear hR hx1
          go_enter Tryz.func38, Tryz.ntmps38
          go_wp2_with (go_at_call 39; ((with_reducible refine (HC1.out _ HW0.out).mono ?_); rintro e w2 ⟨rfl, hb⟩; have HW1 := Lib.hid (HW0.out.trans (hb.mono HW0.out.size)); clear hb; have d10 : w2.cell? ⟨w.heap.size, 0, none⟩ = some (.int .i64 t.k) := (HX.out.below HW1.out HX.out.lt).cell 0; have d11 : w2.cell? ⟨w.heap.size, 1, none⟩ = some (.int .i64 t.n) := (HX.out.below HW1.out HX.out.lt).cell 1; have d12 : w2.cell? ⟨w.heap.size, 2, none⟩ = some (.int .i64 t.m) := (HX.out.below HW1.out HX.out.lt).cell 2; have d13 : w2.cell? ⟨w.heap.size, 3, none⟩ = some (.int .i64 t.i) := (HX.out.below HW1.out HX.out.lt).cell 3; have d14 : w2.cell? ⟨w.heap.size, 4, none⟩ = some (.int .u64 t.b) := (HX.out.below HW1.out HX.out.lt).cell 4; have d15 : w2.cell? ⟨w.heap.size, 5, none⟩ = some (.string ⟨t.t.toArray⟩) := (HX.out.below HW1.out HX.out.lt).cell 5; have d16 : w2.cell? ⟨w.heap.size, 6, none⟩ = some (.slice VA t.vars.length vc) := (HX.out.below HW1.out HX.out.lt).cell 6; have d17 : w2.cell? ⟨w.heap.size, 7, none⟩ = some (.slice KA t.keys.length kc) := (HX.out.below HW1.out HX.out.lt).cell 7; have d18 : w2.cell? ⟨w.heap.size, 8, none⟩ = some (.slice (some aa) (n1 + 1) ac) := (HX.out.below HW1.out HX.out.lt).cell 8))
          go_ret
          exact ⟨rfl, HB.out.trans (HW1.out.mono HB.out.size)⟩
        · rw [hx1, Bool.true_and] at hR
          rw [hx1] at HC1
          clear hx1
          cases hx2 : movesG L (t.args.drop n1)
          · rw [hx2] at hR HC2
            obtain rfl : R = false := by rw [← hR]
            clear hR hx2
            go_enter Tryz.func38, Tryz.ntmps38
            go_wp2_with (first
              | (go_at_call 39; ((with_reducible refine (HC1.out _ HW0.out).mono ?_); rintro e w2 ⟨rfl, hb⟩; have HW1 := Lib.hid (HW0.out.trans (hb.mono HW0.out.size)); clear hb; have d10 : w2.cell? ⟨w.heap.size, 0, none⟩ = some (.int .i64 t.k) := (HX.out.below HW1.out HX.out.lt).cell 0; have d11 : w2.cell? ⟨w.heap.size, 1, none⟩ = some (.int .i64 t.n) := (HX.out.below HW1.out HX.out.lt).cell 1; have d12 : w2.cell? ⟨w.heap.size, 2, none⟩ = some (.int .i64 t.m) := (HX.out.below HW1.out HX.out.lt).cell 2; have d13 : w2.cell? ⟨w.heap.size, 3, none⟩ = some (.int .i64 t.i) := (HX.out.below HW1.out HX.out.lt).cell 3; have d14 : w2.cell? ⟨w.heap.size, 4, none⟩ = some (.int .u64 t.b) := (HX.out.below HW1.out HX.out.lt).cell 4; have d15 : w2.cell? ⟨w.heap.size, 5, none⟩ = some (.string ⟨t.t.toArray⟩) := (HX.out.below HW1.out HX.out.lt).cell 5; have d16 : w2.cell? ⟨w.heap.size, 6, none⟩ = some (.slice VA t.vars.length vc) := (HX.out.below HW1.out HX.out.lt).cell 6; have d17 : w2.cell? ⟨w.heap.size, 7, none⟩ = some (.slice KA t.keys.length kc) := (HX.out.below HW1.out HX.out.lt).cell 7; have d18 : w2.cell? ⟨w.heap.size, 8, none⟩ = some (.slice (some aa) (n1 + 1) ac) := (HX.out.below HW1.out HX.out.lt).cell 8))
              | (go_at_call 39; ((with_reducible refine (HC2.out _ HW1.out).mono ?_); rintro e w3 ⟨rfl, hb⟩; have HW2 := Lib.hid (HW1.out.trans (hb.mono HW1.out.size)); clear hb)))
            go_ret
            exact ⟨rfl, HB.out.trans (HW2.out.mono HB.out.size)⟩
          · rw [hx2] at hR HC2
            obtain rfl : R = true := hR.symm
            clear hR hx2
            go_enter Tryz.func38, Tryz.ntmps38
            go_wp2_with (first
              | (go_at_call 39; ((with_reducible refine (HC1.out _ HW0.out).mono ?_); rintro e w2 ⟨rfl, hb⟩; have HW1 := Lib.hid (HW0.out.trans (hb.mono HW0.out.size)); clear hb; have d10 : w2.cell? ⟨w.heap.size, 0, none⟩ = some (.int .i64 t.k) := (HX.out.below HW1.out HX.out.lt).cell 0; have d11 : w2.cell? ⟨w.heap.size, 1, none⟩ = some (.int .i64 t.n) := (HX.out.below HW1.out HX.out.lt).cell 1; have d12 : w2.cell? ⟨w.heap.size, 2, none⟩ = some (.int .i64 t.m) := (HX.out.below HW1.out HX.out.lt).cell 2; have d13 : w2.cell? ⟨w.heap.size, 3, none⟩ = some (.int .i64 t.i) := (HX.out.below HW1.out HX.out.lt).cell 3; have d14 : w2.cell? ⟨w.heap.size, 4, none⟩ = some (.int .u64 t.b) := (HX.out.below HW1.out HX.out.lt).cell 4; have d15 : w2.cell? ⟨w.heap.size, 5, none⟩ = some (.string ⟨t.t.toArray⟩) := (HX.out.below HW1.out HX.out.lt).cell 5; have d16 : w2.cell? ⟨w.heap.size, 6, none⟩ = some (.slice VA t.vars.length vc) := (HX.out.below HW1.out HX.out.lt).cell 6; have d17 : w2.cell? ⟨w.heap.size, 7, none⟩ = some (.slice KA t.keys.length kc) := (HX.out.below HW1.out HX.out.lt).cell 7; have d18 : w2.cell? ⟨w.heap.size, 8, none⟩ = some (.slice (some aa) (n1 + 1) ac) := (HX.out.below HW1.out HX.out.lt).cell 8))
              | (go_at_call 39; ((with_reducible refine (HC2.out _ HW1.out).mono ?_); rintro e w3 ⟨rfl, hb⟩; have HW2 := Lib.hid (HW1.out.trans (hb.mono HW1.out.size)); clear hb)))
            go_ret
            exact ⟨rfl, HB.out.trans (HW2.out.mono HB.out.size)⟩
      · have rh3 := decide_eq_false h3
        obtain rfl : R = false := by rw [← hR, decide_eq_false (by omega)]; rfl
        clear hR hk
        clear h1 h2 h3
        go_enter Tryz.func38, Tryz.ntmps38
        go_wp2_with fail
        go_ret
        exact ⟨rfl, HB.out.trans (HW0.out.mono HB.out.size)⟩
    · have rh2 := decide_eq_false (show ¬ (t.args.length : Int) - 1 ≤ 1024 by omega)
      obtain rfl : R = false := by rw [← hR, decide_eq_false (by omega)]; rfl
      clear hR hk
      clear h1 h2
      go_enter Tryz.func38, Tryz.ntmps38
      go_wp2_with fail
      go_ret
      exact ⟨rfl, HB.out.trans (HW0.out.mono HB.out.size)⟩
  · have rh1 := decide_eq_false (show ¬ (2 : Int) ≤ (t.args.length : Int) by omega)
    obtain rfl : R = false := by rw [← hR, decide_eq_false (by omega)]; rfl
    clear hR hk
    clear h1
    go_enter Tryz.func38, Tryz.ntmps38
    go_wp2_with fail
    go_ret
    exact ⟨rfl, HB.out.trans (HW0.out.mono HB.out.size)⟩
set_option maxRecDepth 100000 in
set_option maxHeartbeats 4000000 in
theorem sformed_67_6 (L : List Fl) (t : Fl) (vl vv kv av : Value) (w : World) (hN : NF w w.heap.size vl L) (hT : FV w w.heap.size t vv kv av) (hA : ∀ a ∈ t.args, 0 ≤ a ∧ a < (L.length : Int)) (hk : t.k = 6) :
    Calls Tryz.prog 38 #[vl, .agg (flVals t vv kv av).toArray] w fun e w' => e = .returned (.bool (formedS L t)) ∧ Below w.heap.size w w' := by
  obtain ⟨NA, nc, rfl, hn1, hn2⟩ := hN.len
  obtain ⟨VA, vc, rfl, hv1, hv2⟩ := hT.v.len
  obtain ⟨KA, kc, rfl, hk1, hk2⟩ := hT.k.len
  obtain ⟨AA, ac, rfl, ha1, ha2⟩ := hT.a.len
  have lv := hT.lv
  have lk := hT.lk
  have la := hT.la
  obtain ⟨W, hW⟩ : ∃ W, w.alloc (BoxF t (.slice VA t.vars.length vc) (.slice KA t.keys.length kc) (.slice AA t.args.length ac)) = W := ⟨_, rfl⟩
  have hbw : Below w.heap.size w W := by rw [← hW]; exact (Below.refl _ _).alloc (Nat.le_refl _) _
  have HB := Lib.hid hbw
  have HX := Lib.hid (show Blk W w.heap.size 43 #[.int .i64 t.k, .int .i64 t.n, .int .i64 t.m, .int .i64 t.i, .int .u64 t.b, .string ⟨t.t.toArray⟩, .slice VA t.vars.length vc, .slice KA t.keys.length kc, .slice AA t.args.length ac] by rw [← hW]; exact Blk.new _ _ _)
  have HN := Lib.hid (hN.below hbw)
  have HT := Lib.hid (hT.below hbw)
  have HV := Lib.hid (hT.v.below hbw)
  have HK := Lib.hid (hT.k.below hbw)
  have HA := Lib.hid (hT.a.below hbw)
  have HR := Lib.hid hA
  have HW0 := Lib.hid (Below.refl W.heap.size W)
  clear hN hT hA hbw
  have c0 : W.cell? ⟨w.heap.size, 0, none⟩ = some (.int .i64 t.k) := HX.out.cell 0
  have c1 : W.cell? ⟨w.heap.size, 1, none⟩ = some (.int .i64 t.n) := HX.out.cell 1
  have c2 : W.cell? ⟨w.heap.size, 2, none⟩ = some (.int .i64 t.m) := HX.out.cell 2
  have c3 : W.cell? ⟨w.heap.size, 3, none⟩ = some (.int .i64 t.i) := HX.out.cell 3
  have c4 : W.cell? ⟨w.heap.size, 4, none⟩ = some (.int .u64 t.b) := HX.out.cell 4
  have c5 : W.cell? ⟨w.heap.size, 5, none⟩ = some (.string ⟨t.t.toArray⟩) := HX.out.cell 5
  have c6 : W.cell? ⟨w.heap.size, 6, none⟩ = some (.slice VA t.vars.length vc) := HX.out.cell 6
  have c7 : W.cell? ⟨w.heap.size, 7, none⟩ = some (.slice KA t.keys.length kc) := HX.out.cell 7
  have c8 : W.cell? ⟨w.heap.size, 8, none⟩ = some (.slice AA t.args.length ac) := HX.out.cell 8
  unfold BoxF at hW
  unfold flVals
  obtain ⟨R, hR⟩ : ∃ R, formedS L t = R := ⟨_, rfl⟩
  rw [hR]
  rw [formedS_67 (by omega)] at hR
  have q1 := b_false (show t.k ≠ 1 by omega)
  have q2 := b_false (show t.k ≠ 2 by omega)
  have q3 := b_false (show t.k ≠ 3 by omega)
  have q4 := b_false (show t.k ≠ 4 by omega)
  have q5 := b_false (show t.k ≠ 5 by omega)
  have q6 := b_true (show t.k = 6 by omega)
  by_cases h1 : t.args.length = 2
  · have rh1 := b_true (show (t.args.length : Int) = 2 by omega)
    by_cases h2 : 0 ≤ t.n
    · have rh2 := decide_eq_true h2
      by_cases h3 : 0 ≤ t.m
      · have rh3 := decide_eq_true h3
        rw [decide_eq_true (by omega), Bool.true_and] at hR
        obtain ⟨a0, ha0⟩ : ∃ a0, t.args[0]? = some a0 := ⟨_, List.getElem?_eq_getElem (by omega)⟩
        obtain ⟨aa, rfl, _, _⟩ := HA.out.at_ ha0
        have hne : ¬ ac = 1 := by omega
        have hac : ¬ ac = 0 := by omega
        have hcn : (1 : Int) ≤ (ac : Int) := by omega
        have HC1 := Lib.hid (fun w2 (hb : Below W.heap.size W w2) => skindsA_any L t _ _ _ _ 0 1 w2 (HN.out.below hb) (HT.out.below hb) HR.out (by omega) (by omega))
        have HC2 := Lib.hid (fun w2 (hb : Below W.heap.size W w2) => skindsM_any L t _ _ _ _ 1 2 w2 (HN.out.below hb) (HT.out.below hb) HR.out (by omega) (by omega))
        rw [List.drop_zero, Nat.sub_zero] at HC1
        rw [drop_whole h1.symm] at HC2
        unfold flVals at HC1 HC2
        rw [h1] at HC1 HC2
        rw [show ((0 : Nat) : Int) = 0 from rfl, show ((1 : Nat) : Int) = 1 from rfl] at HC1
        rw [show ((1 : Nat) : Int) = 1 from rfl, show ((2 : Nat) : Int) = 2 from rfl] at HC2
        rw [h1] at hW ⊢
        rw [h1] at c8
        have HXn := HX
        rw [h1] at HXn
        clear HX
        have HX := HXn
        clear HXn
        clear hk h2 h3 ha0
        cases hx1 : atomsB L (t.args.take 1)
        · rw [hx1] at hR HC1
          obtain rfl : R = false := by rw [← hR]; rfl
          clear hR hx1
          go_enter Tryz.func38, Tryz.ntmps38
          go_wp2_with (go_at_call 39; ((with_reducible refine (HC1.out _ HW0.out).mono ?_); rintro e w2 ⟨rfl, hb⟩; have HW1 := Lib.hid (HW0.out.trans (hb.mono HW0.out.size)); clear hb; have d10 : w2.cell? ⟨w.heap.size, 0, none⟩ = some (.int .i64 t.k) := (HX.out.below HW1.out HX.out.lt).cell 0; have d11 : w2.cell? ⟨w.heap.size, 1, none⟩ = some (.int .i64 t.n) := (HX.out.below HW1.out HX.out.lt).cell 1; have d12 : w2.cell? ⟨w.heap.size, 2, none⟩ = some (.int .i64 t.m) := (HX.out.below HW1.out HX.out.lt).cell 2; have d13 : w2.cell? ⟨w.heap.size, 3, none⟩ = some (.int .i64 t.i) := (HX.out.below HW1.out HX.out.lt).cell 3; have d14 : w2.cell? ⟨w.heap.size, 4, none⟩ = some (.int .u64 t.b) := (HX.out.below HW1.out HX.out.lt).cell 4; have d15 : w2.cell? ⟨w.heap.size, 5, none⟩ = some (.string ⟨t.t.toArray⟩) := (HX.out.below HW1.out HX.out.lt).cell 5; have d16 : w2.cell? ⟨w.heap.size, 6, none⟩ = some (.slice VA t.vars.length vc) := (HX.out.below HW1.out HX.out.lt).cell 6; have d17 : w2.cell? ⟨w.heap.size, 7, none⟩ = some (.slice KA t.keys.length kc) := (HX.out.below HW1.out HX.out.lt).cell 7; have d18 : w2.cell? ⟨w.heap.size, 8, none⟩ = some (.slice (some aa) 2 ac) := (HX.out.below HW1.out HX.out.lt).cell 8))
          go_ret
          exact ⟨rfl, HB.out.trans (HW1.out.mono HB.out.size)⟩
        · rw [hx1, Bool.true_and] at hR
          rw [hx1] at HC1
          clear hx1
          cases hx2 : movesG L (t.args.drop 1)
          · rw [hx2] at hR HC2
            obtain rfl : R = false := by rw [← hR]
            clear hR hx2
            go_enter Tryz.func38, Tryz.ntmps38
            go_wp2_with (first
              | (go_at_call 39; ((with_reducible refine (HC1.out _ HW0.out).mono ?_); rintro e w2 ⟨rfl, hb⟩; have HW1 := Lib.hid (HW0.out.trans (hb.mono HW0.out.size)); clear hb; have d10 : w2.cell? ⟨w.heap.size, 0, none⟩ = some (.int .i64 t.k) := (HX.out.below HW1.out HX.out.lt).cell 0; have d11 : w2.cell? ⟨w.heap.size, 1, none⟩ = some (.int .i64 t.n) := (HX.out.below HW1.out HX.out.lt).cell 1; have d12 : w2.cell? ⟨w.heap.size, 2, none⟩ = some (.int .i64 t.m) := (HX.out.below HW1.out HX.out.lt).cell 2; have d13 : w2.cell? ⟨w.heap.size, 3, none⟩ = some (.int .i64 t.i) := (HX.out.below HW1.out HX.out.lt).cell 3; have d14 : w2.cell? ⟨w.heap.size, 4, none⟩ = some (.int .u64 t.b) := (HX.out.below HW1.out HX.out.lt).cell 4; have d15 : w2.cell? ⟨w.heap.size, 5, none⟩ = some (.string ⟨t.t.toArray⟩) := (HX.out.below HW1.out HX.out.lt).cell 5; have d16 : w2.cell? ⟨w.heap.size, 6, none⟩ = some (.slice VA t.vars.length vc) := (HX.out.below HW1.out HX.out.lt).cell 6; have d17 : w2.cell? ⟨w.heap.size, 7, none⟩ = some (.slice KA t.keys.length kc) := (HX.out.below HW1.out HX.out.lt).cell 7; have d18 : w2.cell? ⟨w.heap.size, 8, none⟩ = some (.slice (some aa) 2 ac) := (HX.out.below HW1.out HX.out.lt).cell 8))
              | (go_at_call 39; ((with_reducible refine (HC2.out _ HW1.out).mono ?_); rintro e w3 ⟨rfl, hb⟩; have HW2 := Lib.hid (HW1.out.trans (hb.mono HW1.out.size)); clear hb)))
            go_ret
            exact ⟨rfl, HB.out.trans (HW2.out.mono HB.out.size)⟩
          · rw [hx2] at hR HC2
            obtain rfl : R = true := hR.symm
            clear hR hx2
            go_enter Tryz.func38, Tryz.ntmps38
            go_wp2_with (first
              | (go_at_call 39; ((with_reducible refine (HC1.out _ HW0.out).mono ?_); rintro e w2 ⟨rfl, hb⟩; have HW1 := Lib.hid (HW0.out.trans (hb.mono HW0.out.size)); clear hb; have d10 : w2.cell? ⟨w.heap.size, 0, none⟩ = some (.int .i64 t.k) := (HX.out.below HW1.out HX.out.lt).cell 0; have d11 : w2.cell? ⟨w.heap.size, 1, none⟩ = some (.int .i64 t.n) := (HX.out.below HW1.out HX.out.lt).cell 1; have d12 : w2.cell? ⟨w.heap.size, 2, none⟩ = some (.int .i64 t.m) := (HX.out.below HW1.out HX.out.lt).cell 2; have d13 : w2.cell? ⟨w.heap.size, 3, none⟩ = some (.int .i64 t.i) := (HX.out.below HW1.out HX.out.lt).cell 3; have d14 : w2.cell? ⟨w.heap.size, 4, none⟩ = some (.int .u64 t.b) := (HX.out.below HW1.out HX.out.lt).cell 4; have d15 : w2.cell? ⟨w.heap.size, 5, none⟩ = some (.string ⟨t.t.toArray⟩) := (HX.out.below HW1.out HX.out.lt).cell 5; have d16 : w2.cell? ⟨w.heap.size, 6, none⟩ = some (.slice VA t.vars.length vc) := (HX.out.below HW1.out HX.out.lt).cell 6; have d17 : w2.cell? ⟨w.heap.size, 7, none⟩ = some (.slice KA t.keys.length kc) := (HX.out.below HW1.out HX.out.lt).cell 7; have d18 : w2.cell? ⟨w.heap.size, 8, none⟩ = some (.slice (some aa) 2 ac) := (HX.out.below HW1.out HX.out.lt).cell 8))
              | (go_at_call 39; ((with_reducible refine (HC2.out _ HW1.out).mono ?_); rintro e w3 ⟨rfl, hb⟩; have HW2 := Lib.hid (HW1.out.trans (hb.mono HW1.out.size)); clear hb)))
            go_ret
            exact ⟨rfl, HB.out.trans (HW2.out.mono HB.out.size)⟩
      · have rh3 := decide_eq_false h3
        obtain rfl : R = false := by rw [← hR, decide_eq_false (by omega)]; rfl
        clear hR hk
        clear h1 h2 h3
        go_enter Tryz.func38, Tryz.ntmps38
        go_wp2_with fail
        go_ret
        exact ⟨rfl, HB.out.trans (HW0.out.mono HB.out.size)⟩
    · have rh2 := decide_eq_false h2
      obtain rfl : R = false := by rw [← hR, decide_eq_false (by omega)]; rfl
      clear hR hk
      clear h1 h2
      go_enter Tryz.func38, Tryz.ntmps38
      go_wp2_with fail
      go_ret
      exact ⟨rfl, HB.out.trans (HW0.out.mono HB.out.size)⟩
  · have rh1 := b_false (show (t.args.length : Int) ≠ 2 by omega)
    obtain rfl : R = false := by rw [← hR, decide_eq_false (by omega)]; rfl
    clear hR hk
    clear h1
    go_enter Tryz.func38, Tryz.ntmps38
    go_wp2_with fail
    go_ret
    exact ⟨rfl, HB.out.trans (HW0.out.mono HB.out.size)⟩
set_option maxRecDepth 100000 in
set_option maxHeartbeats 4000000 in
theorem sformed_67_7 (L : List Fl) (t : Fl) (vl vv kv av : Value) (w : World) (hN : NF w w.heap.size vl L) (hT : FV w w.heap.size t vv kv av) (hA : ∀ a ∈ t.args, 0 ≤ a ∧ a < (L.length : Int)) (hk : t.k = 7) :
    Calls Tryz.prog 38 #[vl, .agg (flVals t vv kv av).toArray] w fun e w' => e = .returned (.bool (formedS L t)) ∧ Below w.heap.size w w' := by
  obtain ⟨NA, nc, rfl, hn1, hn2⟩ := hN.len
  obtain ⟨VA, vc, rfl, hv1, hv2⟩ := hT.v.len
  obtain ⟨KA, kc, rfl, hk1, hk2⟩ := hT.k.len
  obtain ⟨AA, ac, rfl, ha1, ha2⟩ := hT.a.len
  have lv := hT.lv
  have lk := hT.lk
  have la := hT.la
  obtain ⟨W, hW⟩ : ∃ W, w.alloc (BoxF t (.slice VA t.vars.length vc) (.slice KA t.keys.length kc) (.slice AA t.args.length ac)) = W := ⟨_, rfl⟩
  have hbw : Below w.heap.size w W := by rw [← hW]; exact (Below.refl _ _).alloc (Nat.le_refl _) _
  have HB := Lib.hid hbw
  have HX := Lib.hid (show Blk W w.heap.size 43 #[.int .i64 t.k, .int .i64 t.n, .int .i64 t.m, .int .i64 t.i, .int .u64 t.b, .string ⟨t.t.toArray⟩, .slice VA t.vars.length vc, .slice KA t.keys.length kc, .slice AA t.args.length ac] by rw [← hW]; exact Blk.new _ _ _)
  have HN := Lib.hid (hN.below hbw)
  have HT := Lib.hid (hT.below hbw)
  have HV := Lib.hid (hT.v.below hbw)
  have HK := Lib.hid (hT.k.below hbw)
  have HA := Lib.hid (hT.a.below hbw)
  have HR := Lib.hid hA
  have HW0 := Lib.hid (Below.refl W.heap.size W)
  clear hN hT hA hbw
  have c0 : W.cell? ⟨w.heap.size, 0, none⟩ = some (.int .i64 t.k) := HX.out.cell 0
  have c1 : W.cell? ⟨w.heap.size, 1, none⟩ = some (.int .i64 t.n) := HX.out.cell 1
  have c2 : W.cell? ⟨w.heap.size, 2, none⟩ = some (.int .i64 t.m) := HX.out.cell 2
  have c3 : W.cell? ⟨w.heap.size, 3, none⟩ = some (.int .i64 t.i) := HX.out.cell 3
  have c4 : W.cell? ⟨w.heap.size, 4, none⟩ = some (.int .u64 t.b) := HX.out.cell 4
  have c5 : W.cell? ⟨w.heap.size, 5, none⟩ = some (.string ⟨t.t.toArray⟩) := HX.out.cell 5
  have c6 : W.cell? ⟨w.heap.size, 6, none⟩ = some (.slice VA t.vars.length vc) := HX.out.cell 6
  have c7 : W.cell? ⟨w.heap.size, 7, none⟩ = some (.slice KA t.keys.length kc) := HX.out.cell 7
  have c8 : W.cell? ⟨w.heap.size, 8, none⟩ = some (.slice AA t.args.length ac) := HX.out.cell 8
  unfold BoxF at hW
  unfold flVals
  obtain ⟨R, hR⟩ : ∃ R, formedS L t = R := ⟨_, rfl⟩
  rw [hR]
  rw [formedS_67 (by omega)] at hR
  have q1 := b_false (show t.k ≠ 1 by omega)
  have q2 := b_false (show t.k ≠ 2 by omega)
  have q3 := b_false (show t.k ≠ 3 by omega)
  have q4 := b_false (show t.k ≠ 4 by omega)
  have q5 := b_false (show t.k ≠ 5 by omega)
  have q6 := b_false (show t.k ≠ 6 by omega)
  have q7 := b_true (show t.k = 7 by omega)
  by_cases h1 : t.args.length = 2
  · have rh1 := b_true (show (t.args.length : Int) = 2 by omega)
    by_cases h2 : 0 ≤ t.n
    · have rh2 := decide_eq_true h2
      by_cases h3 : 0 ≤ t.m
      · have rh3 := decide_eq_true h3
        rw [decide_eq_true (by omega), Bool.true_and] at hR
        obtain ⟨a0, ha0⟩ : ∃ a0, t.args[0]? = some a0 := ⟨_, List.getElem?_eq_getElem (by omega)⟩
        obtain ⟨aa, rfl, _, _⟩ := HA.out.at_ ha0
        have hne : ¬ ac = 1 := by omega
        have hac : ¬ ac = 0 := by omega
        have hcn : (1 : Int) ≤ (ac : Int) := by omega
        have HC1 := Lib.hid (fun w2 (hb : Below W.heap.size W w2) => skindsA_any L t _ _ _ _ 0 1 w2 (HN.out.below hb) (HT.out.below hb) HR.out (by omega) (by omega))
        have HC2 := Lib.hid (fun w2 (hb : Below W.heap.size W w2) => skindsM_any L t _ _ _ _ 1 2 w2 (HN.out.below hb) (HT.out.below hb) HR.out (by omega) (by omega))
        rw [List.drop_zero, Nat.sub_zero] at HC1
        rw [drop_whole h1.symm] at HC2
        unfold flVals at HC1 HC2
        rw [h1] at HC1 HC2
        rw [show ((0 : Nat) : Int) = 0 from rfl, show ((1 : Nat) : Int) = 1 from rfl] at HC1
        rw [show ((1 : Nat) : Int) = 1 from rfl, show ((2 : Nat) : Int) = 2 from rfl] at HC2
        rw [h1] at hW ⊢
        rw [h1] at c8
        have HXn := HX
        rw [h1] at HXn
        clear HX
        have HX := HXn
        clear HXn
        clear hk h2 h3 ha0
        cases hx1 : atomsB L (t.args.take 1)
        · rw [hx1] at hR HC1
          obtain rfl : R = false := by rw [← hR]; rfl
          clear hR hx1
          go_enter Tryz.func38, Tryz.ntmps38
          go_wp2_with (go_at_call 39; ((with_reducible refine (HC1.out _ HW0.out).mono ?_); rintro e w2 ⟨rfl, hb⟩; have HW1 := Lib.hid (HW0.out.trans (hb.mono HW0.out.size)); clear hb; have d10 : w2.cell? ⟨w.heap.size, 0, none⟩ = some (.int .i64 t.k) := (HX.out.below HW1.out HX.out.lt).cell 0; have d11 : w2.cell? ⟨w.heap.size, 1, none⟩ = some (.int .i64 t.n) := (HX.out.below HW1.out HX.out.lt).cell 1; have d12 : w2.cell? ⟨w.heap.size, 2, none⟩ = some (.int .i64 t.m) := (HX.out.below HW1.out HX.out.lt).cell 2; have d13 : w2.cell? ⟨w.heap.size, 3, none⟩ = some (.int .i64 t.i) := (HX.out.below HW1.out HX.out.lt).cell 3; have d14 : w2.cell? ⟨w.heap.size, 4, none⟩ = some (.int .u64 t.b) := (HX.out.below HW1.out HX.out.lt).cell 4; have d15 : w2.cell? ⟨w.heap.size, 5, none⟩ = some (.string ⟨t.t.toArray⟩) := (HX.out.below HW1.out HX.out.lt).cell 5; have d16 : w2.cell? ⟨w.heap.size, 6, none⟩ = some (.slice VA t.vars.length vc) := (HX.out.below HW1.out HX.out.lt).cell 6; have d17 : w2.cell? ⟨w.heap.size, 7, none⟩ = some (.slice KA t.keys.length kc) := (HX.out.below HW1.out HX.out.lt).cell 7; have d18 : w2.cell? ⟨w.heap.size, 8, none⟩ = some (.slice (some aa) 2 ac) := (HX.out.below HW1.out HX.out.lt).cell 8))
          go_ret
          exact ⟨rfl, HB.out.trans (HW1.out.mono HB.out.size)⟩
        · rw [hx1, Bool.true_and] at hR
          rw [hx1] at HC1
          clear hx1
          cases hx2 : movesG L (t.args.drop 1)
          · rw [hx2] at hR HC2
            obtain rfl : R = false := by rw [← hR]
            clear hR hx2
            go_enter Tryz.func38, Tryz.ntmps38
            go_wp2_with (first
              | (go_at_call 39; ((with_reducible refine (HC1.out _ HW0.out).mono ?_); rintro e w2 ⟨rfl, hb⟩; have HW1 := Lib.hid (HW0.out.trans (hb.mono HW0.out.size)); clear hb; have d10 : w2.cell? ⟨w.heap.size, 0, none⟩ = some (.int .i64 t.k) := (HX.out.below HW1.out HX.out.lt).cell 0; have d11 : w2.cell? ⟨w.heap.size, 1, none⟩ = some (.int .i64 t.n) := (HX.out.below HW1.out HX.out.lt).cell 1; have d12 : w2.cell? ⟨w.heap.size, 2, none⟩ = some (.int .i64 t.m) := (HX.out.below HW1.out HX.out.lt).cell 2; have d13 : w2.cell? ⟨w.heap.size, 3, none⟩ = some (.int .i64 t.i) := (HX.out.below HW1.out HX.out.lt).cell 3; have d14 : w2.cell? ⟨w.heap.size, 4, none⟩ = some (.int .u64 t.b) := (HX.out.below HW1.out HX.out.lt).cell 4; have d15 : w2.cell? ⟨w.heap.size, 5, none⟩ = some (.string ⟨t.t.toArray⟩) := (HX.out.below HW1.out HX.out.lt).cell 5; have d16 : w2.cell? ⟨w.heap.size, 6, none⟩ = some (.slice VA t.vars.length vc) := (HX.out.below HW1.out HX.out.lt).cell 6; have d17 : w2.cell? ⟨w.heap.size, 7, none⟩ = some (.slice KA t.keys.length kc) := (HX.out.below HW1.out HX.out.lt).cell 7; have d18 : w2.cell? ⟨w.heap.size, 8, none⟩ = some (.slice (some aa) 2 ac) := (HX.out.below HW1.out HX.out.lt).cell 8))
              | (go_at_call 39; ((with_reducible refine (HC2.out _ HW1.out).mono ?_); rintro e w3 ⟨rfl, hb⟩; have HW2 := Lib.hid (HW1.out.trans (hb.mono HW1.out.size)); clear hb)))
            go_ret
            exact ⟨rfl, HB.out.trans (HW2.out.mono HB.out.size)⟩
          · rw [hx2] at hR HC2
            obtain rfl : R = true := hR.symm
            clear hR hx2
            go_enter Tryz.func38, Tryz.ntmps38
            go_wp2_with (first
              | (go_at_call 39; ((with_reducible refine (HC1.out _ HW0.out).mono ?_); rintro e w2 ⟨rfl, hb⟩; have HW1 := Lib.hid (HW0.out.trans (hb.mono HW0.out.size)); clear hb; have d10 : w2.cell? ⟨w.heap.size, 0, none⟩ = some (.int .i64 t.k) := (HX.out.below HW1.out HX.out.lt).cell 0; have d11 : w2.cell? ⟨w.heap.size, 1, none⟩ = some (.int .i64 t.n) := (HX.out.below HW1.out HX.out.lt).cell 1; have d12 : w2.cell? ⟨w.heap.size, 2, none⟩ = some (.int .i64 t.m) := (HX.out.below HW1.out HX.out.lt).cell 2; have d13 : w2.cell? ⟨w.heap.size, 3, none⟩ = some (.int .i64 t.i) := (HX.out.below HW1.out HX.out.lt).cell 3; have d14 : w2.cell? ⟨w.heap.size, 4, none⟩ = some (.int .u64 t.b) := (HX.out.below HW1.out HX.out.lt).cell 4; have d15 : w2.cell? ⟨w.heap.size, 5, none⟩ = some (.string ⟨t.t.toArray⟩) := (HX.out.below HW1.out HX.out.lt).cell 5; have d16 : w2.cell? ⟨w.heap.size, 6, none⟩ = some (.slice VA t.vars.length vc) := (HX.out.below HW1.out HX.out.lt).cell 6; have d17 : w2.cell? ⟨w.heap.size, 7, none⟩ = some (.slice KA t.keys.length kc) := (HX.out.below HW1.out HX.out.lt).cell 7; have d18 : w2.cell? ⟨w.heap.size, 8, none⟩ = some (.slice (some aa) 2 ac) := (HX.out.below HW1.out HX.out.lt).cell 8))
              | (go_at_call 39; ((with_reducible refine (HC2.out _ HW1.out).mono ?_); rintro e w3 ⟨rfl, hb⟩; have HW2 := Lib.hid (HW1.out.trans (hb.mono HW1.out.size)); clear hb)))
            go_ret
            exact ⟨rfl, HB.out.trans (HW2.out.mono HB.out.size)⟩
      · have rh3 := decide_eq_false h3
        obtain rfl : R = false := by rw [← hR, decide_eq_false (by omega)]; rfl
        clear hR hk
        clear h1 h2 h3
        go_enter Tryz.func38, Tryz.ntmps38
        go_wp2_with fail
        go_ret
        exact ⟨rfl, HB.out.trans (HW0.out.mono HB.out.size)⟩
    · have rh2 := decide_eq_false h2
      obtain rfl : R = false := by rw [← hR, decide_eq_false (by omega)]; rfl
      clear hR hk
      clear h1 h2
      go_enter Tryz.func38, Tryz.ntmps38
      go_wp2_with fail
      go_ret
      exact ⟨rfl, HB.out.trans (HW0.out.mono HB.out.size)⟩
  · have rh1 := b_false (show (t.args.length : Int) ≠ 2 by omega)
    obtain rfl : R = false := by rw [← hR, decide_eq_false (by omega)]; rfl
    clear hR hk
    clear h1
    go_enter Tryz.func38, Tryz.ntmps38
    go_wp2_with fail
    go_ret
    exact ⟨rfl, HB.out.trans (HW0.out.mono HB.out.size)⟩
set_option maxRecDepth 100000 in
set_option maxHeartbeats 4000000 in
theorem sformed_8 (L : List Fl) (t : Fl) (vl vv kv av : Value) (w : World) (hN : NF w w.heap.size vl L) (hT : FV w w.heap.size t vv kv av) (hA : ∀ a ∈ t.args, 0 ≤ a ∧ a < (L.length : Int)) (hk : t.k = 8) :
    Calls Tryz.prog 38 #[vl, .agg (flVals t vv kv av).toArray] w fun e w' => e = .returned (.bool (formedS L t)) ∧ Below w.heap.size w w' := by
  obtain ⟨NA, nc, rfl, hn1, hn2⟩ := hN.len
  obtain ⟨VA, vc, rfl, hv1, hv2⟩ := hT.v.len
  obtain ⟨KA, kc, rfl, hk1, hk2⟩ := hT.k.len
  obtain ⟨AA, ac, rfl, ha1, ha2⟩ := hT.a.len
  have lv := hT.lv
  have lk := hT.lk
  have la := hT.la
  obtain ⟨W, hW⟩ : ∃ W, w.alloc (BoxF t (.slice VA t.vars.length vc) (.slice KA t.keys.length kc) (.slice AA t.args.length ac)) = W := ⟨_, rfl⟩
  have hbw : Below w.heap.size w W := by rw [← hW]; exact (Below.refl _ _).alloc (Nat.le_refl _) _
  have HB := Lib.hid hbw
  have HX := Lib.hid (show Blk W w.heap.size 43 #[.int .i64 t.k, .int .i64 t.n, .int .i64 t.m, .int .i64 t.i, .int .u64 t.b, .string ⟨t.t.toArray⟩, .slice VA t.vars.length vc, .slice KA t.keys.length kc, .slice AA t.args.length ac] by rw [← hW]; exact Blk.new _ _ _)
  have HN := Lib.hid (hN.below hbw)
  have HT := Lib.hid (hT.below hbw)
  have HV := Lib.hid (hT.v.below hbw)
  have HK := Lib.hid (hT.k.below hbw)
  have HA := Lib.hid (hT.a.below hbw)
  have HR := Lib.hid hA
  have HW0 := Lib.hid (Below.refl W.heap.size W)
  clear hN hT hA hbw
  have c0 : W.cell? ⟨w.heap.size, 0, none⟩ = some (.int .i64 t.k) := HX.out.cell 0
  have c1 : W.cell? ⟨w.heap.size, 1, none⟩ = some (.int .i64 t.n) := HX.out.cell 1
  have c2 : W.cell? ⟨w.heap.size, 2, none⟩ = some (.int .i64 t.m) := HX.out.cell 2
  have c3 : W.cell? ⟨w.heap.size, 3, none⟩ = some (.int .i64 t.i) := HX.out.cell 3
  have c4 : W.cell? ⟨w.heap.size, 4, none⟩ = some (.int .u64 t.b) := HX.out.cell 4
  have c5 : W.cell? ⟨w.heap.size, 5, none⟩ = some (.string ⟨t.t.toArray⟩) := HX.out.cell 5
  have c6 : W.cell? ⟨w.heap.size, 6, none⟩ = some (.slice VA t.vars.length vc) := HX.out.cell 6
  have c7 : W.cell? ⟨w.heap.size, 7, none⟩ = some (.slice KA t.keys.length kc) := HX.out.cell 7
  have c8 : W.cell? ⟨w.heap.size, 8, none⟩ = some (.slice AA t.args.length ac) := HX.out.cell 8
  unfold BoxF at hW
  unfold flVals
  obtain ⟨R, hR⟩ : ∃ R, formedS L t = R := ⟨_, rfl⟩
  rw [hR]
  rw [formedS_8 hk] at hR
  have q1 := b_false (show t.k ≠ 1 by omega)
  have q2 := b_false (show t.k ≠ 2 by omega)
  have q3 := b_false (show t.k ≠ 3 by omega)
  have q4 := b_false (show t.k ≠ 4 by omega)
  have q5 := b_false (show t.k ≠ 5 by omega)
  have q6 := b_false (show t.k ≠ 6 by omega)
  have q7 := b_false (show t.k ≠ 7 by omega)
  have q8 := b_true (show t.k = 8 by omega)
  by_cases h2 : 0 ≤ t.n
  · have rh2 := decide_eq_true h2
    rw [decide_eq_true (by omega)] at hR
    subst hR
    clear hk
    clear h2
    go_enter Tryz.func38, Tryz.ntmps38
    go_wp2_with fail
    go_ret
    exact ⟨rfl, HB.out.trans (HW0.out.mono HB.out.size)⟩
  · have rh2 := decide_eq_false h2
    obtain rfl : R = false := by rw [← hR, decide_eq_false (by omega)]
    clear hR hk
    clear h2
    go_enter Tryz.func38, Tryz.ntmps38
    go_wp2_with fail
    go_ret
    exact ⟨rfl, HB.out.trans (HW0.out.mono HB.out.size)⟩
set_option maxRecDepth 100000 in
set_option maxHeartbeats 4000000 in
theorem sformed_11 (L : List Fl) (t : Fl) (vl vv kv av : Value) (w : World) (hN : NF w w.heap.size vl L) (hT : FV w w.heap.size t vv kv av) (hA : ∀ a ∈ t.args, 0 ≤ a ∧ a < (L.length : Int)) (hk : t.k = 11) :
    Calls Tryz.prog 38 #[vl, .agg (flVals t vv kv av).toArray] w fun e w' => e = .returned (.bool (formedS L t)) ∧ Below w.heap.size w w' := by
  obtain ⟨NA, nc, rfl, hn1, hn2⟩ := hN.len
  obtain ⟨VA, vc, rfl, hv1, hv2⟩ := hT.v.len
  obtain ⟨KA, kc, rfl, hk1, hk2⟩ := hT.k.len
  obtain ⟨AA, ac, rfl, ha1, ha2⟩ := hT.a.len
  have lv := hT.lv
  have lk := hT.lk
  have la := hT.la
  obtain ⟨W, hW⟩ : ∃ W, w.alloc (BoxF t (.slice VA t.vars.length vc) (.slice KA t.keys.length kc) (.slice AA t.args.length ac)) = W := ⟨_, rfl⟩
  have hbw : Below w.heap.size w W := by rw [← hW]; exact (Below.refl _ _).alloc (Nat.le_refl _) _
  have HB := Lib.hid hbw
  have HX := Lib.hid (show Blk W w.heap.size 43 #[.int .i64 t.k, .int .i64 t.n, .int .i64 t.m, .int .i64 t.i, .int .u64 t.b, .string ⟨t.t.toArray⟩, .slice VA t.vars.length vc, .slice KA t.keys.length kc, .slice AA t.args.length ac] by rw [← hW]; exact Blk.new _ _ _)
  have HN := Lib.hid (hN.below hbw)
  have HT := Lib.hid (hT.below hbw)
  have HV := Lib.hid (hT.v.below hbw)
  have HK := Lib.hid (hT.k.below hbw)
  have HA := Lib.hid (hT.a.below hbw)
  have HR := Lib.hid hA
  have HW0 := Lib.hid (Below.refl W.heap.size W)
  clear hN hT hA hbw
  have c0 : W.cell? ⟨w.heap.size, 0, none⟩ = some (.int .i64 t.k) := HX.out.cell 0
  have c1 : W.cell? ⟨w.heap.size, 1, none⟩ = some (.int .i64 t.n) := HX.out.cell 1
  have c2 : W.cell? ⟨w.heap.size, 2, none⟩ = some (.int .i64 t.m) := HX.out.cell 2
  have c3 : W.cell? ⟨w.heap.size, 3, none⟩ = some (.int .i64 t.i) := HX.out.cell 3
  have c4 : W.cell? ⟨w.heap.size, 4, none⟩ = some (.int .u64 t.b) := HX.out.cell 4
  have c5 : W.cell? ⟨w.heap.size, 5, none⟩ = some (.string ⟨t.t.toArray⟩) := HX.out.cell 5
  have c6 : W.cell? ⟨w.heap.size, 6, none⟩ = some (.slice VA t.vars.length vc) := HX.out.cell 6
  have c7 : W.cell? ⟨w.heap.size, 7, none⟩ = some (.slice KA t.keys.length kc) := HX.out.cell 7
  have c8 : W.cell? ⟨w.heap.size, 8, none⟩ = some (.slice AA t.args.length ac) := HX.out.cell 8
  unfold BoxF at hW
  unfold flVals
  obtain ⟨R, hR⟩ : ∃ R, formedS L t = R := ⟨_, rfl⟩
  rw [hR]
  rw [formedS_11 hk] at hR
  have q1 := b_false (show t.k ≠ 1 by omega)
  have q2 := b_false (show t.k ≠ 2 by omega)
  have q3 := b_false (show t.k ≠ 3 by omega)
  have q4 := b_false (show t.k ≠ 4 by omega)
  have q5 := b_false (show t.k ≠ 5 by omega)
  have q6 := b_false (show t.k ≠ 6 by omega)
  have q7 := b_false (show t.k ≠ 7 by omega)
  have q8 := b_false (show t.k ≠ 8 by omega)
  have q15 := b_false (show t.k ≠ 15 by omega)
  have q11 := b_true (show t.k = 11 by omega)
  by_cases h1 : 1 ≤ t.args.length
  · have rh1 := decide_eq_true (show (1 : Int) ≤ (t.args.length : Int) by omega)
    by_cases h2 : t.args.length ≤ 65
    · have rh2 := decide_eq_true (show (t.args.length : Int) - 1 ≤ 64 by omega)
      rw [decide_eq_true (by omega), Bool.true_and] at hR
      have HC1 := Lib.hid (fun w2 (hb : Below W.heap.size W w2) => skindsA_any L t _ _ _ _ 0 t.args.length w2 (HN.out.below hb) (HT.out.below hb) HR.out (by omega) (by omega))
      rw [take_whole rfl] at HC1
      unfold flVals at HC1
      rw [show ((0 : Nat) : Int) = 0 from rfl] at HC1
      clear hk
      clear h1 h2
      cases hx1 : atomsB L t.args
      · rw [hx1] at hR HC1
        obtain rfl : R = false := by rw [← hR]
        clear hR hx1
        go_enter Tryz.func38, Tryz.ntmps38
        go_wp2_with (go_at_call 39; ((with_reducible refine (HC1.out _ HW0.out).mono ?_); rintro e w2 ⟨rfl, hb⟩; have HW1 := Lib.hid (HW0.out.trans (hb.mono HW0.out.size)); clear hb))
        go_ret
        exact ⟨rfl, HB.out.trans (HW1.out.mono HB.out.size)⟩
      · rw [hx1] at hR HC1
        obtain rfl : R = true := hR.symm
        clear hR hx1
        go_enter Tryz.func38, Tryz.ntmps38
        go_wp2_with (go_at_call 39; ((with_reducible refine (HC1.out _ HW0.out).mono ?_); rintro e w2 ⟨rfl, hb⟩; have HW1 := Lib.hid (HW0.out.trans (hb.mono HW0.out.size)); clear hb))
        go_ret
        exact ⟨rfl, HB.out.trans (HW1.out.mono HB.out.size)⟩
    · have rh2 := decide_eq_false (show ¬ (t.args.length : Int) - 1 ≤ 64 by omega)
      obtain rfl : R = false := by rw [← hR, decide_eq_false (by omega)]; rfl
      clear hR hk
      clear h1 h2
      go_enter Tryz.func38, Tryz.ntmps38
      go_wp2_with fail
      go_ret
      exact ⟨rfl, HB.out.trans (HW0.out.mono HB.out.size)⟩
  · have rh1 := decide_eq_false (show ¬ (1 : Int) ≤ (t.args.length : Int) by omega)
    obtain rfl : R = false := by rw [← hR, decide_eq_false (by omega)]; rfl
    clear hR hk
    clear h1
    go_enter Tryz.func38, Tryz.ntmps38
    go_wp2_with fail
    go_ret
    exact ⟨rfl, HB.out.trans (HW0.out.mono HB.out.size)⟩
set_option maxRecDepth 100000 in
set_option maxHeartbeats 4000000 in
theorem sformed_12 (L : List Fl) (t : Fl) (vl vv kv av : Value) (w : World) (hN : NF w w.heap.size vl L) (hT : FV w w.heap.size t vv kv av) (hA : ∀ a ∈ t.args, 0 ≤ a ∧ a < (L.length : Int)) (hk : t.k = 12) :
    Calls Tryz.prog 38 #[vl, .agg (flVals t vv kv av).toArray] w fun e w' => e = .returned (.bool (formedS L t)) ∧ Below w.heap.size w w' := by
  obtain ⟨NA, nc, rfl, hn1, hn2⟩ := hN.len
  obtain ⟨VA, vc, rfl, hv1, hv2⟩ := hT.v.len
  obtain ⟨KA, kc, rfl, hk1, hk2⟩ := hT.k.len
  obtain ⟨AA, ac, rfl, ha1, ha2⟩ := hT.a.len
  have lv := hT.lv
  have lk := hT.lk
  have la := hT.la
  obtain ⟨W, hW⟩ : ∃ W, w.alloc (BoxF t (.slice VA t.vars.length vc) (.slice KA t.keys.length kc) (.slice AA t.args.length ac)) = W := ⟨_, rfl⟩
  have hbw : Below w.heap.size w W := by rw [← hW]; exact (Below.refl _ _).alloc (Nat.le_refl _) _
  have HB := Lib.hid hbw
  have HX := Lib.hid (show Blk W w.heap.size 43 #[.int .i64 t.k, .int .i64 t.n, .int .i64 t.m, .int .i64 t.i, .int .u64 t.b, .string ⟨t.t.toArray⟩, .slice VA t.vars.length vc, .slice KA t.keys.length kc, .slice AA t.args.length ac] by rw [← hW]; exact Blk.new _ _ _)
  have HN := Lib.hid (hN.below hbw)
  have HT := Lib.hid (hT.below hbw)
  have HV := Lib.hid (hT.v.below hbw)
  have HK := Lib.hid (hT.k.below hbw)
  have HA := Lib.hid (hT.a.below hbw)
  have HR := Lib.hid hA
  have HW0 := Lib.hid (Below.refl W.heap.size W)
  clear hN hT hA hbw
  have c0 : W.cell? ⟨w.heap.size, 0, none⟩ = some (.int .i64 t.k) := HX.out.cell 0
  have c1 : W.cell? ⟨w.heap.size, 1, none⟩ = some (.int .i64 t.n) := HX.out.cell 1
  have c2 : W.cell? ⟨w.heap.size, 2, none⟩ = some (.int .i64 t.m) := HX.out.cell 2
  have c3 : W.cell? ⟨w.heap.size, 3, none⟩ = some (.int .i64 t.i) := HX.out.cell 3
  have c4 : W.cell? ⟨w.heap.size, 4, none⟩ = some (.int .u64 t.b) := HX.out.cell 4
  have c5 : W.cell? ⟨w.heap.size, 5, none⟩ = some (.string ⟨t.t.toArray⟩) := HX.out.cell 5
  have c6 : W.cell? ⟨w.heap.size, 6, none⟩ = some (.slice VA t.vars.length vc) := HX.out.cell 6
  have c7 : W.cell? ⟨w.heap.size, 7, none⟩ = some (.slice KA t.keys.length kc) := HX.out.cell 7
  have c8 : W.cell? ⟨w.heap.size, 8, none⟩ = some (.slice AA t.args.length ac) := HX.out.cell 8
  unfold BoxF at hW
  unfold flVals
  obtain ⟨R, hR⟩ : ∃ R, formedS L t = R := ⟨_, rfl⟩
  rw [hR]
  rw [formedS_12 hk] at hR
  have q1 := b_false (show t.k ≠ 1 by omega)
  have q2 := b_false (show t.k ≠ 2 by omega)
  have q3 := b_false (show t.k ≠ 3 by omega)
  have q4 := b_false (show t.k ≠ 4 by omega)
  have q5 := b_false (show t.k ≠ 5 by omega)
  have q6 := b_false (show t.k ≠ 6 by omega)
  have q7 := b_false (show t.k ≠ 7 by omega)
  have q8 := b_false (show t.k ≠ 8 by omega)
  have q15 := b_false (show t.k ≠ 15 by omega)
  have q11 := b_false (show t.k ≠ 11 by omega)
  have q12 := b_true (show t.k = 12 by omega)
  have HC1 := Lib.hid (rkeys_any t.keys _ W HK.out)
  cases hx1 : t.keys.all keyOk
  · rw [hx1] at hR HC1
    obtain rfl : R = false := by rw [← hR]; simp
    clear hR hx1 hk
    go_enter Tryz.func38, Tryz.ntmps38
    go_wp2_with (go_at_call 61; ((with_reducible refine (HC1.out).mono ?_); rintro e w' ⟨rfl, rfl⟩))
    go_ret
    exact ⟨rfl, HB.out.trans (HW0.out.mono HB.out.size)⟩
  · rw [hx1, Bool.true_and] at hR
    rw [hx1] at HC1
    clear hx1
    by_cases h1 : t.args.length = 1 + t.keys.length
    · have r1 := b_true (show (t.args.length : Int) = 1 + (t.keys.length : Int) by omega)
      rw [decide_eq_true (by omega), Bool.true_and] at hR
      obtain ⟨a0, ha0⟩ : ∃ a0, t.args[0]? = some a0 := ⟨_, List.getElem?_eq_getElem (by omega)⟩
      obtain ⟨aa, rfl, _, _⟩ := HA.out.at_ ha0
      have hac : ¬ ac = 0 := by omega
      have hcn : (1 : Int) ≤ (ac : Int) := by omega
      have han : (1 : Int) ≤ (t.args.length : Int) := by omega
      have HC2 := Lib.hid (fun w2 (hb : Below W.heap.size W w2) => skindsA_any L t _ _ _ _ 0 1 w2 (HN.out.below hb) (HT.out.below hb) HR.out (by omega) (by omega))
      have HC3 := Lib.hid (fun w2 (hb : Below W.heap.size W w2) => skindsM_any L t _ _ _ _ 1 t.args.length w2 (HN.out.below hb) (HT.out.below hb) HR.out (by omega) (by omega))
      rw [List.drop_zero, Nat.sub_zero] at HC2
      rw [drop_whole rfl] at HC3
      unfold flVals at HC2 HC3
      rw [show ((0 : Nat) : Int) = 0 from rfl, show ((1 : Nat) : Int) = 1 from rfl] at HC2
      rw [show ((1 : Nat) : Int) = 1 from rfl] at HC3
      clear hk ha0 h1
      cases hx2 : atomsB L (t.args.take 1)
      · rw [hx2] at hR HC2
        obtain rfl : R = false := by rw [← hR]; rfl
        clear hR hx2
        go_enter Tryz.func38, Tryz.ntmps38
        go_wp2_with (first
          | (go_at_call 61; ((with_reducible refine (HC1.out).mono ?_); rintro e w' ⟨rfl, rfl⟩))
          | (go_at_call 39; ((with_reducible refine (HC2.out _ HW0.out).mono ?_); rintro e w3 ⟨rfl, hb⟩; have HW2 := Lib.hid (HW0.out.trans (hb.mono HW0.out.size)); clear hb; have d20 : w3.cell? ⟨w.heap.size, 0, none⟩ = some (.int .i64 t.k) := (HX.out.below HW2.out HX.out.lt).cell 0; have d21 : w3.cell? ⟨w.heap.size, 1, none⟩ = some (.int .i64 t.n) := (HX.out.below HW2.out HX.out.lt).cell 1; have d22 : w3.cell? ⟨w.heap.size, 2, none⟩ = some (.int .i64 t.m) := (HX.out.below HW2.out HX.out.lt).cell 2; have d23 : w3.cell? ⟨w.heap.size, 3, none⟩ = some (.int .i64 t.i) := (HX.out.below HW2.out HX.out.lt).cell 3; have d24 : w3.cell? ⟨w.heap.size, 4, none⟩ = some (.int .u64 t.b) := (HX.out.below HW2.out HX.out.lt).cell 4; have d25 : w3.cell? ⟨w.heap.size, 5, none⟩ = some (.string ⟨t.t.toArray⟩) := (HX.out.below HW2.out HX.out.lt).cell 5; have d26 : w3.cell? ⟨w.heap.size, 6, none⟩ = some (.slice VA t.vars.length vc) := (HX.out.below HW2.out HX.out.lt).cell 6; have d27 : w3.cell? ⟨w.heap.size, 7, none⟩ = some (.slice KA t.keys.length kc) := (HX.out.below HW2.out HX.out.lt).cell 7; have d28 : w3.cell? ⟨w.heap.size, 8, none⟩ = some (.slice (some aa) t.args.length ac) := (HX.out.below HW2.out HX.out.lt).cell 8)))
        go_ret
        exact ⟨rfl, HB.out.trans (HW2.out.mono HB.out.size)⟩
      · rw [hx2, Bool.true_and] at hR
        rw [hx2] at HC2
        clear hx2
        cases hx3 : movesG L (t.args.drop 1)
        · rw [hx3] at hR HC3
          obtain rfl : R = false := hR.symm
          clear hR hx3
          go_enter Tryz.func38, Tryz.ntmps38
          go_wp2_with (first
            | (go_at_call 61; ((with_reducible refine (HC1.out).mono ?_); rintro e w' ⟨rfl, rfl⟩))
            | (go_at_call 39; ((with_reducible refine (HC2.out _ HW0.out).mono ?_); rintro e w3 ⟨rfl, hb⟩; have HW2 := Lib.hid (HW0.out.trans (hb.mono HW0.out.size)); clear hb; have d20 : w3.cell? ⟨w.heap.size, 0, none⟩ = some (.int .i64 t.k) := (HX.out.below HW2.out HX.out.lt).cell 0; have d21 : w3.cell? ⟨w.heap.size, 1, none⟩ = some (.int .i64 t.n) := (HX.out.below HW2.out HX.out.lt).cell 1; have d22 : w3.cell? ⟨w.heap.size, 2, none⟩ = some (.int .i64 t.m) := (HX.out.below HW2.out HX.out.lt).cell 2; have d23 : w3.cell? ⟨w.heap.size, 3, none⟩ = some (.int .i64 t.i) := (HX.out.below HW2.out HX.out.lt).cell 3; have d24 : w3.cell? ⟨w.heap.size, 4, none⟩ = some (.int .u64 t.b) := (HX.out.below HW2.out HX.out.lt).cell 4; have d25 : w3.cell? ⟨w.heap.size, 5, none⟩ = some (.string ⟨t.t.toArray⟩) := (HX.out.below HW2.out HX.out.lt).cell 5; have d26 : w3.cell? ⟨w.heap.size, 6, none⟩ = some (.slice VA t.vars.length vc) := (HX.out.below HW2.out HX.out.lt).cell 6; have d27 : w3.cell? ⟨w.heap.size, 7, none⟩ = some (.slice KA t.keys.length kc) := (HX.out.below HW2.out HX.out.lt).cell 7; have d28 : w3.cell? ⟨w.heap.size, 8, none⟩ = some (.slice (some aa) t.args.length ac) := (HX.out.below HW2.out HX.out.lt).cell 8))
            | (go_at_call 39; ((with_reducible refine (HC3.out _ HW2.out).mono ?_); rintro e w4 ⟨rfl, hb⟩; have HW3 := Lib.hid (HW2.out.trans (hb.mono HW2.out.size)); clear hb)))
          go_ret
          exact ⟨rfl, HB.out.trans (HW3.out.mono HB.out.size)⟩
        · rw [hx3] at hR HC3
          obtain rfl : R = true := hR.symm
          clear hR hx3
          go_enter Tryz.func38, Tryz.ntmps38
          go_wp2_with (first
            | (go_at_call 61; ((with_reducible refine (HC1.out).mono ?_); rintro e w' ⟨rfl, rfl⟩))
            | (go_at_call 39; ((with_reducible refine (HC2.out _ HW0.out).mono ?_); rintro e w3 ⟨rfl, hb⟩; have HW2 := Lib.hid (HW0.out.trans (hb.mono HW0.out.size)); clear hb; have d20 : w3.cell? ⟨w.heap.size, 0, none⟩ = some (.int .i64 t.k) := (HX.out.below HW2.out HX.out.lt).cell 0; have d21 : w3.cell? ⟨w.heap.size, 1, none⟩ = some (.int .i64 t.n) := (HX.out.below HW2.out HX.out.lt).cell 1; have d22 : w3.cell? ⟨w.heap.size, 2, none⟩ = some (.int .i64 t.m) := (HX.out.below HW2.out HX.out.lt).cell 2; have d23 : w3.cell? ⟨w.heap.size, 3, none⟩ = some (.int .i64 t.i) := (HX.out.below HW2.out HX.out.lt).cell 3; have d24 : w3.cell? ⟨w.heap.size, 4, none⟩ = some (.int .u64 t.b) := (HX.out.below HW2.out HX.out.lt).cell 4; have d25 : w3.cell? ⟨w.heap.size, 5, none⟩ = some (.string ⟨t.t.toArray⟩) := (HX.out.below HW2.out HX.out.lt).cell 5; have d26 : w3.cell? ⟨w.heap.size, 6, none⟩ = some (.slice VA t.vars.length vc) := (HX.out.below HW2.out HX.out.lt).cell 6; have d27 : w3.cell? ⟨w.heap.size, 7, none⟩ = some (.slice KA t.keys.length kc) := (HX.out.below HW2.out HX.out.lt).cell 7; have d28 : w3.cell? ⟨w.heap.size, 8, none⟩ = some (.slice (some aa) t.args.length ac) := (HX.out.below HW2.out HX.out.lt).cell 8))
            | (go_at_call 39; ((with_reducible refine (HC3.out _ HW2.out).mono ?_); rintro e w4 ⟨rfl, hb⟩; have HW3 := Lib.hid (HW2.out.trans (hb.mono HW2.out.size)); clear hb)))
          go_ret
          exact ⟨rfl, HB.out.trans (HW3.out.mono HB.out.size)⟩
    · have r1 := b_false (show (t.args.length : Int) ≠ 1 + (t.keys.length : Int) by omega)
      by_cases h2 : t.args.length = 2 + t.keys.length
      · have r2 := b_true (show (t.args.length : Int) = 2 + (t.keys.length : Int) by omega)
        rw [decide_eq_true (by omega), Bool.true_and] at hR
        obtain ⟨a0, ha0⟩ : ∃ a0, t.args[0]? = some a0 := ⟨_, List.getElem?_eq_getElem (by omega)⟩
        obtain ⟨aa, rfl, _, _⟩ := HA.out.at_ ha0
        have hac : ¬ ac = 0 := by omega
        have hcn : (1 : Int) ≤ (ac : Int) := by omega
        have han : (1 : Int) ≤ (t.args.length : Int) := by omega
        have HC2 := Lib.hid (fun w2 (hb : Below W.heap.size W w2) => skindsA_any L t _ _ _ _ 0 1 w2 (HN.out.below hb) (HT.out.below hb) HR.out (by omega) (by omega))
        have HC3 := Lib.hid (fun w2 (hb : Below W.heap.size W w2) => skindsM_any L t _ _ _ _ 1 t.args.length w2 (HN.out.below hb) (HT.out.below hb) HR.out (by omega) (by omega))
        rw [List.drop_zero, Nat.sub_zero] at HC2
        rw [drop_whole rfl] at HC3
        unfold flVals at HC2 HC3
        rw [show ((0 : Nat) : Int) = 0 from rfl, show ((1 : Nat) : Int) = 1 from rfl] at HC2
        rw [show ((1 : Nat) : Int) = 1 from rfl] at HC3
        clear hk ha0 h1 h2
        cases hx2 : atomsB L (t.args.take 1)
        · rw [hx2] at hR HC2
          obtain rfl : R = false := by rw [← hR]; rfl
          clear hR hx2
          go_enter Tryz.func38, Tryz.ntmps38
          go_wp2_with (first
            | (go_at_call 61; ((with_reducible refine (HC1.out).mono ?_); rintro e w' ⟨rfl, rfl⟩))
            | (go_at_call 39; ((with_reducible refine (HC2.out _ HW0.out).mono ?_); rintro e w3 ⟨rfl, hb⟩; have HW2 := Lib.hid (HW0.out.trans (hb.mono HW0.out.size)); clear hb; have d20 : w3.cell? ⟨w.heap.size, 0, none⟩ = some (.int .i64 t.k) := (HX.out.below HW2.out HX.out.lt).cell 0; have d21 : w3.cell? ⟨w.heap.size, 1, none⟩ = some (.int .i64 t.n) := (HX.out.below HW2.out HX.out.lt).cell 1; have d22 : w3.cell? ⟨w.heap.size, 2, none⟩ = some (.int .i64 t.m) := (HX.out.below HW2.out HX.out.lt).cell 2; have d23 : w3.cell? ⟨w.heap.size, 3, none⟩ = some (.int .i64 t.i) := (HX.out.below HW2.out HX.out.lt).cell 3; have d24 : w3.cell? ⟨w.heap.size, 4, none⟩ = some (.int .u64 t.b) := (HX.out.below HW2.out HX.out.lt).cell 4; have d25 : w3.cell? ⟨w.heap.size, 5, none⟩ = some (.string ⟨t.t.toArray⟩) := (HX.out.below HW2.out HX.out.lt).cell 5; have d26 : w3.cell? ⟨w.heap.size, 6, none⟩ = some (.slice VA t.vars.length vc) := (HX.out.below HW2.out HX.out.lt).cell 6; have d27 : w3.cell? ⟨w.heap.size, 7, none⟩ = some (.slice KA t.keys.length kc) := (HX.out.below HW2.out HX.out.lt).cell 7; have d28 : w3.cell? ⟨w.heap.size, 8, none⟩ = some (.slice (some aa) t.args.length ac) := (HX.out.below HW2.out HX.out.lt).cell 8)))
          go_ret
          exact ⟨rfl, HB.out.trans (HW2.out.mono HB.out.size)⟩
        · rw [hx2, Bool.true_and] at hR
          rw [hx2] at HC2
          clear hx2
          cases hx3 : movesG L (t.args.drop 1)
          · rw [hx3] at hR HC3
            obtain rfl : R = false := hR.symm
            clear hR hx3
            go_enter Tryz.func38, Tryz.ntmps38
            go_wp2_with (first
              | (go_at_call 61; ((with_reducible refine (HC1.out).mono ?_); rintro e w' ⟨rfl, rfl⟩))
              | (go_at_call 39; ((with_reducible refine (HC2.out _ HW0.out).mono ?_); rintro e w3 ⟨rfl, hb⟩; have HW2 := Lib.hid (HW0.out.trans (hb.mono HW0.out.size)); clear hb; have d20 : w3.cell? ⟨w.heap.size, 0, none⟩ = some (.int .i64 t.k) := (HX.out.below HW2.out HX.out.lt).cell 0; have d21 : w3.cell? ⟨w.heap.size, 1, none⟩ = some (.int .i64 t.n) := (HX.out.below HW2.out HX.out.lt).cell 1; have d22 : w3.cell? ⟨w.heap.size, 2, none⟩ = some (.int .i64 t.m) := (HX.out.below HW2.out HX.out.lt).cell 2; have d23 : w3.cell? ⟨w.heap.size, 3, none⟩ = some (.int .i64 t.i) := (HX.out.below HW2.out HX.out.lt).cell 3; have d24 : w3.cell? ⟨w.heap.size, 4, none⟩ = some (.int .u64 t.b) := (HX.out.below HW2.out HX.out.lt).cell 4; have d25 : w3.cell? ⟨w.heap.size, 5, none⟩ = some (.string ⟨t.t.toArray⟩) := (HX.out.below HW2.out HX.out.lt).cell 5; have d26 : w3.cell? ⟨w.heap.size, 6, none⟩ = some (.slice VA t.vars.length vc) := (HX.out.below HW2.out HX.out.lt).cell 6; have d27 : w3.cell? ⟨w.heap.size, 7, none⟩ = some (.slice KA t.keys.length kc) := (HX.out.below HW2.out HX.out.lt).cell 7; have d28 : w3.cell? ⟨w.heap.size, 8, none⟩ = some (.slice (some aa) t.args.length ac) := (HX.out.below HW2.out HX.out.lt).cell 8))
              | (go_at_call 39; ((with_reducible refine (HC3.out _ HW2.out).mono ?_); rintro e w4 ⟨rfl, hb⟩; have HW3 := Lib.hid (HW2.out.trans (hb.mono HW2.out.size)); clear hb)))
            go_ret
            exact ⟨rfl, HB.out.trans (HW3.out.mono HB.out.size)⟩
          · rw [hx3] at hR HC3
            obtain rfl : R = true := hR.symm
            clear hR hx3
            go_enter Tryz.func38, Tryz.ntmps38
            go_wp2_with (first
              | (go_at_call 61; ((with_reducible refine (HC1.out).mono ?_); rintro e w' ⟨rfl, rfl⟩))
              | (go_at_call 39; ((with_reducible refine (HC2.out _ HW0.out).mono ?_); rintro e w3 ⟨rfl, hb⟩; have HW2 := Lib.hid (HW0.out.trans (hb.mono HW0.out.size)); clear hb; have d20 : w3.cell? ⟨w.heap.size, 0, none⟩ = some (.int .i64 t.k) := (HX.out.below HW2.out HX.out.lt).cell 0; have d21 : w3.cell? ⟨w.heap.size, 1, none⟩ = some (.int .i64 t.n) := (HX.out.below HW2.out HX.out.lt).cell 1; have d22 : w3.cell? ⟨w.heap.size, 2, none⟩ = some (.int .i64 t.m) := (HX.out.below HW2.out HX.out.lt).cell 2; have d23 : w3.cell? ⟨w.heap.size, 3, none⟩ = some (.int .i64 t.i) := (HX.out.below HW2.out HX.out.lt).cell 3; have d24 : w3.cell? ⟨w.heap.size, 4, none⟩ = some (.int .u64 t.b) := (HX.out.below HW2.out HX.out.lt).cell 4; have d25 : w3.cell? ⟨w.heap.size, 5, none⟩ = some (.string ⟨t.t.toArray⟩) := (HX.out.below HW2.out HX.out.lt).cell 5; have d26 : w3.cell? ⟨w.heap.size, 6, none⟩ = some (.slice VA t.vars.length vc) := (HX.out.below HW2.out HX.out.lt).cell 6; have d27 : w3.cell? ⟨w.heap.size, 7, none⟩ = some (.slice KA t.keys.length kc) := (HX.out.below HW2.out HX.out.lt).cell 7; have d28 : w3.cell? ⟨w.heap.size, 8, none⟩ = some (.slice (some aa) t.args.length ac) := (HX.out.below HW2.out HX.out.lt).cell 8))
              | (go_at_call 39; ((with_reducible refine (HC3.out _ HW2.out).mono ?_); rintro e w4 ⟨rfl, hb⟩; have HW3 := Lib.hid (HW2.out.trans (hb.mono HW2.out.size)); clear hb)))
            go_ret
            exact ⟨rfl, HB.out.trans (HW3.out.mono HB.out.size)⟩
      · have r2 := b_false (show (t.args.length : Int) ≠ 2 + (t.keys.length : Int) by omega)
        obtain rfl : R = false := by rw [← hR, decide_eq_false (by omega)]; rfl
        clear hR hk h1 h2
        go_enter Tryz.func38, Tryz.ntmps38
        go_wp2_with (go_at_call 61; ((with_reducible refine (HC1.out).mono ?_); rintro e w' ⟨rfl, rfl⟩))
        go_ret
        exact ⟨rfl, HB.out.trans (HW0.out.mono HB.out.size)⟩
set_option maxRecDepth 100000 in
set_option maxHeartbeats 4000000 in
theorem sformed_1314_13 (L : List Fl) (t : Fl) (vl vv kv av : Value) (w : World) (hN : NF w w.heap.size vl L) (hT : FV w w.heap.size t vv kv av) (hA : ∀ a ∈ t.args, 0 ≤ a ∧ a < (L.length : Int)) (hk : t.k = 13) :
    Calls Tryz.prog 38 #[vl, .agg (flVals t vv kv av).toArray] w fun e w' => e = .returned (.bool (formedS L t)) ∧ Below w.heap.size w w' := by
  obtain ⟨NA, nc, rfl, hn1, hn2⟩ := hN.len
  obtain ⟨VA, vc, rfl, hv1, hv2⟩ := hT.v.len
  obtain ⟨KA, kc, rfl, hk1, hk2⟩ := hT.k.len
  obtain ⟨AA, ac, rfl, ha1, ha2⟩ := hT.a.len
  have lv := hT.lv
  have lk := hT.lk
  have la := hT.la
  obtain ⟨W, hW⟩ : ∃ W, w.alloc (BoxF t (.slice VA t.vars.length vc) (.slice KA t.keys.length kc) (.slice AA t.args.length ac)) = W := ⟨_, rfl⟩
  have hbw : Below w.heap.size w W := by rw [← hW]; exact (Below.refl _ _).alloc (Nat.le_refl _) _
  have HB := Lib.hid hbw
  have HX := Lib.hid (show Blk W w.heap.size 43 #[.int .i64 t.k, .int .i64 t.n, .int .i64 t.m, .int .i64 t.i, .int .u64 t.b, .string ⟨t.t.toArray⟩, .slice VA t.vars.length vc, .slice KA t.keys.length kc, .slice AA t.args.length ac] by rw [← hW]; exact Blk.new _ _ _)
  have HN := Lib.hid (hN.below hbw)
  have HT := Lib.hid (hT.below hbw)
  have HV := Lib.hid (hT.v.below hbw)
  have HK := Lib.hid (hT.k.below hbw)
  have HA := Lib.hid (hT.a.below hbw)
  have HR := Lib.hid hA
  have HW0 := Lib.hid (Below.refl W.heap.size W)
  clear hN hT hA hbw
  have c0 : W.cell? ⟨w.heap.size, 0, none⟩ = some (.int .i64 t.k) := HX.out.cell 0
  have c1 : W.cell? ⟨w.heap.size, 1, none⟩ = some (.int .i64 t.n) := HX.out.cell 1
  have c2 : W.cell? ⟨w.heap.size, 2, none⟩ = some (.int .i64 t.m) := HX.out.cell 2
  have c3 : W.cell? ⟨w.heap.size, 3, none⟩ = some (.int .i64 t.i) := HX.out.cell 3
  have c4 : W.cell? ⟨w.heap.size, 4, none⟩ = some (.int .u64 t.b) := HX.out.cell 4
  have c5 : W.cell? ⟨w.heap.size, 5, none⟩ = some (.string ⟨t.t.toArray⟩) := HX.out.cell 5
  have c6 : W.cell? ⟨w.heap.size, 6, none⟩ = some (.slice VA t.vars.length vc) := HX.out.cell 6
  have c7 : W.cell? ⟨w.heap.size, 7, none⟩ = some (.slice KA t.keys.length kc) := HX.out.cell 7
  have c8 : W.cell? ⟨w.heap.size, 8, none⟩ = some (.slice AA t.args.length ac) := HX.out.cell 8
  unfold BoxF at hW
  unfold flVals
  obtain ⟨R, hR⟩ : ∃ R, formedS L t = R := ⟨_, rfl⟩
  rw [hR]
  rw [formedS_1314 (by omega)] at hR
  have q1 := b_false (show t.k ≠ 1 by omega)
  have q2 := b_false (show t.k ≠ 2 by omega)
  have q3 := b_false (show t.k ≠ 3 by omega)
  have q4 := b_false (show t.k ≠ 4 by omega)
  have q5 := b_false (show t.k ≠ 5 by omega)
  have q6 := b_false (show t.k ≠ 6 by omega)
  have q7 := b_false (show t.k ≠ 7 by omega)
  have q8 := b_false (show t.k ≠ 8 by omega)
  have q15 := b_false (show t.k ≠ 15 by omega)
  have q11 := b_false (show t.k ≠ 11 by omega)
  have q12 := b_false (show t.k ≠ 12 by omega)
  have q13 := b_true (show t.k = 13 by omega)
  by_cases h1 : t.args.length = 1
  · have rh1 := b_true (show (t.args.length : Int) = 1 by omega)
    rw [decide_eq_true (by omega), Bool.true_and] at hR
    have HC1 := Lib.hid (fun w2 (hb : Below W.heap.size W w2) => skindsA_any L t _ _ _ _ 0 1 w2 (HN.out.below hb) (HT.out.below hb) HR.out (by omega) (by omega))
    rw [take_whole h1.symm] at HC1
    unfold flVals at HC1
    rw [show ((0 : Nat) : Int) = 0 from rfl, show ((1 : Nat) : Int) = 1 from rfl] at HC1
    rw [h1] at hW ⊢
    rw [h1] at HC1 c8
    clear hk
    cases hx1 : atomsB L t.args
    · rw [hx1] at hR HC1
      obtain rfl : R = false := by rw [← hR]
      clear hR hx1
      go_enter Tryz.func38, Tryz.ntmps38
      go_wp2_with (go_at_call 39; ((with_reducible refine (HC1.out _ HW0.out).mono ?_); rintro e w2 ⟨rfl, hb⟩; have HW1 := Lib.hid (HW0.out.trans (hb.mono HW0.out.size)); clear hb))
      go_ret
      exact ⟨rfl, HB.out.trans (HW1.out.mono HB.out.size)⟩
    · rw [hx1] at hR HC1
      obtain rfl : R = true := hR.symm
      clear hR hx1
      go_enter Tryz.func38, Tryz.ntmps38
      go_wp2_with (go_at_call 39; ((with_reducible refine (HC1.out _ HW0.out).mono ?_); rintro e w2 ⟨rfl, hb⟩; have HW1 := Lib.hid (HW0.out.trans (hb.mono HW0.out.size)); clear hb))
      go_ret
      exact ⟨rfl, HB.out.trans (HW1.out.mono HB.out.size)⟩
  · have rh1 := b_false (show (t.args.length : Int) ≠ 1 by omega)
    obtain rfl : R = false := by rw [← hR, decide_eq_false (by omega)]; rfl
    clear hR hk
    clear h1
    go_enter Tryz.func38, Tryz.ntmps38
    go_wp2_with fail
    go_ret
    exact ⟨rfl, HB.out.trans (HW0.out.mono HB.out.size)⟩
set_option maxRecDepth 100000 in
set_option maxHeartbeats 4000000 in
theorem sformed_1314_14 (L : List Fl) (t : Fl) (vl vv kv av : Value) (w : World) (hN : NF w w.heap.size vl L) (hT : FV w w.heap.size t vv kv av) (hA : ∀ a ∈ t.args, 0 ≤ a ∧ a < (L.length : Int)) (hk : t.k = 14) :
    Calls Tryz.prog 38 #[vl, .agg (flVals t vv kv av).toArray] w fun e w' => e = .returned (.bool (formedS L t)) ∧ Below w.heap.size w w' := by
  obtain ⟨NA, nc, rfl, hn1, hn2⟩ := hN.len
  obtain ⟨VA, vc, rfl, hv1, hv2⟩ := hT.v.len
  obtain ⟨KA, kc, rfl, hk1, hk2⟩ := hT.k.len
  obtain ⟨AA, ac, rfl, ha1, ha2⟩ := hT.a.len
  have lv := hT.lv
  have lk := hT.lk
  have la := hT.la
  obtain ⟨W, hW⟩ : ∃ W, w.alloc (BoxF t (.slice VA t.vars.length vc) (.slice KA t.keys.length kc) (.slice AA t.args.length ac)) = W := ⟨_, rfl⟩
  have hbw : Below w.heap.size w W := by rw [← hW]; exact (Below.refl _ _).alloc (Nat.le_refl _) _
  have HB := Lib.hid hbw
  have HX := Lib.hid (show Blk W w.heap.size 43 #[.int .i64 t.k, .int .i64 t.n, .int .i64 t.m, .int .i64 t.i, .int .u64 t.b, .string ⟨t.t.toArray⟩, .slice VA t.vars.length vc, .slice KA t.keys.length kc, .slice AA t.args.length ac] by rw [← hW]; exact Blk.new _ _ _)
  have HN := Lib.hid (hN.below hbw)
  have HT := Lib.hid (hT.below hbw)
  have HV := Lib.hid (hT.v.below hbw)
  have HK := Lib.hid (hT.k.below hbw)
  have HA := Lib.hid (hT.a.below hbw)
  have HR := Lib.hid hA
  have HW0 := Lib.hid (Below.refl W.heap.size W)
  clear hN hT hA hbw
  have c0 : W.cell? ⟨w.heap.size, 0, none⟩ = some (.int .i64 t.k) := HX.out.cell 0
  have c1 : W.cell? ⟨w.heap.size, 1, none⟩ = some (.int .i64 t.n) := HX.out.cell 1
  have c2 : W.cell? ⟨w.heap.size, 2, none⟩ = some (.int .i64 t.m) := HX.out.cell 2
  have c3 : W.cell? ⟨w.heap.size, 3, none⟩ = some (.int .i64 t.i) := HX.out.cell 3
  have c4 : W.cell? ⟨w.heap.size, 4, none⟩ = some (.int .u64 t.b) := HX.out.cell 4
  have c5 : W.cell? ⟨w.heap.size, 5, none⟩ = some (.string ⟨t.t.toArray⟩) := HX.out.cell 5
  have c6 : W.cell? ⟨w.heap.size, 6, none⟩ = some (.slice VA t.vars.length vc) := HX.out.cell 6
  have c7 : W.cell? ⟨w.heap.size, 7, none⟩ = some (.slice KA t.keys.length kc) := HX.out.cell 7
  have c8 : W.cell? ⟨w.heap.size, 8, none⟩ = some (.slice AA t.args.length ac) := HX.out.cell 8
  unfold BoxF at hW
  unfold flVals
  obtain ⟨R, hR⟩ : ∃ R, formedS L t = R := ⟨_, rfl⟩
  rw [hR]
  rw [formedS_1314 (by omega)] at hR
  have q1 := b_false (show t.k ≠ 1 by omega)
  have q2 := b_false (show t.k ≠ 2 by omega)
  have q3 := b_false (show t.k ≠ 3 by omega)
  have q4 := b_false (show t.k ≠ 4 by omega)
  have q5 := b_false (show t.k ≠ 5 by omega)
  have q6 := b_false (show t.k ≠ 6 by omega)
  have q7 := b_false (show t.k ≠ 7 by omega)
  have q8 := b_false (show t.k ≠ 8 by omega)
  have q15 := b_false (show t.k ≠ 15 by omega)
  have q11 := b_false (show t.k ≠ 11 by omega)
  have q12 := b_false (show t.k ≠ 12 by omega)
  have q13 := b_false (show t.k ≠ 13 by omega)
  have q14 := b_true (show t.k = 14 by omega)
  by_cases h1 : t.args.length = 1
  · have rh1 := b_true (show (t.args.length : Int) = 1 by omega)
    rw [decide_eq_true (by omega), Bool.true_and] at hR
    have HC1 := Lib.hid (fun w2 (hb : Below W.heap.size W w2) => skindsA_any L t _ _ _ _ 0 1 w2 (HN.out.below hb) (HT.out.below hb) HR.out (by omega) (by omega))
    rw [take_whole h1.symm] at HC1
    unfold flVals at HC1
    rw [show ((0 : Nat) : Int) = 0 from rfl, show ((1 : Nat) : Int) = 1 from rfl] at HC1
    rw [h1] at hW ⊢
    rw [h1] at HC1 c8
    clear hk
    cases hx1 : atomsB L t.args
    · rw [hx1] at hR HC1
      obtain rfl : R = false := by rw [← hR]
      clear hR hx1
      go_enter Tryz.func38, Tryz.ntmps38
      go_wp2_with (go_at_call 39; ((with_reducible refine (HC1.out _ HW0.out).mono ?_); rintro e w2 ⟨rfl, hb⟩; have HW1 := Lib.hid (HW0.out.trans (hb.mono HW0.out.size)); clear hb))
      go_ret
      exact ⟨rfl, HB.out.trans (HW1.out.mono HB.out.size)⟩
    · rw [hx1] at hR HC1
      obtain rfl : R = true := hR.symm
      clear hR hx1
      go_enter Tryz.func38, Tryz.ntmps38
      go_wp2_with (go_at_call 39; ((with_reducible refine (HC1.out _ HW0.out).mono ?_); rintro e w2 ⟨rfl, hb⟩; have HW1 := Lib.hid (HW0.out.trans (hb.mono HW0.out.size)); clear hb))
      go_ret
      exact ⟨rfl, HB.out.trans (HW1.out.mono HB.out.size)⟩
  · have rh1 := b_false (show (t.args.length : Int) ≠ 1 by omega)
    obtain rfl : R = false := by rw [← hR, decide_eq_false (by omega)]; rfl
    clear hR hk
    clear h1
    go_enter Tryz.func38, Tryz.ntmps38
    go_wp2_with fail
    go_ret
    exact ⟨rfl, HB.out.trans (HW0.out.mono HB.out.size)⟩
set_option maxRecDepth 100000 in
set_option maxHeartbeats 4000000 in
theorem sformed_15 (L : List Fl) (t : Fl) (vl vv kv av : Value) (w : World) (hN : NF w w.heap.size vl L) (hT : FV w w.heap.size t vv kv av) (hA : ∀ a ∈ t.args, 0 ≤ a ∧ a < (L.length : Int)) (hk : t.k = 15) :
    Calls Tryz.prog 38 #[vl, .agg (flVals t vv kv av).toArray] w fun e w' => e = .returned (.bool (formedS L t)) ∧ Below w.heap.size w w' := by
  obtain ⟨NA, nc, rfl, hn1, hn2⟩ := hN.len
  obtain ⟨VA, vc, rfl, hv1, hv2⟩ := hT.v.len
  obtain ⟨KA, kc, rfl, hk1, hk2⟩ := hT.k.len
  obtain ⟨AA, ac, rfl, ha1, ha2⟩ := hT.a.len
  have lv := hT.lv
  have lk := hT.lk
  have la := hT.la
  obtain ⟨W, hW⟩ : ∃ W, w.alloc (BoxF t (.slice VA t.vars.length vc) (.slice KA t.keys.length kc) (.slice AA t.args.length ac)) = W := ⟨_, rfl⟩
  have hbw : Below w.heap.size w W := by rw [← hW]; exact (Below.refl _ _).alloc (Nat.le_refl _) _
  have HB := Lib.hid hbw
  have HX := Lib.hid (show Blk W w.heap.size 43 #[.int .i64 t.k, .int .i64 t.n, .int .i64 t.m, .int .i64 t.i, .int .u64 t.b, .string ⟨t.t.toArray⟩, .slice VA t.vars.length vc, .slice KA t.keys.length kc, .slice AA t.args.length ac] by rw [← hW]; exact Blk.new _ _ _)
  have HN := Lib.hid (hN.below hbw)
  have HT := Lib.hid (hT.below hbw)
  have HV := Lib.hid (hT.v.below hbw)
  have HK := Lib.hid (hT.k.below hbw)
  have HA := Lib.hid (hT.a.below hbw)
  have HR := Lib.hid hA
  have HW0 := Lib.hid (Below.refl W.heap.size W)
  clear hN hT hA hbw
  have c0 : W.cell? ⟨w.heap.size, 0, none⟩ = some (.int .i64 t.k) := HX.out.cell 0
  have c1 : W.cell? ⟨w.heap.size, 1, none⟩ = some (.int .i64 t.n) := HX.out.cell 1
  have c2 : W.cell? ⟨w.heap.size, 2, none⟩ = some (.int .i64 t.m) := HX.out.cell 2
  have c3 : W.cell? ⟨w.heap.size, 3, none⟩ = some (.int .i64 t.i) := HX.out.cell 3
  have c4 : W.cell? ⟨w.heap.size, 4, none⟩ = some (.int .u64 t.b) := HX.out.cell 4
  have c5 : W.cell? ⟨w.heap.size, 5, none⟩ = some (.string ⟨t.t.toArray⟩) := HX.out.cell 5
  have c6 : W.cell? ⟨w.heap.size, 6, none⟩ = some (.slice VA t.vars.length vc) := HX.out.cell 6
  have c7 : W.cell? ⟨w.heap.size, 7, none⟩ = some (.slice KA t.keys.length kc) := HX.out.cell 7
  have c8 : W.cell? ⟨w.heap.size, 8, none⟩ = some (.slice AA t.args.length ac) := HX.out.cell 8
  unfold BoxF at hW
  unfold flVals
  obtain ⟨R, hR⟩ : ∃ R, formedS L t = R := ⟨_, rfl⟩
  rw [hR]
  rw [formedS_15 hk] at hR
  have q1 := b_false (show t.k ≠ 1 by omega)
  have q2 := b_false (show t.k ≠ 2 by omega)
  have q3 := b_false (show t.k ≠ 3 by omega)
  have q4 := b_false (show t.k ≠ 4 by omega)
  have q5 := b_false (show t.k ≠ 5 by omega)
  have q6 := b_false (show t.k ≠ 6 by omega)
  have q7 := b_false (show t.k ≠ 7 by omega)
  have q8 := b_false (show t.k ≠ 8 by omega)
  have q15 := b_true (show t.k = 15 by omega)
  by_cases h1 : 0 ≤ t.m
  · have rh1 := decide_eq_true h1
    by_cases h2 : t.args.length ≤ 65
    · have rh2 := decide_eq_true (show (t.args.length : Int) ≤ 65 by omega)
      rw [decide_eq_true (by omega), Bool.true_and] at hR
      have HC1 := Lib.hid (fun w2 (hb : Below W.heap.size W w2) => skindsA_any L t _ _ _ _ 0 t.args.length w2 (HN.out.below hb) (HT.out.below hb) HR.out (by omega) (by omega))
      rw [take_whole rfl] at HC1
      unfold flVals at HC1
      rw [show ((0 : Nat) : Int) = 0 from rfl] at HC1
      clear hk
      clear h1 h2
      cases hx1 : atomsB L t.args
      · rw [hx1] at hR HC1
        obtain rfl : R = false := by rw [← hR]
        clear hR hx1
        go_enter Tryz.func38, Tryz.ntmps38
        go_wp2_with (go_at_call 39; ((with_reducible refine (HC1.out _ HW0.out).mono ?_); rintro e w2 ⟨rfl, hb⟩; have HW1 := Lib.hid (HW0.out.trans (hb.mono HW0.out.size)); clear hb))
        go_ret
        exact ⟨rfl, HB.out.trans (HW1.out.mono HB.out.size)⟩
      · rw [hx1] at hR HC1
        obtain rfl : R = true := hR.symm
        clear hR hx1
        go_enter Tryz.func38, Tryz.ntmps38
        go_wp2_with (go_at_call 39; ((with_reducible refine (HC1.out _ HW0.out).mono ?_); rintro e w2 ⟨rfl, hb⟩; have HW1 := Lib.hid (HW0.out.trans (hb.mono HW0.out.size)); clear hb))
        go_ret
        exact ⟨rfl, HB.out.trans (HW1.out.mono HB.out.size)⟩
    · have rh2 := decide_eq_false (show ¬ (t.args.length : Int) ≤ 65 by omega)
      obtain rfl : R = false := by rw [← hR, decide_eq_false (by omega)]; rfl
      clear hR hk
      clear h1 h2
      go_enter Tryz.func38, Tryz.ntmps38
      go_wp2_with fail
      go_ret
      exact ⟨rfl, HB.out.trans (HW0.out.mono HB.out.size)⟩
  · have rh1 := decide_eq_false h1
    obtain rfl : R = false := by rw [← hR, decide_eq_false (by omega)]; rfl
    clear hR hk
    clear h1
    go_enter Tryz.func38, Tryz.ntmps38
    go_wp2_with fail
    go_ret
    exact ⟨rfl, HB.out.trans (HW0.out.mono HB.out.size)⟩
set_option maxRecDepth 100000 in
set_option maxHeartbeats 4000000 in
theorem sformed_no (L : List Fl) (t : Fl) (vl vv kv av : Value) (w : World) (hN : NF w w.heap.size vl L) (hT : FV w w.heap.size t vv kv av) (hA : ∀ a ∈ t.args, 0 ≤ a ∧ a < (L.length : Int)) (hk : t.k < 1 ∨ 15 < t.k ∨ t.k = 9 ∨ t.k = 10) :
    Calls Tryz.prog 38 #[vl, .agg (flVals t vv kv av).toArray] w fun e w' => e = .returned (.bool (formedS L t)) ∧ Below w.heap.size w w' := by
  obtain ⟨NA, nc, rfl, hn1, hn2⟩ := hN.len
  obtain ⟨VA, vc, rfl, hv1, hv2⟩ := hT.v.len
  obtain ⟨KA, kc, rfl, hk1, hk2⟩ := hT.k.len
  obtain ⟨AA, ac, rfl, ha1, ha2⟩ := hT.a.len
  have lv := hT.lv
  have lk := hT.lk
  have la := hT.la
  obtain ⟨W, hW⟩ : ∃ W, w.alloc (BoxF t (.slice VA t.vars.length vc) (.slice KA t.keys.length kc) (.slice AA t.args.length ac)) = W := ⟨_, rfl⟩
  have hbw : Below w.heap.size w W := by rw [← hW]; exact (Below.refl _ _).alloc (Nat.le_refl _) _
  have HB := Lib.hid hbw
  have HX := Lib.hid (show Blk W w.heap.size 43 #[.int .i64 t.k, .int .i64 t.n, .int .i64 t.m, .int .i64 t.i, .int .u64 t.b, .string ⟨t.t.toArray⟩, .slice VA t.vars.length vc, .slice KA t.keys.length kc, .slice AA t.args.length ac] by rw [← hW]; exact Blk.new _ _ _)
  have HN := Lib.hid (hN.below hbw)
  have HT := Lib.hid (hT.below hbw)
  have HV := Lib.hid (hT.v.below hbw)
  have HK := Lib.hid (hT.k.below hbw)
  have HA := Lib.hid (hT.a.below hbw)
  have HR := Lib.hid hA
  have HW0 := Lib.hid (Below.refl W.heap.size W)
  clear hN hT hA hbw
  have c0 : W.cell? ⟨w.heap.size, 0, none⟩ = some (.int .i64 t.k) := HX.out.cell 0
  have c1 : W.cell? ⟨w.heap.size, 1, none⟩ = some (.int .i64 t.n) := HX.out.cell 1
  have c2 : W.cell? ⟨w.heap.size, 2, none⟩ = some (.int .i64 t.m) := HX.out.cell 2
  have c3 : W.cell? ⟨w.heap.size, 3, none⟩ = some (.int .i64 t.i) := HX.out.cell 3
  have c4 : W.cell? ⟨w.heap.size, 4, none⟩ = some (.int .u64 t.b) := HX.out.cell 4
  have c5 : W.cell? ⟨w.heap.size, 5, none⟩ = some (.string ⟨t.t.toArray⟩) := HX.out.cell 5
  have c6 : W.cell? ⟨w.heap.size, 6, none⟩ = some (.slice VA t.vars.length vc) := HX.out.cell 6
  have c7 : W.cell? ⟨w.heap.size, 7, none⟩ = some (.slice KA t.keys.length kc) := HX.out.cell 7
  have c8 : W.cell? ⟨w.heap.size, 8, none⟩ = some (.slice AA t.args.length ac) := HX.out.cell 8
  unfold BoxF at hW
  unfold flVals
  obtain ⟨R, hR⟩ : ∃ R, formedS L t = R := ⟨_, rfl⟩
  rw [hR]
  rw [formedS_no hk] at hR
  have q1 := b_false (show t.k ≠ 1 by omega)
  have q2 := b_false (show t.k ≠ 2 by omega)
  have q3 := b_false (show t.k ≠ 3 by omega)
  have q4 := b_false (show t.k ≠ 4 by omega)
  have q5 := b_false (show t.k ≠ 5 by omega)
  have q6 := b_false (show t.k ≠ 6 by omega)
  have q7 := b_false (show t.k ≠ 7 by omega)
  have q8 := b_false (show t.k ≠ 8 by omega)
  have q15 := b_false (show t.k ≠ 15 by omega)
  have q11 := b_false (show t.k ≠ 11 by omega)
  have q12 := b_false (show t.k ≠ 12 by omega)
  have q13 := b_false (show t.k ≠ 13 by omega)
  have q14 := b_false (show t.k ≠ 14 by omega)
  subst hR
  clear hk
  go_enter Tryz.func38, Tryz.ntmps38
  go_wp2_with fail
  go_ret
  exact ⟨rfl, HB.out.trans (HW0.out.mono HB.out.size)⟩
theorem sformed_any (L : List Fl) (t : Fl) (vl vv kv av : Value) (w : World) (hN : NF w w.heap.size vl L) (hT : FV w w.heap.size t vv kv av) (hA : ∀ a ∈ t.args, 0 ≤ a ∧ a < (L.length : Int)) :
    Calls Tryz.prog 38 #[vl, .agg (flVals t vv kv av).toArray] w fun e w' => e = .returned (.bool (formedS L t)) ∧ Below w.heap.size w w' := by
  rcases (by omega : (t.k < 1 ∨ 15 < t.k ∨ t.k = 9 ∨ t.k = 10) ∨ t.k = 1 ∨ t.k = 2 ∨ t.k = 3 ∨ t.k = 4 ∨ t.k = 5 ∨ t.k = 6 ∨ t.k = 7 ∨ t.k = 8 ∨ t.k = 11 ∨ t.k = 12 ∨ t.k = 13 ∨ t.k = 14 ∨ t.k = 15) with h | h | h | h | h | h | h | h | h | h | h | h | h | h
  · exact sformed_no L t vl vv kv av w hN hT hA h
  · exact sformed_1 L t vl vv kv av w hN hT hA h
  · exact sformed_2 L t vl vv kv av w hN hT hA h
  · exact sformed_3 L t vl vv kv av w hN hT hA h
  · exact sformed_4 L t vl vv kv av w hN hT hA h
  · exact sformed_5 L t vl vv kv av w hN hT hA h
  · exact sformed_67_6 L t vl vv kv av w hN hT hA h
  · exact sformed_67_7 L t vl vv kv av w hN hT hA h
  · exact sformed_8 L t vl vv kv av w hN hT hA h
  · exact sformed_11 L t vl vv kv av w hN hT hA h
  · exact sformed_12 L t vl vv kv av w hN hT hA h
  · exact sformed_1314_13 L t vl vv kv av w hN hT hA h
  · exact sformed_1314_14 L t vl vv kv av w hN hT hA h
  · exact sformed_15 L t vl vv kv av w hN hT hA h

end Go.Proofs.YtjhdlnllhjffkaaGreatDoor
