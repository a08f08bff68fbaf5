/- Lambda: has a node its form: the program's formed, the reference's. -/
import Derived.Test.YtikkmalhdidhaaaGreatDoorCpsMd
namespace Go.Proofs.YtikkmalhdidhaaaGreatDoor
open Go.RowKit LamM

theorem NV.more {w : World} {B B' : Nat} {v : Value} {L : List Tm} (h : NV w B v L) (hB : B ≤ B') : NV w B' v L := by
  obtain ⟨A, c, e, h1, h2, h3⟩ := h
  refine ⟨A, c, e, h1, h2, fun i t ht => ?_⟩
  obtain ⟨ad, vv, kv, av, hA, hb, ht2, hc⟩ := h3 i t ht
  exact ⟨ad, vv, kv, av, hA, Nat.lt_of_lt_of_le hb hB, ⟨ht2.v.more hB, (by obtain ⟨A, c, e, h1, h2, h3⟩ := ht2.k; exact ⟨A, c, e, h1, h2, h3.more hB⟩), ht2.a.more hB, ht2.rk, ht2.rn, ht2.ri, ht2.ra, ht2.rv, ht2.lv, ht2.lk, ht2.la⟩, hc⟩
theorem TV.more {w : World} {B B' : Nat} {t : Tm} {vv kv av : Value} (h : TV w B t vv kv av) (hB : B ≤ B') : TV w B' t vv kv av :=
  ⟨h.v.more hB, (by obtain ⟨A, c, e, h1, h2, h3⟩ := h.k; exact ⟨A, c, e, h1, h2, h3.more hB⟩), h.a.more hB, h.rk, h.rn, h.ri, h.ra, h.rv, h.lv, h.lk, h.la⟩
theorem NV.below {w w' : World} {v : Value} {L : List Tm} (h : NV w w.heap.size v L) (hb : Below w.heap.size w w') : NV w' w'.heap.size v L :=
  (h.keep (fun _ hp => hb.cell hp)).more hb.size
theorem TV.below {w w' : World} {t : Tm} {vv kv av : Value} (h : TV w w.heap.size t vv kv av) (hb : Below w.heap.size w w') : TV w' w'.heap.size t vv kv av :=
  (h.keep (fun _ hp => hb.cell hp)).more hb.size
theorem KV.below {w w' : World} {v : Value} {l : List Ky} (h : KV w w.heap.size v l) (hb : Below w.heap.size w w') : KV w' w'.heap.size v l := by
  obtain ⟨A, c, e, h1, h2, h3⟩ := h
  exact ⟨A, c, e, h1, h2, (h3.keep (fun _ hp => hb.cell hp)).more hb.size⟩

theorem formed_1 {L : List Tm} {t : Tm} (h : t.k = 1) : formed L t = (decide (t.args.length = 0 ∧ 0 ≤ t.n)) := by unfold formed; rw [if_pos (by omega)]
theorem formed_2 {L : List Tm} {t : Tm} (h : t.k = 2) : formed L t = (decide (t.args.length = 0 ∧ -4611686018427387904 ≤ t.i ∧ t.i ≤ 4611686018427387903)) := by unfold formed; rw [if_neg (by omega), if_pos (by omega)]
theorem formed_3 {L : List Tm} {t : Tm} (h : t.k = 3) : formed L t = (decide (t.args.length = 0)) := by unfold formed; rw [if_neg (by omega), if_neg (by omega), if_pos (by omega)]
theorem formed_4 {L : List Tm} {t : Tm} (h : t.k = 4) : formed L t = (decide (t.args.length = 0 ∧ t.t.length ≤ 65536)) := by unfold formed; rw [if_neg (by omega), if_neg (by omega), if_neg (by omega), if_pos (by omega)]
theorem formed_5 {L : List Tm} {t : Tm} (h : t.k = 5) : formed L t = (decide (1 ≤ t.args.length ∧ t.args.length ≤ 1024)) := by unfold formed; rw [if_neg (by omega), if_neg (by omega), if_neg (by omega), if_neg (by omega), if_pos (by omega)]
theorem formed_678 {L : List Tm} {t : Tm} (h : t.k = 6 ∨ t.k = 7 ∨ t.k = 8) : formed L t = (decide (t.args.length = 1 ∧ 0 ≤ t.n)) := by unfold formed; rw [if_neg (by omega), if_neg (by omega), if_neg (by omega), if_neg (by omega), if_neg (by omega), if_pos (by omega)]
theorem formed_9 {L : List Tm} {t : Tm} (h : t.k = 9) : formed L t = (decide (t.args.length = 2)) := by unfold formed; rw [if_neg (by omega), if_neg (by omega), if_neg (by omega), if_neg (by omega), if_neg (by omega), if_neg (by omega), if_pos (by omega)]
theorem formed_1014 {L : List Tm} {t : Tm} (h : t.k = 10 ∨ t.k = 14) : formed L t = (decide (t.args.length = 2 ∧ 0 ≤ t.n)) := by unfold formed; rw [if_neg (by omega), if_neg (by omega), if_neg (by omega), if_neg (by omega), if_neg (by omega), if_neg (by omega), if_neg (by omega), if_pos (by omega)]
theorem formed_11 {L : List Tm} {t : Tm} (h : t.k = 11) : formed L t = (fixOk L t) := by unfold formed; rw [if_neg (by omega), if_neg (by omega), if_neg (by omega), if_neg (by omega), if_neg (by omega), if_neg (by omega), if_neg (by omega), if_neg (by omega), if_pos (by omega)]
theorem formed_12 {L : List Tm} {t : Tm} (h : t.k = 12) : formed L t = (decide (t.args.length = t.keys.length + 1 ∨ t.args.length = t.keys.length + 2) && t.keys.all keyOk) := by unfold formed; rw [if_neg (by omega), if_neg (by omega), if_neg (by omega), if_neg (by omega), if_neg (by omega), if_neg (by omega), if_neg (by omega), if_neg (by omega), if_neg (by omega), if_pos (by omega)]
theorem formed_13 {L : List Tm} {t : Tm} (h : t.k = 13) : formed L t = (decide (t.args.length = 1)) := by unfold formed; rw [if_neg (by omega), if_neg (by omega), if_neg (by omega), if_neg (by omega), if_neg (by omega), if_neg (by omega), if_neg (by omega), if_neg (by omega), if_neg (by omega), if_neg (by omega), if_pos (by omega)]
theorem formed_no {L : List Tm} {t : Tm} (h : t.k < 1 ∨ 14 < t.k) : formed L t = decide (t.k = 15) := by unfold formed; rw [if_neg (by omega), if_neg (by omega), if_neg (by omega), if_neg (by omega), if_neg (by omega), if_neg (by omega), if_neg (by omega), if_neg (by omega), if_neg (by omega), if_neg (by omega), if_neg (by omega)]
set_option maxRecDepth 100000 in
set_option maxHeartbeats 2000000 in
theorem lformed_1 (L : List Tm) (t : Tm) (vl vv kv av : Value) (w : World) (_hN : NV w w.heap.size vl L) (hT : TV w w.heap.size t vv kv av) (_hA : ∀ a ∈ t.args, 0 ≤ a ∧ a < (L.length : Int)) (hk : t.k = 1) :
    Calls Tryz.prog 83 #[vl, .agg (tmVals t vv kv av).toArray] w fun e w' => e = .returned (.bool (formed L t)) ∧ Below w.heap.size w w' := by
  obtain ⟨KA, kc, rfl, hk1, hk2⟩ := hT.k.len
  obtain ⟨AA, ac, rfl, ha1, ha2⟩ := hT.a.len
  have lk := hT.lk
  have la := hT.la
  obtain ⟨W, hW⟩ : ∃ W, w.alloc (BoxT t vv (.slice KA t.keys.length kc) (.slice AA t.args.length ac)) = W := ⟨_, rfl⟩
  have hbw : Below w.heap.size w W := by rw [← hW]; exact (Below.refl _ _).alloc (Nat.le_refl _) _
  have HB := Lib.hid hbw
  have c0 : W.cell? ⟨w.heap.size, 0, none⟩ = some (.int .i64 t.k) := by rw [← hW]; exact (Blk.new w 69 #[.int .i64 t.k, .int .i64 t.n, .int .i64 t.i, .int .u64 t.b, .string ⟨t.t.toArray⟩, vv, .slice KA t.keys.length kc, .slice AA t.args.length ac]).cell 0
  have c1 : W.cell? ⟨w.heap.size, 1, none⟩ = some (.int .i64 t.n) := by rw [← hW]; exact (Blk.new w 69 #[.int .i64 t.k, .int .i64 t.n, .int .i64 t.i, .int .u64 t.b, .string ⟨t.t.toArray⟩, vv, .slice KA t.keys.length kc, .slice AA t.args.length ac]).cell 1
  have c7 : W.cell? ⟨w.heap.size, 7, none⟩ = some (.slice AA t.args.length ac) := by rw [← hW]; exact (Blk.new w 69 #[.int .i64 t.k, .int .i64 t.n, .int .i64 t.i, .int .u64 t.b, .string ⟨t.t.toArray⟩, vv, .slice KA t.keys.length kc, .slice AA t.args.length ac]).cell 7
  unfold BoxT at hW
  unfold tmVals
  obtain ⟨R, hR⟩ : ∃ R, formed L t = R := ⟨_, rfl⟩
  rw [hR]
  rw [formed_1 (hk)] at hR
  have q1 := b_true (show t.k = 1 by omega)
  clear _hN hT _hA hbw hk
  by_cases h1 : t.args.length = 0
  · have r1 := b_true (show (t.args.length : Int) = 0 by omega)
    by_cases h2 : 0 ≤ t.n
    · have r2 := decide_eq_true h2
      rw [decide_eq_true ⟨h1, h2⟩] at hR
      subst hR
      clear h1 h2
      go_enter Tryz.func83, Tryz.ntmps83
      go_wp2_with fail
      go_ret
      exact ⟨rfl, HB.out⟩
    · have r2 := decide_eq_false h2
      rw [decide_eq_false (fun h => h2 h.2)] at hR
      subst hR
      clear h1 h2
      go_enter Tryz.func83, Tryz.ntmps83
      go_wp2_with fail
      go_ret
      exact ⟨rfl, HB.out⟩
  · have r1 := b_false (show (t.args.length : Int) ≠ 0 by omega)
    rw [decide_eq_false (fun h => h1 h.1)] at hR
    subst hR
    clear h1
    go_enter Tryz.func83, Tryz.ntmps83
    go_wp2_with fail
    go_ret
    exact ⟨rfl, HB.out⟩
set_option maxRecDepth 100000 in
set_option maxHeartbeats 2000000 in
theorem lformed_2 (L : List Tm) (t : Tm) (vl vv kv av : Value) (w : World) (_hN : NV w w.heap.size vl L) (hT : TV w w.heap.size t vv kv av) (_hA : ∀ a ∈ t.args, 0 ≤ a ∧ a < (L.length : Int)) (hk : t.k = 2) :
    Calls Tryz.prog 83 #[vl, .agg (tmVals t vv kv av).toArray] w fun e w' => e = .returned (.bool (formed L t)) ∧ Below w.heap.size w w' := by
  obtain ⟨KA, kc, rfl, hk1, hk2⟩ := hT.k.len
  obtain ⟨AA, ac, rfl, ha1, ha2⟩ := hT.a.len
  have lk := hT.lk
  have la := hT.la
  obtain ⟨W, hW⟩ : ∃ W, w.alloc (BoxT t vv (.slice KA t.keys.length kc) (.slice AA t.args.length ac)) = W := ⟨_, rfl⟩
  have hbw : Below w.heap.size w W := by rw [← hW]; exact (Below.refl _ _).alloc (Nat.le_refl _) _
  have HB := Lib.hid hbw
  have HC := Lib.hid (fun w => fright_any t.i w)
  have c0 : W.cell? ⟨w.heap.size, 0, none⟩ = some (.int .i64 t.k) := by rw [← hW]; exact (Blk.new w 69 #[.int .i64 t.k, .int .i64 t.n, .int .i64 t.i, .int .u64 t.b, .string ⟨t.t.toArray⟩, vv, .slice KA t.keys.length kc, .slice AA t.args.length ac]).cell 0
  have c2 : W.cell? ⟨w.heap.size, 2, none⟩ = some (.int .i64 t.i) := by rw [← hW]; exact (Blk.new w 69 #[.int .i64 t.k, .int .i64 t.n, .int .i64 t.i, .int .u64 t.b, .string ⟨t.t.toArray⟩, vv, .slice KA t.keys.length kc, .slice AA t.args.length ac]).cell 2
  have c7 : W.cell? ⟨w.heap.size, 7, none⟩ = some (.slice AA t.args.length ac) := by rw [← hW]; exact (Blk.new w 69 #[.int .i64 t.k, .int .i64 t.n, .int .i64 t.i, .int .u64 t.b, .string ⟨t.t.toArray⟩, vv, .slice KA t.keys.length kc, .slice AA t.args.length ac]).cell 7
  unfold BoxT at hW
  unfold tmVals
  obtain ⟨R, hR⟩ : ∃ R, formed L t = R := ⟨_, rfl⟩
  rw [hR]
  rw [formed_2 hk] at hR
  have q1 := b_false (show t.k ≠ 1 by omega)
  have q2 := b_true (show t.k = 2 by omega)
  clear _hN hT _hA hbw hk
  by_cases h1 : t.args.length = 0
  · have r1 := b_true (show (t.args.length : Int) = 0 by omega)
    have hR2 : rightI t.i = R := by rw [← hR]; unfold rightI; congr 1; exact propext ⟨fun h => ⟨h1, h⟩, fun h => h.2⟩
    rw [hR2] at HC
    clear hR hR2 h1
    go_enter Tryz.func83, Tryz.ntmps83
    go_wp2_with (go_at_call 61; ((with_reducible refine (HC.out _).mono ?_); rintro e w' ⟨rfl, rfl⟩))
    go_ret
    exact ⟨rfl, HB.out⟩
  · have r1 := b_false (show (t.args.length : Int) ≠ 0 by omega)
    rw [decide_eq_false (fun h => h1 h.1)] at hR
    subst hR
    clear h1
    go_enter Tryz.func83, Tryz.ntmps83
    go_wp2_with (go_at_call 61; ((with_reducible refine (HC.out _).mono ?_); rintro e w' ⟨rfl, rfl⟩))
    go_ret
    exact ⟨rfl, HB.out⟩
set_option maxRecDepth 100000 in
set_option maxHeartbeats 2000000 in
theorem lformed_3 (L : List Tm) (t : Tm) (vl vv kv av : Value) (w : World) (_hN : NV w w.heap.size vl L) (hT : TV w w.heap.size t vv kv av) (_hA : ∀ a ∈ t.args, 0 ≤ a ∧ a < (L.length : Int)) (hk : t.k = 3) :
    Calls Tryz.prog 83 #[vl, .agg (tmVals t vv kv av).toArray] w fun e w' => e = .returned (.bool (formed L t)) ∧ Below w.heap.size w w' := by
  obtain ⟨KA, kc, rfl, hk1, hk2⟩ := hT.k.len
  obtain ⟨AA, ac, rfl, ha1, ha2⟩ := hT.a.len
  have lk := hT.lk
  have la := hT.la
  obtain ⟨W, hW⟩ : ∃ W, w.alloc (BoxT t vv (.slice KA t.keys.length kc) (.slice AA t.args.length ac)) = W := ⟨_, rfl⟩
  have hbw : Below w.heap.size w W := by rw [← hW]; exact (Below.refl _ _).alloc (Nat.le_refl _) _
  have HB := Lib.hid hbw
  have c0 : W.cell? ⟨w.heap.size, 0, none⟩ = some (.int .i64 t.k) := by rw [← hW]; exact (Blk.new w 69 #[.int .i64 t.k, .int .i64 t.n, .int .i64 t.i, .int .u64 t.b, .string ⟨t.t.toArray⟩, vv, .slice KA t.keys.length kc, .slice AA t.args.length ac]).cell 0
  have c7 : W.cell? ⟨w.heap.size, 7, none⟩ = some (.slice AA t.args.length ac) := by rw [← hW]; exact (Blk.new w 69 #[.int .i64 t.k, .int .i64 t.n, .int .i64 t.i, .int .u64 t.b, .string ⟨t.t.toArray⟩, vv, .slice KA t.keys.length kc, .slice AA t.args.length ac]).cell 7
  unfold BoxT at hW
  unfold tmVals
  obtain ⟨R, hR⟩ : ∃ R, formed L t = R := ⟨_, rfl⟩
  rw [hR]
  rw [formed_3 hk] at hR
  have q1 := b_false (show t.k ≠ 1 by omega)
  have q2 := b_false (show t.k ≠ 2 by omega)
  have q3 := b_true (show t.k = 3 by omega)
  clear _hN hT _hA hbw hk
  by_cases h1 : t.args.length = 0
  · have r1 := b_true (show (t.args.length : Int) = 0 by omega)
    rw [decide_eq_true h1] at hR
    subst hR
    clear h1
    go_enter Tryz.func83, Tryz.ntmps83
    go_wp2_with fail
    go_ret
    exact ⟨rfl, HB.out⟩
  · have r1 := b_false (show (t.args.length : Int) ≠ 0 by omega)
    rw [decide_eq_false h1] at hR
    subst hR
    clear h1
    go_enter Tryz.func83, Tryz.ntmps83
    go_wp2_with fail
    go_ret
    exact ⟨rfl, HB.out⟩
set_option maxRecDepth 100000 in
set_option maxHeartbeats 2000000 in
theorem lformed_4 (L : List Tm) (t : Tm) (vl vv kv av : Value) (w : World) (_hN : NV w w.heap.size vl L) (hT : TV w w.heap.size t vv kv av) (_hA : ∀ a ∈ t.args, 0 ≤ a ∧ a < (L.length : Int)) (hk : t.k = 4) :
    Calls Tryz.prog 83 #[vl, .agg (tmVals t vv kv av).toArray] w fun e w' => e = .returned (.bool (formed L t)) ∧ Below w.heap.size w w' := by
  obtain ⟨KA, kc, rfl, hk1, hk2⟩ := hT.k.len
  obtain ⟨AA, ac, rfl, ha1, ha2⟩ := hT.a.len
  have lk := hT.lk
  have la := hT.la
  obtain ⟨W, hW⟩ : ∃ W, w.alloc (BoxT t vv (.slice KA t.keys.length kc) (.slice AA t.args.length ac)) = W := ⟨_, rfl⟩
  have hbw : Below w.heap.size w W := by rw [← hW]; exact (Below.refl _ _).alloc (Nat.le_refl _) _
  have HB := Lib.hid hbw
  have HC := Lib.hid (fun w => sright_any t.t w)
  have c0 : W.cell? ⟨w.heap.size, 0, none⟩ = some (.int .i64 t.k) := by rw [← hW]; exact (Blk.new w 69 #[.int .i64 t.k, .int .i64 t.n, .int .i64 t.i, .int .u64 t.b, .string ⟨t.t.toArray⟩, vv, .slice KA t.keys.length kc, .slice AA t.args.length ac]).cell 0
  have c4 : W.cell? ⟨w.heap.size, 4, none⟩ = some (.string ⟨t.t.toArray⟩) := by rw [← hW]; exact (Blk.new w 69 #[.int .i64 t.k, .int .i64 t.n, .int .i64 t.i, .int .u64 t.b, .string ⟨t.t.toArray⟩, vv, .slice KA t.keys.length kc, .slice AA t.args.length ac]).cell 4
  have c7 : W.cell? ⟨w.heap.size, 7, none⟩ = some (.slice AA t.args.length ac) := by rw [← hW]; exact (Blk.new w 69 #[.int .i64 t.k, .int .i64 t.n, .int .i64 t.i, .int .u64 t.b, .string ⟨t.t.toArray⟩, vv, .slice KA t.keys.length kc, .slice AA t.args.length ac]).cell 7
  unfold BoxT at hW
  unfold tmVals
  obtain ⟨R, hR⟩ : ∃ R, formed L t = R := ⟨_, rfl⟩
  rw [hR]
  rw [formed_4 hk] at hR
  have q1 := b_false (show t.k ≠ 1 by omega)
  have q2 := b_false (show t.k ≠ 2 by omega)
  have q3 := b_false (show t.k ≠ 3 by omega)
  have q4 := b_true (show t.k = 4 by omega)
  clear _hN hT _hA hbw hk
  by_cases h1 : t.args.length = 0
  · have r1 := b_true (show (t.args.length : Int) = 0 by omega)
    have hR2 : decide (t.t.length ≤ 65536) = R := by rw [← hR]; congr 1; exact propext ⟨fun h => ⟨h1, h⟩, fun h => h.2⟩
    rw [hR2] at HC
    clear hR hR2 h1
    go_enter Tryz.func83, Tryz.ntmps83
    go_wp2_with (go_at_call 62; ((with_reducible refine (HC.out _).mono ?_); rintro e w' ⟨rfl, rfl⟩))
    go_ret
    exact ⟨rfl, HB.out⟩
  · have r1 := b_false (show (t.args.length : Int) ≠ 0 by omega)
    rw [decide_eq_false (fun h => h1 h.1)] at hR
    subst hR
    clear h1
    go_enter Tryz.func83, Tryz.ntmps83
    go_wp2_with (go_at_call 62; ((with_reducible refine (HC.out _).mono ?_); rintro e w' ⟨rfl, rfl⟩))
    go_ret
    exact ⟨rfl, HB.out⟩
set_option maxRecDepth 100000 in
set_option maxHeartbeats 2000000 in
theorem lformed_5 (L : List Tm) (t : Tm) (vl vv kv av : Value) (w : World) (_hN : NV w w.heap.size vl L) (hT : TV w w.heap.size t vv kv av) (_hA : ∀ a ∈ t.args, 0 ≤ a ∧ a < (L.length : Int)) (hk : t.k = 5) :
    Calls Tryz.prog 83 #[vl, .agg (tmVals t vv kv av).toArray] w fun e w' => e = .returned (.bool (formed L t)) ∧ Below w.heap.size w w' := by
  obtain ⟨KA, kc, rfl, hk1, hk2⟩ := hT.k.len
  obtain ⟨AA, ac, rfl, ha1, ha2⟩ := hT.a.len
  have lk := hT.lk
  have la := hT.la
  obtain ⟨W, hW⟩ : ∃ W, w.alloc (BoxT t vv (.slice KA t.keys.length kc) (.slice AA t.args.length ac)) = W := ⟨_, rfl⟩
  have hbw : Below w.heap.size w W := by rw [← hW]; exact (Below.refl _ _).alloc (Nat.le_refl _) _
  have HB := Lib.hid hbw
  have c0 : W.cell? ⟨w.heap.size, 0, none⟩ = some (.int .i64 t.k) := by rw [← hW]; exact (Blk.new w 69 #[.int .i64 t.k, .int .i64 t.n, .int .i64 t.i, .int .u64 t.b, .string ⟨t.t.toArray⟩, vv, .slice KA t.keys.length kc, .slice AA t.args.length ac]).cell 0
  have c7 : W.cell? ⟨w.heap.size, 7, none⟩ = some (.slice AA t.args.length ac) := by rw [← hW]; exact (Blk.new w 69 #[.int .i64 t.k, .int .i64 t.n, .int .i64 t.i, .int .u64 t.b, .string ⟨t.t.toArray⟩, vv, .slice KA t.keys.length kc, .slice AA t.args.length ac]).cell 7
  unfold BoxT at hW
  unfold tmVals
  obtain ⟨R, hR⟩ : ∃ R, formed L t = R := ⟨_, rfl⟩
  rw [hR]
  rw [formed_5 (hk)] at hR
  have q1 := b_false (show t.k ≠ 1 by omega)
  have q2 := b_false (show t.k ≠ 2 by omega)
  have q3 := b_false (show t.k ≠ 3 by omega)
  have q4 := b_false (show t.k ≠ 4 by omega)
  have q5 := b_true (show t.k = 5 by omega)
  clear _hN hT _hA hbw hk
  by_cases h1 : 1 ≤ t.args.length
  · have r1 := decide_eq_true (show (1 : Int) ≤ (t.args.length : Int) by omega)
    by_cases h2 : t.args.length ≤ 1024
    · have r2 := decide_eq_true (show (t.args.length : Int) ≤ 1024 by omega)
      rw [decide_eq_true ⟨h1, h2⟩] at hR
      subst hR
      clear h1 h2
      go_enter Tryz.func83, Tryz.ntmps83
      go_wp2_with fail
      go_ret
      exact ⟨rfl, HB.out⟩
    · have r2 := decide_eq_false (show ¬ (t.args.length : Int) ≤ 1024 by omega)
      rw [decide_eq_false (fun h => h2 h.2)] at hR
      subst hR
      clear h1 h2
      go_enter Tryz.func83, Tryz.ntmps83
      go_wp2_with fail
      go_ret
      exact ⟨rfl, HB.out⟩
  · have r1 := decide_eq_false (show ¬ (1 : Int) ≤ (t.args.length : Int) by omega)
    rw [decide_eq_false (fun h => h1 h.1)] at hR
    subst hR
    clear h1
    go_enter Tryz.func83, Tryz.ntmps83
    go_wp2_with fail
    go_ret
    exact ⟨rfl, HB.out⟩
set_option maxRecDepth 100000 in
set_option maxHeartbeats 2000000 in
theorem lformed_678_6 (L : List Tm) (t : Tm) (vl vv kv av : Value) (w : World) (_hN : NV w w.heap.size vl L) (hT : TV w w.heap.size t vv kv av) (_hA : ∀ a ∈ t.args, 0 ≤ a ∧ a < (L.length : Int)) (hk : t.k = 6) :
    Calls Tryz.prog 83 #[vl, .agg (tmVals t vv kv av).toArray] w fun e w' => e = .returned (.bool (formed L t)) ∧ Below w.heap.size w w' := by
  obtain ⟨KA, kc, rfl, hk1, hk2⟩ := hT.k.len
  obtain ⟨AA, ac, rfl, ha1, ha2⟩ := hT.a.len
  have lk := hT.lk
  have la := hT.la
  obtain ⟨W, hW⟩ : ∃ W, w.alloc (BoxT t vv (.slice KA t.keys.length kc) (.slice AA t.args.length ac)) = W := ⟨_, rfl⟩
  have hbw : Below w.heap.size w W := by rw [← hW]; exact (Below.refl _ _).alloc (Nat.le_refl _) _
  have HB := Lib.hid hbw
  have c0 : W.cell? ⟨w.heap.size, 0, none⟩ = some (.int .i64 t.k) := by rw [← hW]; exact (Blk.new w 69 #[.int .i64 t.k, .int .i64 t.n, .int .i64 t.i, .int .u64 t.b, .string ⟨t.t.toArray⟩, vv, .slice KA t.keys.length kc, .slice AA t.args.length ac]).cell 0
  have c1 : W.cell? ⟨w.heap.size, 1, none⟩ = some (.int .i64 t.n) := by rw [← hW]; exact (Blk.new w 69 #[.int .i64 t.k, .int .i64 t.n, .int .i64 t.i, .int .u64 t.b, .string ⟨t.t.toArray⟩, vv, .slice KA t.keys.length kc, .slice AA t.args.length ac]).cell 1
  have c7 : W.cell? ⟨w.heap.size, 7, none⟩ = some (.slice AA t.args.length ac) := by rw [← hW]; exact (Blk.new w 69 #[.int .i64 t.k, .int .i64 t.n, .int .i64 t.i, .int .u64 t.b, .string ⟨t.t.toArray⟩, vv, .slice KA t.keys.length kc, .slice AA t.args.length ac]).cell 7
  unfold BoxT at hW
  unfold tmVals
  obtain ⟨R, hR⟩ : ∃ R, formed L t = R := ⟨_, rfl⟩
  rw [hR]
  rw [formed_678 (by omega)] at hR
  have q1 := b_false (show t.k ≠ 1 by omega)
  have q2 := b_false (show t.k ≠ 2 by omega)
  have q3 := b_false (show t.k ≠ 3 by omega)
  have q4 := b_false (show t.k ≠ 4 by omega)
  have q5 := b_false (show t.k ≠ 5 by omega)
  have q6 := b_true (show t.k = 6 by omega)
  clear _hN hT _hA hbw hk
  by_cases h1 : t.args.length = 1
  · have r1 := b_true (show (t.args.length : Int) = 1 by omega)
    by_cases h2 : 0 ≤ t.n
    · have r2 := decide_eq_true h2
      rw [decide_eq_true ⟨h1, h2⟩] at hR
      subst hR
      clear h1 h2
      go_enter Tryz.func83, Tryz.ntmps83
      go_wp2_with fail
      go_ret
      exact ⟨rfl, HB.out⟩
    · have r2 := decide_eq_false h2
      rw [decide_eq_false (fun h => h2 h.2)] at hR
      subst hR
      clear h1 h2
      go_enter Tryz.func83, Tryz.ntmps83
      go_wp2_with fail
      go_ret
      exact ⟨rfl, HB.out⟩
  · have r1 := b_false (show (t.args.length : Int) ≠ 1 by omega)
    rw [decide_eq_false (fun h => h1 h.1)] at hR
    subst hR
    clear h1
    go_enter Tryz.func83, Tryz.ntmps83
    go_wp2_with fail
    go_ret
    exact ⟨rfl, HB.out⟩
set_option maxRecDepth 100000 in
set_option maxHeartbeats 2000000 in
theorem lformed_678_7 (L : List Tm) (t : Tm) (vl vv kv av : Value) (w : World) (_hN : NV w w.heap.size vl L) (hT : TV w w.heap.size t vv kv av) (_hA : ∀ a ∈ t.args, 0 ≤ a ∧ a < (L.length : Int)) (hk : t.k = 7) :
    Calls Tryz.prog 83 #[vl, .agg (tmVals t vv kv av).toArray] w fun e w' => e = .returned (.bool (formed L t)) ∧ Below w.heap.size w w' := by
  obtain ⟨KA, kc, rfl, hk1, hk2⟩ := hT.k.len
  obtain ⟨AA, ac, rfl, ha1, ha2⟩ := hT.a.len
  have lk := hT.lk
  have la := hT.la
  obtain ⟨W, hW⟩ : ∃ W, w.alloc (BoxT t vv (.slice KA t.keys.length kc) (.slice AA t.args.length ac)) = W := ⟨_, rfl⟩
  have hbw : Below w.heap.size w W := by rw [← hW]; exact (Below.refl _ _).alloc (Nat.le_refl _) _
  have HB := Lib.hid hbw
  have c0 : W.cell? ⟨w.heap.size, 0, none⟩ = some (.int .i64 t.k) := by rw [← hW]; exact (Blk.new w 69 #[.int .i64 t.k, .int .i64 t.n, .int .i64 t.i, .int .u64 t.b, .string ⟨t.t.toArray⟩, vv, .slice KA t.keys.length kc, .slice AA t.args.length ac]).cell 0
  have c1 : W.cell? ⟨w.heap.size, 1, none⟩ = some (.int .i64 t.n) := by rw [← hW]; exact (Blk.new w 69 #[.int .i64 t.k, .int .i64 t.n, .int .i64 t.i, .int .u64 t.b, .string ⟨t.t.toArray⟩, vv, .slice KA t.keys.length kc, .slice AA t.args.length ac]).cell 1
  have c7 : W.cell? ⟨w.heap.size, 7, none⟩ = some (.slice AA t.args.length ac) := by rw [← hW]; exact (Blk.new w 69 #[.int .i64 t.k, .int .i64 t.n, .int .i64 t.i, .int .u64 t.b, .string ⟨t.t.toArray⟩, vv, .slice KA t.keys.length kc, .slice AA t.args.length ac]).cell 7
  unfold BoxT at hW
  unfold tmVals
  obtain ⟨R, hR⟩ : ∃ R, formed L t = R := ⟨_, rfl⟩
  rw [hR]
  rw [formed_678 (by omega)] at hR
  have q1 := b_false (show t.k ≠ 1 by omega)
  have q2 := b_false (show t.k ≠ 2 by omega)
  have q3 := b_false (show t.k ≠ 3 by omega)
  have q4 := b_false (show t.k ≠ 4 by omega)
  have q5 := b_false (show t.k ≠ 5 by omega)
  have q6 := b_false (show t.k ≠ 6 by omega)
  have q7 := b_true (show t.k = 7 by omega)
  clear _hN hT _hA hbw hk
  by_cases h1 : t.args.length = 1
  · have r1 := b_true (show (t.args.length : Int) = 1 by omega)
    by_cases h2 : 0 ≤ t.n
    · have r2 := decide_eq_true h2
      rw [decide_eq_true ⟨h1, h2⟩] at hR
      subst hR
      clear h1 h2
      go_enter Tryz.func83, Tryz.ntmps83
      go_wp2_with fail
      go_ret
      exact ⟨rfl, HB.out⟩
    · have r2 := decide_eq_false h2
      rw [decide_eq_false (fun h => h2 h.2)] at hR
      subst hR
      clear h1 h2
      go_enter Tryz.func83, Tryz.ntmps83
      go_wp2_with fail
      go_ret
      exact ⟨rfl, HB.out⟩
  · have r1 := b_false (show (t.args.length : Int) ≠ 1 by omega)
    rw [decide_eq_false (fun h => h1 h.1)] at hR
    subst hR
    clear h1
    go_enter Tryz.func83, Tryz.ntmps83
    go_wp2_with fail
    go_ret
    exact ⟨rfl, HB.out⟩
set_option maxRecDepth 100000 in
set_option maxHeartbeats 2000000 in
theorem lformed_678_8 (L : List Tm) (t : Tm) (vl vv kv av : Value) (w : World) (_hN : NV w w.heap.size vl L) (hT : TV w w.heap.size t vv kv av) (_hA : ∀ a ∈ t.args, 0 ≤ a ∧ a < (L.length : Int)) (hk : t.k = 8) :
    Calls Tryz.prog 83 #[vl, .agg (tmVals t vv kv av).toArray] w fun e w' => e = .returned (.bool (formed L t)) ∧ Below w.heap.size w w' := by
  obtain ⟨KA, kc, rfl, hk1, hk2⟩ := hT.k.len
  obtain ⟨AA, ac, rfl, ha1, ha2⟩ := hT.a.len
  have lk := hT.lk
  have la := hT.la
  obtain ⟨W, hW⟩ : ∃ W, w.alloc (BoxT t vv (.slice KA t.keys.length kc) (.slice AA t.args.length ac)) = W := ⟨_, rfl⟩
  have hbw : Below w.heap.size w W := by rw [← hW]; exact (Below.refl _ _).alloc (Nat.le_refl _) _
  have HB := Lib.hid hbw
  have c0 : W.cell? ⟨w.heap.size, 0, none⟩ = some (.int .i64 t.k) := by rw [← hW]; exact (Blk.new w 69 #[.int .i64 t.k, .int .i64 t.n, .int .i64 t.i, .int .u64 t.b, .string ⟨t.t.toArray⟩, vv, .slice KA t.keys.length kc, .slice AA t.args.length ac]).cell 0
  have c1 : W.cell? ⟨w.heap.size, 1, none⟩ = some (.int .i64 t.n) := by rw [← hW]; exact (Blk.new w 69 #[.int .i64 t.k, .int .i64 t.n, .int .i64 t.i, .int .u64 t.b, .string ⟨t.t.toArray⟩, vv, .slice KA t.keys.length kc, .slice AA t.args.length ac]).cell 1
  have c7 : W.cell? ⟨w.heap.size, 7, none⟩ = some (.slice AA t.args.length ac) := by rw [← hW]; exact (Blk.new w 69 #[.int .i64 t.k, .int .i64 t.n, .int .i64 t.i, .int .u64 t.b, .string ⟨t.t.toArray⟩, vv, .slice KA t.keys.length kc, .slice AA t.args.length ac]).cell 7
  unfold BoxT at hW
  unfold tmVals
  obtain ⟨R, hR⟩ : ∃ R, formed L t = R := ⟨_, rfl⟩
  rw [hR]
  rw [formed_678 (by omega)] at hR
  have q1 := b_false (show t.k ≠ 1 by omega)
  have q2 := b_false (show t.k ≠ 2 by omega)
  have q3 := b_false (show t.k ≠ 3 by omega)
  have q4 := b_false (show t.k ≠ 4 by omega)
  have q5 := b_false (show t.k ≠ 5 by omega)
  have q6 := b_false (show t.k ≠ 6 by omega)
  have q7 := b_false (show t.k ≠ 7 by omega)
  have q8 := b_true (show t.k = 8 by omega)
  clear _hN hT _hA hbw hk
  by_cases h1 : t.args.length = 1
  · have r1 := b_true (show (t.args.length : Int) = 1 by omega)
    by_cases h2 : 0 ≤ t.n
    · have r2 := decide_eq_true h2
      rw [decide_eq_true ⟨h1, h2⟩] at hR
      subst hR
      clear h1 h2
      go_enter Tryz.func83, Tryz.ntmps83
      go_wp2_with fail
      go_ret
      exact ⟨rfl, HB.out⟩
    · have r2 := decide_eq_false h2
      rw [decide_eq_false (fun h => h2 h.2)] at hR
      subst hR
      clear h1 h2
      go_enter Tryz.func83, Tryz.ntmps83
      go_wp2_with fail
      go_ret
      exact ⟨rfl, HB.out⟩
  · have r1 := b_false (show (t.args.length : Int) ≠ 1 by omega)
    rw [decide_eq_false (fun h => h1 h.1)] at hR
    subst hR
    clear h1
    go_enter Tryz.func83, Tryz.ntmps83
    go_wp2_with fail
    go_ret
    exact ⟨rfl, HB.out⟩
set_option maxRecDepth 100000 in
set_option maxHeartbeats 2000000 in
theorem lformed_9 (L : List Tm) (t : Tm) (vl vv kv av : Value) (w : World) (_hN : NV w w.heap.size vl L) (hT : TV w w.heap.size t vv kv av) (_hA : ∀ a ∈ t.args, 0 ≤ a ∧ a < (L.length : Int)) (hk : t.k = 9) :
    Calls Tryz.prog 83 #[vl, .agg (tmVals t vv kv av).toArray] w fun e w' => e = .returned (.bool (formed L t)) ∧ Below w.heap.size w w' := by
  obtain ⟨KA, kc, rfl, hk1, hk2⟩ := hT.k.len
  obtain ⟨AA, ac, rfl, ha1, ha2⟩ := hT.a.len
  have lk := hT.lk
  have la := hT.la
  obtain ⟨W, hW⟩ : ∃ W, w.alloc (BoxT t vv (.slice KA t.keys.length kc) (.slice AA t.args.length ac)) = W := ⟨_, rfl⟩
  have hbw : Below w.heap.size w W := by rw [← hW]; exact (Below.refl _ _).alloc (Nat.le_refl _) _
  have HB := Lib.hid hbw
  have c0 : W.cell? ⟨w.heap.size, 0, none⟩ = some (.int .i64 t.k) := by rw [← hW]; exact (Blk.new w 69 #[.int .i64 t.k, .int .i64 t.n, .int .i64 t.i, .int .u64 t.b, .string ⟨t.t.toArray⟩, vv, .slice KA t.keys.length kc, .slice AA t.args.length ac]).cell 0
  have c7 : W.cell? ⟨w.heap.size, 7, none⟩ = some (.slice AA t.args.length ac) := by rw [← hW]; exact (Blk.new w 69 #[.int .i64 t.k, .int .i64 t.n, .int .i64 t.i, .int .u64 t.b, .string ⟨t.t.toArray⟩, vv, .slice KA t.keys.length kc, .slice AA t.args.length ac]).cell 7
  unfold BoxT at hW
  unfold tmVals
  obtain ⟨R, hR⟩ : ∃ R, formed L t = R := ⟨_, rfl⟩
  rw [hR]
  rw [formed_9 hk] at hR
  have q1 := b_false (show t.k ≠ 1 by omega)
  have q2 := b_false (show t.k ≠ 2 by omega)
  have q3 := b_false (show t.k ≠ 3 by omega)
  have q4 := b_false (show t.k ≠ 4 by omega)
  have q5 := b_false (show t.k ≠ 5 by omega)
  have q6 := b_false (show t.k ≠ 6 by omega)
  have q7 := b_false (show t.k ≠ 7 by omega)
  have q8 := b_false (show t.k ≠ 8 by omega)
  have q9 := b_true (show t.k = 9 by omega)
  clear _hN hT _hA hbw hk
  by_cases h1 : t.args.length = 2
  · have r1 := b_true (show (t.args.length : Int) = 2 by omega)
    rw [decide_eq_true h1] at hR
    subst hR
    clear h1
    go_enter Tryz.func83, Tryz.ntmps83
    go_wp2_with fail
    go_ret
    exact ⟨rfl, HB.out⟩
  · have r1 := b_false (show (t.args.length : Int) ≠ 2 by omega)
    rw [decide_eq_false h1] at hR
    subst hR
    clear h1
    go_enter Tryz.func83, Tryz.ntmps83
    go_wp2_with fail
    go_ret
    exact ⟨rfl, HB.out⟩
set_option maxRecDepth 100000 in
set_option maxHeartbeats 2000000 in
theorem lformed_1014_10 (L : List Tm) (t : Tm) (vl vv kv av : Value) (w : World) (_hN : NV w w.heap.size vl L) (hT : TV w w.heap.size t vv kv av) (_hA : ∀ a ∈ t.args, 0 ≤ a ∧ a < (L.length : Int)) (hk : t.k = 10) :
    Calls Tryz.prog 83 #[vl, .agg (tmVals t vv kv av).toArray] w fun e w' => e = .returned (.bool (formed L t)) ∧ Below w.heap.size w w' := by
  obtain ⟨KA, kc, rfl, hk1, hk2⟩ := hT.k.len
  obtain ⟨AA, ac, rfl, ha1, ha2⟩ := hT.a.len
  have lk := hT.lk
  have la := hT.la
  obtain ⟨W, hW⟩ : ∃ W, w.alloc (BoxT t vv (.slice KA t.keys.length kc) (.slice AA t.args.length ac)) = W := ⟨_, rfl⟩
  have hbw : Below w.heap.size w W := by rw [← hW]; exact (Below.refl _ _).alloc (Nat.le_refl _) _
  have HB := Lib.hid hbw
  have c0 : W.cell? ⟨w.heap.size, 0, none⟩ = some (.int .i64 t.k) := by rw [← hW]; exact (Blk.new w 69 #[.int .i64 t.k, .int .i64 t.n, .int .i64 t.i, .int .u64 t.b, .string ⟨t.t.toArray⟩, vv, .slice KA t.keys.length kc, .slice AA t.args.length ac]).cell 0
  have c1 : W.cell? ⟨w.heap.size, 1, none⟩ = some (.int .i64 t.n) := by rw [← hW]; exact (Blk.new w 69 #[.int .i64 t.k, .int .i64 t.n, .int .i64 t.i, .int .u64 t.b, .string ⟨t.t.toArray⟩, vv, .slice KA t.keys.length kc, .slice AA t.args.length ac]).cell 1
  have c7 : W.cell? ⟨w.heap.size, 7, none⟩ = some (.slice AA t.args.length ac) := by rw [← hW]; exact (Blk.new w 69 #[.int .i64 t.k, .int .i64 t.n, .int .i64 t.i, .int .u64 t.b, .string ⟨t.t.toArray⟩, vv, .slice KA t.keys.length kc, .slice AA t.args.length ac]).cell 7
  unfold BoxT at hW
  unfold tmVals
  obtain ⟨R, hR⟩ : ∃ R, formed L t = R := ⟨_, rfl⟩
  rw [hR]
  rw [formed_1014 (by omega)] at hR
  have q1 := b_false (show t.k ≠ 1 by omega)
  have q2 := b_false (show t.k ≠ 2 by omega)
  have q3 := b_false (show t.k ≠ 3 by omega)
  have q4 := b_false (show t.k ≠ 4 by omega)
  have q5 := b_false (show t.k ≠ 5 by omega)
  have q6 := b_false (show t.k ≠ 6 by omega)
  have q7 := b_false (show t.k ≠ 7 by omega)
  have q8 := b_false (show t.k ≠ 8 by omega)
  have q9 := b_false (show t.k ≠ 9 by omega)
  have q10 := b_true (show t.k = 10 by omega)
  clear _hN hT _hA hbw hk
  by_cases h1 : t.args.length = 2
  · have r1 := b_true (show (t.args.length : Int) = 2 by omega)
    by_cases h2 : 0 ≤ t.n
    · have r2 := decide_eq_true h2
      rw [decide_eq_true ⟨h1, h2⟩] at hR
      subst hR
      clear h1 h2
      go_enter Tryz.func83, Tryz.ntmps83
      go_wp2_with fail
      go_ret
      exact ⟨rfl, HB.out⟩
    · have r2 := decide_eq_false h2
      rw [decide_eq_false (fun h => h2 h.2)] at hR
      subst hR
      clear h1 h2
      go_enter Tryz.func83, Tryz.ntmps83
      go_wp2_with fail
      go_ret
      exact ⟨rfl, HB.out⟩
  · have r1 := b_false (show (t.args.length : Int) ≠ 2 by omega)
    rw [decide_eq_false (fun h => h1 h.1)] at hR
    subst hR
    clear h1
    go_enter Tryz.func83, Tryz.ntmps83
    go_wp2_with fail
    go_ret
    exact ⟨rfl, HB.out⟩
set_option maxRecDepth 100000 in
set_option maxHeartbeats 2000000 in
theorem lformed_1014_14 (L : List Tm) (t : Tm) (vl vv kv av : Value) (w : World) (_hN : NV w w.heap.size vl L) (hT : TV w w.heap.size t vv kv av) (_hA : ∀ a ∈ t.args, 0 ≤ a ∧ a < (L.length : Int)) (hk : t.k = 14) :
    Calls Tryz.prog 83 #[vl, .agg (tmVals t vv kv av).toArray] w fun e w' => e = .returned (.bool (formed L t)) ∧ Below w.heap.size w w' := by
  obtain ⟨KA, kc, rfl, hk1, hk2⟩ := hT.k.len
  obtain ⟨AA, ac, rfl, ha1, ha2⟩ := hT.a.len
  have lk := hT.lk
  have la := hT.la
  obtain ⟨W, hW⟩ : ∃ W, w.alloc (BoxT t vv (.slice KA t.keys.length kc) (.slice AA t.args.length ac)) = W := ⟨_, rfl⟩
  have hbw : Below w.heap.size w W := by rw [← hW]; exact (Below.refl _ _).alloc (Nat.le_refl _) _
  have HB := Lib.hid hbw
  have c0 : W.cell? ⟨w.heap.size, 0, none⟩ = some (.int .i64 t.k) := by rw [← hW]; exact (Blk.new w 69 #[.int .i64 t.k, .int .i64 t.n, .int .i64 t.i, .int .u64 t.b, .string ⟨t.t.toArray⟩, vv, .slice KA t.keys.length kc, .slice AA t.args.length ac]).cell 0
  have c1 : W.cell? ⟨w.heap.size, 1, none⟩ = some (.int .i64 t.n) := by rw [← hW]; exact (Blk.new w 69 #[.int .i64 t.k, .int .i64 t.n, .int .i64 t.i, .int .u64 t.b, .string ⟨t.t.toArray⟩, vv, .slice KA t.keys.length kc, .slice AA t.args.length ac]).cell 1
  have c7 : W.cell? ⟨w.heap.size, 7, none⟩ = some (.slice AA t.args.length ac) := by rw [← hW]; exact (Blk.new w 69 #[.int .i64 t.k, .int .i64 t.n, .int .i64 t.i, .int .u64 t.b, .string ⟨t.t.toArray⟩, vv, .slice KA t.keys.length kc, .slice AA t.args.length ac]).cell 7
  unfold BoxT at hW
  unfold tmVals
  obtain ⟨R, hR⟩ : ∃ R, formed L t = R := ⟨_, rfl⟩
  rw [hR]
  rw [formed_1014 (by omega)] at hR
  have q1 := b_false (show t.k ≠ 1 by omega)
  have q2 := b_false (show t.k ≠ 2 by omega)
  have q3 := b_false (show t.k ≠ 3 by omega)
  have q4 := b_false (show t.k ≠ 4 by omega)
  have q5 := b_false (show t.k ≠ 5 by omega)
  have q6 := b_false (show t.k ≠ 6 by omega)
  have q7 := b_false (show t.k ≠ 7 by omega)
  have q8 := b_false (show t.k ≠ 8 by omega)
  have q9 := b_false (show t.k ≠ 9 by omega)
  have q10 := b_false (show t.k ≠ 10 by omega)
  have q14 := b_true (show t.k = 14 by omega)
  clear _hN hT _hA hbw hk
  by_cases h1 : t.args.length = 2
  · have r1 := b_true (show (t.args.length : Int) = 2 by omega)
    by_cases h2 : 0 ≤ t.n
    · have r2 := decide_eq_true h2
      rw [decide_eq_true ⟨h1, h2⟩] at hR
      subst hR
      clear h1 h2
      go_enter Tryz.func83, Tryz.ntmps83
      go_wp2_with fail
      go_ret
      exact ⟨rfl, HB.out⟩
    · have r2 := decide_eq_false h2
      rw [decide_eq_false (fun h => h2 h.2)] at hR
      subst hR
      clear h1 h2
      go_enter Tryz.func83, Tryz.ntmps83
      go_wp2_with fail
      go_ret
      exact ⟨rfl, HB.out⟩
  · have r1 := b_false (show (t.args.length : Int) ≠ 2 by omega)
    rw [decide_eq_false (fun h => h1 h.1)] at hR
    subst hR
    clear h1
    go_enter Tryz.func83, Tryz.ntmps83
    go_wp2_with fail
    go_ret
    exact ⟨rfl, HB.out⟩
set_option maxRecDepth 100000 in
set_option maxHeartbeats 2000000 in
theorem lformed_11 (L : List Tm) (t : Tm) (vl vv kv av : Value) (w : World) (hN : NV w w.heap.size vl L) (hT : TV w w.heap.size t vv kv av) (hA : ∀ a ∈ t.args, 0 ≤ a ∧ a < (L.length : Int)) (hk : t.k = 11) :
    Calls Tryz.prog 83 #[vl, .agg (tmVals t vv kv av).toArray] w fun e w' => e = .returned (.bool (formed L t)) ∧ Below w.heap.size w w' := by
  obtain ⟨KA, kc, rfl, hk1, hk2⟩ := hT.k.len
  obtain ⟨AA, ac, rfl, ha1, ha2⟩ := hT.a.len
  have lk := hT.lk
  have la := hT.la
  obtain ⟨W, hW⟩ : ∃ W, w.alloc (BoxT t vv (.slice KA t.keys.length kc) (.slice AA t.args.length ac)) = W := ⟨_, rfl⟩
  have hbw : Below w.heap.size w W := by rw [← hW]; exact (Below.refl _ _).alloc (Nat.le_refl _) _
  have HB := Lib.hid hbw
  have HC := Lib.hid (lfixed_any L t vl vv _ _ W (hN.below hbw) (hT.below hbw) hA)
  have c0 : W.cell? ⟨w.heap.size, 0, none⟩ = some (.int .i64 t.k) := by rw [← hW]; exact (Blk.new w 69 #[.int .i64 t.k, .int .i64 t.n, .int .i64 t.i, .int .u64 t.b, .string ⟨t.t.toArray⟩, vv, .slice KA t.keys.length kc, .slice AA t.args.length ac]).cell 0
  have c1 : W.cell? ⟨w.heap.size, 1, none⟩ = some (.int .i64 t.n) := by rw [← hW]; exact (Blk.new w 69 #[.int .i64 t.k, .int .i64 t.n, .int .i64 t.i, .int .u64 t.b, .string ⟨t.t.toArray⟩, vv, .slice KA t.keys.length kc, .slice AA t.args.length ac]).cell 1
  have c2 : W.cell? ⟨w.heap.size, 2, none⟩ = some (.int .i64 t.i) := by rw [← hW]; exact (Blk.new w 69 #[.int .i64 t.k, .int .i64 t.n, .int .i64 t.i, .int .u64 t.b, .string ⟨t.t.toArray⟩, vv, .slice KA t.keys.length kc, .slice AA t.args.length ac]).cell 2
  have c3 : W.cell? ⟨w.heap.size, 3, none⟩ = some (.int .u64 t.b) := by rw [← hW]; exact (Blk.new w 69 #[.int .i64 t.k, .int .i64 t.n, .int .i64 t.i, .int .u64 t.b, .string ⟨t.t.toArray⟩, vv, .slice KA t.keys.length kc, .slice AA t.args.length ac]).cell 3
  have c4 : W.cell? ⟨w.heap.size, 4, none⟩ = some (.string ⟨t.t.toArray⟩) := by rw [← hW]; exact (Blk.new w 69 #[.int .i64 t.k, .int .i64 t.n, .int .i64 t.i, .int .u64 t.b, .string ⟨t.t.toArray⟩, vv, .slice KA t.keys.length kc, .slice AA t.args.length ac]).cell 4
  have c5 : W.cell? ⟨w.heap.size, 5, none⟩ = some (vv) := by rw [← hW]; exact (Blk.new w 69 #[.int .i64 t.k, .int .i64 t.n, .int .i64 t.i, .int .u64 t.b, .string ⟨t.t.toArray⟩, vv, .slice KA t.keys.length kc, .slice AA t.args.length ac]).cell 5
  have c6 : W.cell? ⟨w.heap.size, 6, none⟩ = some (.slice KA t.keys.length kc) := by rw [← hW]; exact (Blk.new w 69 #[.int .i64 t.k, .int .i64 t.n, .int .i64 t.i, .int .u64 t.b, .string ⟨t.t.toArray⟩, vv, .slice KA t.keys.length kc, .slice AA t.args.length ac]).cell 6
  have c7 : W.cell? ⟨w.heap.size, 7, none⟩ = some (.slice AA t.args.length ac) := by rw [← hW]; exact (Blk.new w 69 #[.int .i64 t.k, .int .i64 t.n, .int .i64 t.i, .int .u64 t.b, .string ⟨t.t.toArray⟩, vv, .slice KA t.keys.length kc, .slice AA t.args.length ac]).cell 7
  unfold BoxT at hW
  unfold tmVals
  obtain ⟨R, hR⟩ : ∃ R, formed L t = R := ⟨_, rfl⟩
  rw [hR]
  rw [formed_11 hk] at hR
  unfold tmVals at HC
  rw [hR] at HC
  have q1 := b_false (show t.k ≠ 1 by omega)
  have q2 := b_false (show t.k ≠ 2 by omega)
  have q3 := b_false (show t.k ≠ 3 by omega)
  have q4 := b_false (show t.k ≠ 4 by omega)
  have q5 := b_false (show t.k ≠ 5 by omega)
  have q6 := b_false (show t.k ≠ 6 by omega)
  have q7 := b_false (show t.k ≠ 7 by omega)
  have q8 := b_false (show t.k ≠ 8 by omega)
  have q9 := b_false (show t.k ≠ 9 by omega)
  have q10 := b_false (show t.k ≠ 10 by omega)
  have q14 := b_false (show t.k ≠ 14 by omega)
  have q11 := b_true (show t.k = 11 by omega)
  clear hN hT hA hbw hk hR
  go_enter Tryz.func83, Tryz.ntmps83
  go_wp2_with (go_at_call 153; ((with_reducible refine (HC.out).mono ?_); rintro e w' ⟨rfl, hb⟩; have HB2 := Lib.hid (HB.out.trans (hb.mono HB.out.size)); clear hb))
  go_ret
  exact ⟨rfl, HB2.out⟩
set_option maxRecDepth 100000 in
set_option maxHeartbeats 2000000 in
theorem lformed_12 (L : List Tm) (t : Tm) (vl vv kv av : Value) (w : World) (_hN : NV w w.heap.size vl L) (hT : TV w w.heap.size t vv kv av) (_hA : ∀ a ∈ t.args, 0 ≤ a ∧ a < (L.length : Int)) (hk : t.k = 12) :
    Calls Tryz.prog 83 #[vl, .agg (tmVals t vv kv av).toArray] w fun e w' => e = .returned (.bool (formed L t)) ∧ Below w.heap.size w w' := by
  obtain ⟨KA, kc, rfl, hk1, hk2⟩ := hT.k.len
  obtain ⟨AA, ac, rfl, ha1, ha2⟩ := hT.a.len
  have lk := hT.lk
  have la := hT.la
  obtain ⟨W, hW⟩ : ∃ W, w.alloc (BoxT t vv (.slice KA t.keys.length kc) (.slice AA t.args.length ac)) = W := ⟨_, rfl⟩
  have hbw : Below w.heap.size w W := by rw [← hW]; exact (Below.refl _ _).alloc (Nat.le_refl _) _
  have HB := Lib.hid hbw
  have HC := Lib.hid (confunk_any t.keys _ W (hT.k.below hbw))
  have c0 : W.cell? ⟨w.heap.size, 0, none⟩ = some (.int .i64 t.k) := by rw [← hW]; exact (Blk.new w 69 #[.int .i64 t.k, .int .i64 t.n, .int .i64 t.i, .int .u64 t.b, .string ⟨t.t.toArray⟩, vv, .slice KA t.keys.length kc, .slice AA t.args.length ac]).cell 0
  have c6 : W.cell? ⟨w.heap.size, 6, none⟩ = some (.slice KA t.keys.length kc) := by rw [← hW]; exact (Blk.new w 69 #[.int .i64 t.k, .int .i64 t.n, .int .i64 t.i, .int .u64 t.b, .string ⟨t.t.toArray⟩, vv, .slice KA t.keys.length kc, .slice AA t.args.length ac]).cell 6
  have c7 : W.cell? ⟨w.heap.size, 7, none⟩ = some (.slice AA t.args.length ac) := by rw [← hW]; exact (Blk.new w 69 #[.int .i64 t.k, .int .i64 t.n, .int .i64 t.i, .int .u64 t.b, .string ⟨t.t.toArray⟩, vv, .slice KA t.keys.length kc, .slice AA t.args.length ac]).cell 7
  unfold BoxT at hW
  unfold tmVals
  obtain ⟨R, hR⟩ : ∃ R, formed L t = R := ⟨_, rfl⟩
  rw [hR]
  rw [formed_12 hk] at hR
  have q1 := b_false (show t.k ≠ 1 by omega)
  have q2 := b_false (show t.k ≠ 2 by omega)
  have q3 := b_false (show t.k ≠ 3 by omega)
  have q4 := b_false (show t.k ≠ 4 by omega)
  have q5 := b_false (show t.k ≠ 5 by omega)
  have q6 := b_false (show t.k ≠ 6 by omega)
  have q7 := b_false (show t.k ≠ 7 by omega)
  have q8 := b_false (show t.k ≠ 8 by omega)
  have q9 := b_false (show t.k ≠ 9 by omega)
  have q10 := b_false (show t.k ≠ 10 by omega)
  have q14 := b_false (show t.k ≠ 14 by omega)
  have q11 := b_false (show t.k ≠ 11 by omega)
  have q12 := b_true (show t.k = 12 by omega)
  clear _hN hT _hA hbw hk
  generalize t.args.length = na at *
  generalize t.keys.all keyOk = ko at *
  generalize t.keys.length = nk at *
  by_cases h1 : na = nk + 1
  · have r1 := b_true (show (na : Int) = (nk : Int) + 1 by omega)
    rw [decide_eq_true (.inl h1), Bool.true_and] at hR
    cases ko
    · obtain rfl : R = false := hR.symm
      clear hR h1
      go_enter Tryz.func83, Tryz.ntmps83
      go_wp2_with (go_at_call 65; ((with_reducible refine (HC.out).mono ?_); rintro e w' ⟨rfl, hb⟩; have HB2 := Lib.hid (HB.out.trans (hb.mono HB.out.size)); clear hb))
      go_ret
      exact ⟨rfl, HB2.out⟩
    · obtain rfl : R = true := hR.symm
      clear hR h1
      go_enter Tryz.func83, Tryz.ntmps83
      go_wp2_with (go_at_call 65; ((with_reducible refine (HC.out).mono ?_); rintro e w' ⟨rfl, hb⟩; have HB2 := Lib.hid (HB.out.trans (hb.mono HB.out.size)); clear hb))
      go_ret
      exact ⟨rfl, HB2.out⟩
  · have r1 := b_false (show (na : Int) ≠ (nk : Int) + 1 by omega)
    by_cases h3 : na = nk + 2
    · have r2 := b_true (show (na : Int) = (nk : Int) + 2 by omega)
      rw [decide_eq_true (.inr h3), Bool.true_and] at hR
      clear h3
      cases ko
      · obtain rfl : R = false := hR.symm
        clear hR h1
        go_enter Tryz.func83, Tryz.ntmps83
        go_wp2_with (go_at_call 65; ((with_reducible refine (HC.out).mono ?_); rintro e w' ⟨rfl, hb⟩; have HB2 := Lib.hid (HB.out.trans (hb.mono HB.out.size)); clear hb))
        go_ret
        exact ⟨rfl, HB2.out⟩
      · obtain rfl : R = true := hR.symm
        clear hR h1
        go_enter Tryz.func83, Tryz.ntmps83
        go_wp2_with (go_at_call 65; ((with_reducible refine (HC.out).mono ?_); rintro e w' ⟨rfl, hb⟩; have HB2 := Lib.hid (HB.out.trans (hb.mono HB.out.size)); clear hb))
        go_ret
        exact ⟨rfl, HB2.out⟩
    · have r2 := b_false (show (na : Int) ≠ (nk : Int) + 2 by omega)
      rw [decide_eq_false (by rintro (h | h); exact h1 h; exact h3 h), Bool.false_and] at hR
      subst hR
      clear h1 h3
      go_enter Tryz.func83, Tryz.ntmps83
      go_wp2_with (go_at_call 65; ((with_reducible refine (HC.out).mono ?_); rintro e w' ⟨rfl, hb⟩; have HB2 := Lib.hid (HB.out.trans (hb.mono HB.out.size)); clear hb))
      go_ret
      exact ⟨rfl, HB.out⟩
set_option maxRecDepth 100000 in
set_option maxHeartbeats 2000000 in
theorem lformed_13 (L : List Tm) (t : Tm) (vl vv kv av : Value) (w : World) (_hN : NV w w.heap.size vl L) (hT : TV w w.heap.size t vv kv av) (_hA : ∀ a ∈ t.args, 0 ≤ a ∧ a < (L.length : Int)) (hk : t.k = 13) :
    Calls Tryz.prog 83 #[vl, .agg (tmVals t vv kv av).toArray] w fun e w' => e = .returned (.bool (formed L t)) ∧ Below w.heap.size w w' := by
  obtain ⟨KA, kc, rfl, hk1, hk2⟩ := hT.k.len
  obtain ⟨AA, ac, rfl, ha1, ha2⟩ := hT.a.len
  have lk := hT.lk
  have la := hT.la
  obtain ⟨W, hW⟩ : ∃ W, w.alloc (BoxT t vv (.slice KA t.keys.length kc) (.slice AA t.args.length ac)) = W := ⟨_, rfl⟩
  have hbw : Below w.heap.size w W := by rw [← hW]; exact (Below.refl _ _).alloc (Nat.le_refl _) _
  have HB := Lib.hid hbw
  have c0 : W.cell? ⟨w.heap.size, 0, none⟩ = some (.int .i64 t.k) := by rw [← hW]; exact (Blk.new w 69 #[.int .i64 t.k, .int .i64 t.n, .int .i64 t.i, .int .u64 t.b, .string ⟨t.t.toArray⟩, vv, .slice KA t.keys.length kc, .slice AA t.args.length ac]).cell 0
  have c7 : W.cell? ⟨w.heap.size, 7, none⟩ = some (.slice AA t.args.length ac) := by rw [← hW]; exact (Blk.new w 69 #[.int .i64 t.k, .int .i64 t.n, .int .i64 t.i, .int .u64 t.b, .string ⟨t.t.toArray⟩, vv, .slice KA t.keys.length kc, .slice AA t.args.length ac]).cell 7
  unfold BoxT at hW
  unfold tmVals
  obtain ⟨R, hR⟩ : ∃ R, formed L t = R := ⟨_, rfl⟩
  rw [hR]
  rw [formed_13 hk] at hR
  have q1 := b_false (show t.k ≠ 1 by omega)
  have q2 := b_false (show t.k ≠ 2 by omega)
  have q3 := b_false (show t.k ≠ 3 by omega)
  have q4 := b_false (show t.k ≠ 4 by omega)
  have q5 := b_false (show t.k ≠ 5 by omega)
  have q6 := b_false (show t.k ≠ 6 by omega)
  have q7 := b_false (show t.k ≠ 7 by omega)
  have q8 := b_false (show t.k ≠ 8 by omega)
  have q9 := b_false (show t.k ≠ 9 by omega)
  have q10 := b_false (show t.k ≠ 10 by omega)
  have q14 := b_false (show t.k ≠ 14 by omega)
  have q11 := b_false (show t.k ≠ 11 by omega)
  have q12 := b_false (show t.k ≠ 12 by omega)
  have q13 := b_true (show t.k = 13 by omega)
  clear _hN hT _hA hbw hk
  by_cases h1 : t.args.length = 1
  · have r1 := b_true (show (t.args.length : Int) = 1 by omega)
    rw [decide_eq_true h1] at hR
    subst hR
    clear h1
    go_enter Tryz.func83, Tryz.ntmps83
    go_wp2_with fail
    go_ret
    exact ⟨rfl, HB.out⟩
  · have r1 := b_false (show (t.args.length : Int) ≠ 1 by omega)
    rw [decide_eq_false h1] at hR
    subst hR
    clear h1
    go_enter Tryz.func83, Tryz.ntmps83
    go_wp2_with fail
    go_ret
    exact ⟨rfl, HB.out⟩
set_option maxRecDepth 100000 in
set_option maxHeartbeats 2000000 in
theorem lformed_no (L : List Tm) (t : Tm) (vl vv kv av : Value) (w : World) (_hN : NV w w.heap.size vl L) (hT : TV w w.heap.size t vv kv av) (_hA : ∀ a ∈ t.args, 0 ≤ a ∧ a < (L.length : Int)) (hk : t.k < 1 ∨ 14 < t.k) :
    Calls Tryz.prog 83 #[vl, .agg (tmVals t vv kv av).toArray] w fun e w' => e = .returned (.bool (formed L t)) ∧ Below w.heap.size w w' := by
  obtain ⟨KA, kc, rfl, hk1, hk2⟩ := hT.k.len
  obtain ⟨AA, ac, rfl, ha1, ha2⟩ := hT.a.len
  have lk := hT.lk
  have la := hT.la
  obtain ⟨W, hW⟩ : ∃ W, w.alloc (BoxT t vv (.slice KA t.keys.length kc) (.slice AA t.args.length ac)) = W := ⟨_, rfl⟩
  have hbw : Below w.heap.size w W := by rw [← hW]; exact (Below.refl _ _).alloc (Nat.le_refl _) _
  have HB := Lib.hid hbw
  have c0 : W.cell? ⟨w.heap.size, 0, none⟩ = some (.int .i64 t.k) := by rw [← hW]; exact (Blk.new w 69 #[.int .i64 t.k, .int .i64 t.n, .int .i64 t.i, .int .u64 t.b, .string ⟨t.t.toArray⟩, vv, .slice KA t.keys.length kc, .slice AA t.args.length ac]).cell 0
  have c7 : W.cell? ⟨w.heap.size, 7, none⟩ = some (.slice AA t.args.length ac) := by rw [← hW]; exact (Blk.new w 69 #[.int .i64 t.k, .int .i64 t.n, .int .i64 t.i, .int .u64 t.b, .string ⟨t.t.toArray⟩, vv, .slice KA t.keys.length kc, .slice AA t.args.length ac]).cell 7
  unfold BoxT at hW
  unfold tmVals
  obtain ⟨R, hR⟩ : ∃ R, formed L t = R := ⟨_, rfl⟩
  rw [hR]
  rw [formed_no hk] at hR
  have q1 := b_false (show t.k ≠ 1 by omega)
  have q2 := b_false (show t.k ≠ 2 by omega)
  have q3 := b_false (show t.k ≠ 3 by omega)
  have q4 := b_false (show t.k ≠ 4 by omega)
  have q5 := b_false (show t.k ≠ 5 by omega)
  have q6 := b_false (show t.k ≠ 6 by omega)
  have q7 := b_false (show t.k ≠ 7 by omega)
  have q8 := b_false (show t.k ≠ 8 by omega)
  have q9 := b_false (show t.k ≠ 9 by omega)
  have q10 := b_false (show t.k ≠ 10 by omega)
  have q14 := b_false (show t.k ≠ 14 by omega)
  have q11 := b_false (show t.k ≠ 11 by omega)
  have q12 := b_false (show t.k ≠ 12 by omega)
  have q13 := b_false (show t.k ≠ 13 by omega)
  clear _hN hT _hA hbw hk
  by_cases h1 : t.k = 15
  · have r1 := b_true h1
    rw [decide_eq_true h1] at hR
    subst hR
    clear h1
    go_enter Tryz.func83, Tryz.ntmps83
    go_wp2_with fail
    go_ret
    exact ⟨rfl, HB.out⟩
  · have r1 := b_false h1
    rw [decide_eq_false h1] at hR
    subst hR
    clear h1
    go_enter Tryz.func83, Tryz.ntmps83
    go_wp2_with fail
    go_ret
    exact ⟨rfl, HB.out⟩
theorem lformed_any (L : List Tm) (t : Tm) (vl vv kv av : Value) (w : World) (hN : NV w w.heap.size vl L) (hT : TV w w.heap.size t vv kv av) (hA : ∀ a ∈ t.args, 0 ≤ a ∧ a < (L.length : Int)) :
    Calls Tryz.prog 83 #[vl, .agg (tmVals t vv kv av).toArray] w fun e w' => e = .returned (.bool (formed L t)) ∧ Below w.heap.size w w' := by
  rcases (by omega : (t.k < 1 ∨ 14 < t.k) ∨ t.k = 1 ∨ t.k = 2 ∨ t.k = 3 ∨ t.k = 4 ∨ t.k = 5 ∨ t.k = 6 ∨ t.k = 7 ∨ t.k = 8 ∨ t.k = 9 ∨ t.k = 10 ∨ t.k = 11 ∨ t.k = 12 ∨ t.k = 13 ∨ t.k = 14) with h | h | h | h | h | h | h | h | h | h | h | h | h | h | h
  · exact lformed_no L t vl vv kv av w hN hT hA h
  · exact lformed_1 L t vl vv kv av w hN hT hA h
  · exact lformed_2 L t vl vv kv av w hN hT hA h
  · exact lformed_3 L t vl vv kv av w hN hT hA h
  · exact lformed_4 L t vl vv kv av w hN hT hA h
  · exact lformed_5 L t vl vv kv av w hN hT hA h
  · exact lformed_678_6 L t vl vv kv av w hN hT hA h
  · exact lformed_678_7 L t vl vv kv av w hN hT hA h
  · exact lformed_678_8 L t vl vv kv av w hN hT hA h
  · exact lformed_9 L t vl vv kv av w hN hT hA h
  · exact lformed_1014_10 L t vl vv kv av w hN hT hA h
  · exact lformed_11 L t vl vv kv av w hN hT hA h
  · exact lformed_12 L t vl vv kv av w hN hT hA h
  · exact lformed_13 L t vl vv kv av w hN hT hA h
  · exact lformed_1014_14 L t vl vv kv av w hN hT hA h
end Go.Proofs.YtikkmalhdidhaaaGreatDoor
