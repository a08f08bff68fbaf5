/- Close: the converter's move of a program that is done: till its nodes are put. -/
import Derived.Test.YtjhdlnllhjffkaaGreatDoorCloMl
namespace Go.Proofs.YtjhdlnllhjffkaaGreatDoor
open Go.RowKit LamM CpsM CloM Go.Maps

/-- The program: a number, and its end. -/
def lnC (LA : Nat) : Array Value := #[.int .i64 2, .int .i64 0, .int .i64 0, .int .i64 0, .int .u64 0, .string ⟨#[]⟩, nilV, nilV, nilV, .int .i64 13, .int .i64 0, .int .i64 0, .int .i64 0, .int .u64 0, .string ⟨#[]⟩, nilV, nilV, .slice (some ⟨LA, 0, none⟩) 1 1]
/-- A row of one: where it lies, what it holds. -/
theorem own_outC {w : World} {base : Nat} {e : TypeId} {v u : Value} (h : w.ownsRow base e 1 v (0 + 1) ([] ++ [u])) : ∃ og oc, v = .slice (some ⟨og, 0, none⟩) 1 oc ∧ 1 ≤ oc ∧ oc ≤ maxLen ∧ w.cell? ⟨og, 0, none⟩ = some u ∧ base ≤ og ∧ ∃ cs, Blk w og e cs := by
  rcases h.2 with ⟨_, h0⟩ | ⟨g, cap, cur, rfl, hb, h2, h3, h4, h5⟩
  · cases h0
  · have := h.cells (g := g) rfl 0 u rfl
    rw [show (⟨g, 0, none⟩ : Addr).add 0 = ⟨g, 0, none⟩ from rfl] at this
    exact ⟨g, cap, rfl, h3, h4, this, hb, cur, h2⟩
theorem own_ne_cell {w : World} {base size n N : Nat} {e : TypeId} {v u u2 : Value} {xs : List Value} (h : w.ownsRow base e size v n xs) (hx : xs[0]? = some u) (hN : w.cell? ⟨N, 0, none⟩ = some u2) (hne : u ≠ u2) : v.ownBlock ≠ some N := by
  intro hb
  rcases hh : h.2 with ⟨rfl, _⟩ | ⟨g, cap, cur, rfl, _⟩
  · cases hb
  · have e1 : g = N := Option.some.inj hb
    subst e1
    have := h.cells (g := g) rfl 0 u hx
    rw [show (⟨g, 0, none⟩ : Addr).add 0 = ⟨g, 0, none⟩ from rfl, hN] at this
    exact hne (Option.some.inj this).symm
theorem MkS.one {C P0 N : Nat} {lv pv fuv mv : Value} {v s : Int} {nds : List Nd9} {w w2 : World} (h : MkS C P0 lv pv fuv mv v s nds w) (ho : Only [N] w w2) (hC : N ≠ C) (hr : ∀ ov, w.ownsRow P0 43 9 ov nds.length (progC nds) → ov.ownBlock ≠ some N) : MkS C P0 lv pv fuv mv v s nds w2 := by
  obtain ⟨⟨ov, h1, h2⟩, h3⟩ := h
  refine ⟨⟨ov, h1.only ho (by simp; omega), ownsRow_only h2 ho (fun k hk hm => ?_)⟩, Nat.le_trans h3 ho.size⟩
  rw [List.mem_singleton.1 hm] at hk
  exact hr ov h2 hk
theorem MapI.below {w w2 : World} {M n B : Nat} {D : DataW Value} (h : MapI w M n D) (hb : Below B w w2) (hM : M < B) : MapI w2 M n D := by
  obtain ⟨es, clock, hk, F, hz, hD⟩ := h
  exact ⟨es, clock, (hb.block M hM).trans hk, F, hz, hD⟩
/-- What a move has done. -/
def MvPost (C P0 LB M : Nat) (pv fuv : Value) (v s : Int) (w : World) (e : Ending) (w' : World) : Prop :=
  e = .returned (.int .i64 1) ∧ (∃ ga ca, MkS C P0 (.slice (some ⟨LB, 0, none⟩) 2 2) pv fuv (.map (some M)) v s [(numFl, nilV, nilV, nilV), (endFl, nilV, nilV, .slice (some ⟨ga, 0, none⟩) 1 ca)] w' ∧ w'.cell? ⟨ga, 0, none⟩ = some (.int .i64 0) ∧ w.heap.size ≤ ga ∧ 1 ≤ ca ∧ ca ≤ maxLen) ∧
    (∀ B, B ≤ C → B ≤ P0 → B ≤ M → B ≤ w.heap.size → Below B w w') ∧ ∀ g tt cs, Blk w g tt cs → tt ≠ 43 → tt ≠ 102 → Blk w' g tt cs
set_option maxRecDepth 100000 in
set_option maxHeartbeats 8000000 in
theorem mmove_st {C P0 LB LA M : Nat} {pv fuv : Value} {v s : Int} {w : World} (h : MkS C P0 (.slice (some ⟨LB, 0, none⟩) 2 2) pv fuv (.map (some M)) v s [] w) (hL : Blk w LB 43 (lnC LA)) (hA : Blk w LA 3 #[.int .i64 0]) (hM : MapI w M 0 (.map [])) (hMC : M < C) (hMP : M < P0) :
    Calls Tryz.prog 51 #[runV C, .int .i64 1] w (MvPost C P0 LB M pv fuv v s w) := by
  obtain ⟨i0, hi0, hz0, hz1, hz2⟩ := info_parts infoI
  have HS := Lib.hid h
  obtain ⟨⟨ov, hC, hO⟩, hP⟩ := h
  have HC := Lib.hid hC
  have HL := Lib.hid hL
  have HA := Lib.hid hA
  have HM := Lib.hid hM
  have HNX := Lib.hid (show LB < w.heap.size from hL.lt)
  have hlk := look_none hM
  have c4 : w.cell? ⟨C, 4, none⟩ = some (.map (some M)) := hC.cell 4
  have c0 : w.cell? ⟨C, 0, none⟩ = some (.slice (some ⟨LB, 0, none⟩) 2 2) := hC.cell 0
  have d0 : w.cell? ⟨LB, 9, none⟩ = some (.int .i64 13) := hL.cell 9
  have d1 : w.cell? ⟨LB, 10, none⟩ = some (.int .i64 0) := hL.cell 10
  have d2 : w.cell? ⟨LB, 11, none⟩ = some (.int .i64 0) := hL.cell 11
  have d3 : w.cell? ⟨LB, 12, none⟩ = some (.int .i64 0) := hL.cell 12
  have d4 : w.cell? ⟨LB, 13, none⟩ = some (.int .u64 0) := hL.cell 13
  have d5 : w.cell? ⟨LB, 14, none⟩ = some (.string ⟨#[]⟩) := hL.cell 14
  have d6 : w.cell? ⟨LB, 15, none⟩ = some (nilV) := hL.cell 15
  have d7 : w.cell? ⟨LB, 16, none⟩ = some (nilV) := hL.cell 16
  have d8 : w.cell? ⟨LB, 17, none⟩ = some (.slice (some ⟨LA, 0, none⟩) 1 1) := hL.cell 17
  clear hC hO hP hL hA hM
  go_enter Tryz.func51, Tryz.ntmps51
  go_upto_region 6 with fail
  obtain ⟨W1, hW1⟩ : ∃ W1, w.alloc (.cells #[.int .i64 13, .int .i64 0, .int .i64 0, .int .i64 0, .int .u64 0, .string ⟨#[]⟩, nilV, nilV, .slice (some ⟨LA, 0, none⟩) 1 1] 43) = W1 := ⟨_, rfl⟩
  obtain ⟨T, hT⟩ : ∃ T, w.heap.size = T := ⟨_, rfl⟩
  have HO1 := Lib.hid (show Only [] w W1 by rw [← hW1]; exact (Only.refl _ _).alloc _)
  have HT := Lib.hid (show Blk W1 T 43 #[.int .i64 13, .int .i64 0, .int .i64 0, .int .i64 0, .int .u64 0, .string ⟨#[]⟩, nilV, nilV, .slice (some ⟨LA, 0, none⟩) 1 1] by rw [← hW1]; exact blk_atC hT _ _)
  rw [hW1]
  try rw [hT]
  clear c4 c0 hlk d0 d1 d2 d3 d4 d5 d6 d7 d8
  have d0 : W1.cell? ⟨T, 0, none⟩ = some (.int .i64 13) := HT.out.cell 0
  have d1 : W1.cell? ⟨T, 1, none⟩ = some (.int .i64 0) := HT.out.cell 1
  have d2 : W1.cell? ⟨T, 2, none⟩ = some (.int .i64 0) := HT.out.cell 2
  have d3 : W1.cell? ⟨T, 3, none⟩ = some (.int .i64 0) := HT.out.cell 3
  have d4 : W1.cell? ⟨T, 4, none⟩ = some (.int .u64 0) := HT.out.cell 4
  have d5 : W1.cell? ⟨T, 5, none⟩ = some (.string ⟨#[]⟩) := HT.out.cell 5
  have d6 : W1.cell? ⟨T, 6, none⟩ = some (nilV) := HT.out.cell 6
  have d7 : W1.cell? ⟨T, 7, none⟩ = some (nilV) := HT.out.cell 7
  have d8 : W1.cell? ⟨T, 8, none⟩ = some (.slice (some ⟨LA, 0, none⟩) 1 1) := HT.out.cell 8
  clear hW1
  go_upto_region 9 with fail
  obtain ⟨W2, hW2⟩ : ∃ W2, W1.alloc (.cells #[.int .i64 13, .int .i64 0, .int .i64 0, .int .i64 0, .int .u64 0, .string ⟨#[]⟩, nilV, nilV, .slice (some ⟨LA, 0, none⟩) 1 1] 43) = W2 := ⟨_, rfl⟩
  obtain ⟨N, hN⟩ : ∃ N, W1.heap.size = N := ⟨_, rfl⟩
  have HO2 := Lib.hid (show Only [] w W2 by rw [← hW2]; exact HO1.out.alloc _)
  have HB2 := Lib.hid (show Blk W2 N 43 #[.int .i64 13, .int .i64 0, .int .i64 0, .int .i64 0, .int .u64 0, .string ⟨#[]⟩, nilV, nilV, .slice (some ⟨LA, 0, none⟩) 1 1] by rw [← hW2]; exact blk_atC hN _ _)
  have HT2 := Lib.hid (show Blk W2 T 43 #[.int .i64 13, .int .i64 0, .int .i64 0, .int .i64 0, .int .u64 0, .string ⟨#[]⟩, nilV, nilV, .slice (some ⟨LA, 0, none⟩) 1 1] by rw [← hW2]; exact HT.out.alloc _)
  rw [hW2]
  try rw [hN]
  clear d0 d1 d2 d3 d4 d5 d6 d7 d8
  have HNw := Lib.hid (show w.heap.size ≤ N by rw [← hN]; exact HO1.out.size)
  have HTN := Lib.hid (show T < N by rw [← hN]; exact HT.out.lt)
  clear hW2 hN
  have d7 : W2.cell? ⟨T, 7, none⟩ = some (nilV) := HT2.out.cell 7
  have s1 := HB2.out.set_ 6 nilV
  have s2 := s1.set_ 7 nilV
  have s3 := s2.set_ 8 nilV
  have c6 : W2.cell? ⟨N, 6, none⟩ = some nilV := HB2.out.cell 6
  have f6 := HB2.out.frozen 6
  have c7 : (W2.setCell ⟨N, 6, none⟩ nilV).cell? ⟨N, 7, none⟩ = some nilV := s1.cell 7
  have f7 := s1.frozen 7
  have c8 : ((W2.setCell ⟨N, 6, none⟩ nilV).setCell ⟨N, 7, none⟩ nilV).cell? ⟨N, 8, none⟩ = some (.slice (some ⟨LA, 0, none⟩) 1 1) := s2.cell 8
  have f8 := s2.frozen 8
  have HS3 := Lib.hid s3
  clear s1 s2 s3
  go_upto_region 10 with (go_at_call 78; ((with_reducible refine (clone_nil _).mono ?_); rintro e w' ⟨rfl, rfl⟩))
  obtain ⟨W3, hW3⟩ : ∃ W3, ((W2.setCell ⟨N, 6, none⟩ (.slice none 0 0)).setCell ⟨N, 7, none⟩ (.slice none 0 0)).setCell ⟨N, 8, none⟩ (.slice none 0 0) = W3 := ⟨_, rfl⟩
  have HO3 := Lib.hid (show Only [] w W3 by
    rw [← hW3]
    have hz := HO2.out.size
    exact ((HO2.out.setCell (.inr HNw.out) _).setCell (.inr HNw.out) _).setCell (.inr HNw.out) _)
  have HB3 := Lib.hid (show Blk W3 N 43 #[.int .i64 13, .int .i64 0, .int .i64 0, .int .i64 0, .int .u64 0, .string ⟨#[]⟩, nilV, nilV, nilV] by rw [← hW3]; exact HS3.out)
  rw [hW3]
  clear d7 c6 f6 c7 f7 c8 f8
  have HO23 := Lib.hid (show Only [N] W2 W3 by rw [← hW3]; exact (((Only.refl [N] W2).one).one).one)
  have t8 : W3.cell? ⟨T, 8, none⟩ = some (.slice (some ⟨LA, 0, none⟩) 1 1) := only_cell HO23.out (by have := HTN.out; simp; omega) (HT2.out.cell 8)
  clear hW3
  have a0 : W3.cell? ⟨LA, 0, none⟩ = some (.int .i64 0) := (HA.out.only HO3.out (by simp)).cell 0
  have c0 : W3.cell? ⟨C, 0, none⟩ = some (.slice (some ⟨LB, 0, none⟩) 2 2) := (HC.out.only HO3.out (by simp)).cell 0
  have HL3 := Lib.hid (HL.out.only HO3.out (by simp))
  have d0 : W3.cell? ⟨LB, 0, none⟩ = some (.int .i64 2) := HL3.out.cell 0
  have d1 : W3.cell? ⟨LB, 1, none⟩ = some (.int .i64 0) := HL3.out.cell 1
  have d2 : W3.cell? ⟨LB, 2, none⟩ = some (.int .i64 0) := HL3.out.cell 2
  have d3 : W3.cell? ⟨LB, 3, none⟩ = some (.int .i64 0) := HL3.out.cell 3
  have d4 : W3.cell? ⟨LB, 4, none⟩ = some (.int .u64 0) := HL3.out.cell 4
  have d5 : W3.cell? ⟨LB, 5, none⟩ = some (.string ⟨#[]⟩) := HL3.out.cell 5
  have d6 : W3.cell? ⟨LB, 6, none⟩ = some (nilV) := HL3.out.cell 6
  have d7 : W3.cell? ⟨LB, 7, none⟩ = some (nilV) := HL3.out.cell 7
  have d8 : W3.cell? ⟨LB, 8, none⟩ = some (nilV) := HL3.out.cell 8
  go_wp2_with fail
  refine wp_loop_rounds 2 ?_
  rw [rounds_succ]
  go_upto_region 15 with (go_at_call 29; ((with_reducible refine (fatom2 _).mono ?_); rintro e w' ⟨rfl, rfl⟩))
  obtain ⟨W4, hW4⟩ : ∃ W4, W3.alloc (.cells #[.int .i64 2, .int .i64 0, .int .i64 0, .int .i64 0, .int .u64 0, .string ⟨#[]⟩, nilV, nilV, nilV] 43) = W4 := ⟨_, rfl⟩
  obtain ⟨X, hX⟩ : ∃ X, W3.heap.size = X := ⟨_, rfl⟩
  have HO4 := Lib.hid (show Only [] w W4 by rw [← hW4]; exact HO3.out.alloc _)
  have HX4 := Lib.hid (show Blk W4 X 43 #[.int .i64 2, .int .i64 0, .int .i64 0, .int .i64 0, .int .u64 0, .string ⟨#[]⟩, nilV, nilV, nilV] by rw [← hW4]; exact blk_atC hX _ _)
  have HB4 := Lib.hid (show Blk W4 N 43 #[.int .i64 13, .int .i64 0, .int .i64 0, .int .i64 0, .int .u64 0, .string ⟨#[]⟩, nilV, nilV, nilV] by rw [← hW4]; exact HB3.out.alloc _)
  have HNX2 := Lib.hid (show N < X by rw [← hX]; exact HB3.out.lt)
  have HNx := Lib.hid (show w.heap.size ≤ X by rw [← hX]; exact HO3.out.size)
  rw [hW4]
  try rw [hX]
  clear d0 d1 d2 d3 d4 d5 d6 d7 d8 a0 c0 t8 hW4 hX
  have s1 := HX4.out.set_ 6 nilV
  have s2 := s1.set_ 7 nilV
  have s3 := s2.set_ 8 nilV
  have c6 : W4.cell? ⟨X, 6, none⟩ = some nilV := HX4.out.cell 6
  have f6 := HX4.out.frozen 6
  have c7 : (W4.setCell ⟨X, 6, none⟩ nilV).cell? ⟨X, 7, none⟩ = some nilV := s1.cell 7
  have f7 := s1.frozen 7
  have c8 : ((W4.setCell ⟨X, 6, none⟩ nilV).setCell ⟨X, 7, none⟩ nilV).cell? ⟨X, 8, none⟩ = some nilV := s2.cell 8
  have f8 := s2.frozen 8
  have HS5 := Lib.hid s3
  clear s1 s2 s3
  go_upto_region 16 with fail
  obtain ⟨W5, hW5⟩ : ∃ W5, ((W4.setCell ⟨X, 6, none⟩ (.slice none 0 0)).setCell ⟨X, 7, none⟩ (.slice none 0 0)).setCell ⟨X, 8, none⟩ (.slice none 0 0) = W5 := ⟨_, rfl⟩
  have HO5 := Lib.hid (show Only [] w W5 by
    rw [← hW5]
    exact ((HO4.out.setCell (.inr HNx.out) _).setCell (.inr HNx.out) _).setCell (.inr HNx.out) _)
  have HX5 := Lib.hid (show Blk W5 X 43 #[.int .i64 2, .int .i64 0, .int .i64 0, .int .i64 0, .int .u64 0, .string ⟨#[]⟩, nilV, nilV, nilV] by rw [← hW5]; exact HS5.out)
  have HB5 := Lib.hid (show Blk W5 N 43 #[.int .i64 13, .int .i64 0, .int .i64 0, .int .i64 0, .int .u64 0, .string ⟨#[]⟩, nilV, nilV, nilV] from HB4.out.only (show Only [X] W4 W5 by rw [← hW5]; exact (((Only.refl [X] W4).one).one).one) (by have := HNX2.out; simp; omega))
  rw [hW5]
  clear c6 f6 c7 f7 c8 f8 hW5
  have HP := Lib.hid (show Calls Tryz.prog 79 #[runV C, .agg #[.int .i64 2, .int .i64 0, .int .i64 0, .int .i64 0, .int .u64 0, .string ⟨#[]⟩, nilV, nilV, nilV]] W5.drew fun e w' => e = .returned (.int .i64 0) ∧ MkS C P0 (.slice (some ⟨LB, 0, none⟩) 2 2) pv fuv (.map (some M)) v s [(numFl, nilV, nilV, nilV)] w' ∧ Km C P0 W5.drew w' ∧ ∀ g tt cs, w.heap.size ≤ g → Blk W5.drew g tt cs → Blk w' g tt cs from mnode_st (w := W5.drew) HS.out HO5.out.drew (by simp) numFl nilV nilV nilV one_nil)
  have b8 : W5.drew.cell? ⟨N, 8, none⟩ = some nilV := HB5.out.drew.cell 8
  have b8n : W5.cell? ⟨N, 8, none⟩ = some nilV := HB5.out.cell 8
  have x0 : W5.drew.cell? ⟨X, 0, none⟩ = some (.int .i64 2) := HX5.out.drew.cell 0
  have x1 : W5.drew.cell? ⟨X, 1, none⟩ = some (.int .i64 0) := HX5.out.drew.cell 1
  have x2 : W5.drew.cell? ⟨X, 2, none⟩ = some (.int .i64 0) := HX5.out.drew.cell 2
  have x3 : W5.drew.cell? ⟨X, 3, none⟩ = some (.int .i64 0) := HX5.out.drew.cell 3
  have x4 : W5.drew.cell? ⟨X, 4, none⟩ = some (.int .u64 0) := HX5.out.drew.cell 4
  have x5 : W5.drew.cell? ⟨X, 5, none⟩ = some (.string ⟨#[]⟩) := HX5.out.drew.cell 5
  have x6 : W5.drew.cell? ⟨X, 6, none⟩ = some (nilV) := HX5.out.drew.cell 6
  have x7 : W5.drew.cell? ⟨X, 7, none⟩ = some (nilV) := HX5.out.drew.cell 7
  have x8 : W5.drew.cell? ⟨X, 8, none⟩ = some (nilV) := HX5.out.drew.cell 8
  go_region_law (first
    | (refine step_append_any _ rfl _ _ 31 rfl w.heap.size 3 i0 _ 1 8 undI hi0 hz0 hz1 hz2 rfl (by decide) _ 0 [] rfl (World.ownsRow_nil _ _ _ _) _ _ _ _ [_] rfl (Reads.blk' (Blk.new _ _ _) rfl) (by simp [Value.oneCell']) (by unfold maxLen; omega) (by omega) (by have := HSZ6.out; simp; omega) ?_; intro v2 w7 hown7 hgrow7 _; obtain ⟨og, oc, ho, hoc1, hoc2, hoc, hge, hob⟩ := own_outC hown7; subst ho; have HO7 := Lib.hid (((Only.refl [] w6).alloc (.cells #[.int .i64 0] 3)).grown hgrow7 (fun k hk => by cases hk)); have HB7 := Lib.hid (HB6.out.only HO7.out (by simp)); have HOC := Lib.hid (And.intro hoc1 (And.intro hoc2 (And.intro hoc (And.intro hge hob)))); have n8 : w7.cell? ⟨N, 8, none⟩ = some nilV := HB7.out.cell 8; have m8 := HB7.out.frozen 8; clear hown7 hgrow7 hoc1 hoc2 hoc hge hob)
    | (go_simp; go_at_call 79; (with_reducible refine (HP.out).mono ?_); rintro e w6 ⟨rfl, hs6, hk6, hb6⟩; have HS6 := Lib.hid hs6; have HK6 := Lib.hid hk6; have HSZ6 := Lib.hid (show w.heap.size ≤ w6.heap.size from Nat.le_trans HO5.out.size hk6.siz); have HB6 := Lib.hid (hb6 _ _ _ HNw.out HB5.out.drew); have b6 : w6.cell? ⟨N, 8, none⟩ = some nilV := HB6.out.cell 8; have b6a : ∀ o, (w6.alloc o).cell? ⟨N, 8, none⟩ = some nilV := fun o => (HB6.out.alloc o).cell 8; clear hs6 hk6 hb6))
  all_goals
    obtain ⟨W8, hW8⟩ : ∃ W8, w7.setCell ⟨N, 8, none⟩ (.slice (some ⟨og, 0, none⟩) 1 oc) = W8 := ⟨_, rfl⟩
    have HO8 := Lib.hid (show Only [N] w7 W8 by rw [← hW8]; exact (Only.refl [N] w7).one)
    have HB8 := Lib.hid (show Blk W8 N 43 #[.int .i64 13, .int .i64 0, .int .i64 0, .int .i64 0, .int .u64 0, .string ⟨#[]⟩, nilV, nilV, .slice (some ⟨og, 0, none⟩) 1 oc] by rw [← hW8]; exact HB7.out.set_ 8 (.slice (some ⟨og, 0, none⟩) 1 oc))
    have HS7 := Lib.hid (HS6.out.only HO7.out)
    have HNC := Lib.hid (show N ≠ C from fun e => by have := HNw.out; have := HS.out.lt; omega)
    have HS8 := Lib.hid (HS7.out.one HO8.out HNC.out (fun ov2 h2 => own_ne_cell h2 (u := .int .i64 2) rfl (HB7.out.cell 0) (show Value.int .i64 2 ≠ .int .i64 13 from fun e => by injection e with _ h; exact absurd h (by decide))))
    have HK8 := Lib.hid (show Km C P0 w W8 from (Km.none HO5.out.drew).trans (HK6.out.trans ((Km.none HO7.out).trans (Km.only HO8.out (fun k hk => by
      obtain rfl := List.mem_singleton.1 hk
      exact ⟨.inr (Nat.le_trans HS.out.p0 HNw.out), fun tt cs hb => .inl (by have := hb.symm.trans HB7.out; injection this with this; injection this)⟩)))))
    have HG8 := Lib.hid (show W8.cell? ⟨og, 0, none⟩ = some (.int .i64 0) from only_cell HO8.out (by simp; exact fun e => by obtain ⟨cs, hcs⟩ := HOC.out.2.2.2.2; exact hcs.ne_ HB7.out (by decide) e) HOC.out.2.2.1)
    have HGB8 := Lib.hid (show ∃ cs, Blk W8 og 3 cs by obtain ⟨cs, hcs⟩ := HOC.out.2.2.2.2; exact ⟨cs, hcs.only HO8.out (by simp; exact fun e => hcs.ne_ HB7.out (by decide) e)⟩)
    rw [hW8]
    clear n8 m8 b6 b6a b8 b8n x0 x1 x2 x3 x4 x5 x6 x7 x8 hW8
    have HP9 := Lib.hid (show Calls Tryz.prog 79 #[runV C, .agg #[.int .i64 13, .int .i64 0, .int .i64 0, .int .i64 0, .int .u64 0, .string ⟨#[]⟩, nilV, nilV, .slice (some ⟨og, 0, none⟩) 1 oc]] W8 fun e w' => e = .returned (.int .i64 1) ∧ MkS C P0 (.slice (some ⟨LB, 0, none⟩) 2 2) pv fuv (.map (some M)) v s [(numFl, nilV, nilV, nilV), (endFl, nilV, nilV, .slice (some ⟨og, 0, none⟩) 1 oc)] w' ∧ Km C P0 W8 w' ∧ ∀ g tt cs, W8.heap.size ≤ g → Blk W8 g tt cs → Blk w' g tt cs from mnode_st (w := W8) HS8.out (Only.refl _ _) (by simp) endFl nilV nilV (.slice (some ⟨og, 0, none⟩) 1 oc) (by intro u hu; simp only [List.mem_cons, List.not_mem_nil, or_false] at hu; rcases hu with rfl | rfl | rfl <;> rfl))
    have y0 : W8.cell? ⟨N, 0, none⟩ = some (.int .i64 13) := HB8.out.cell 0
    have y1 : W8.cell? ⟨N, 1, none⟩ = some (.int .i64 0) := HB8.out.cell 1
    have y2 : W8.cell? ⟨N, 2, none⟩ = some (.int .i64 0) := HB8.out.cell 2
    have y3 : W8.cell? ⟨N, 3, none⟩ = some (.int .i64 0) := HB8.out.cell 3
    have y4 : W8.cell? ⟨N, 4, none⟩ = some (.int .u64 0) := HB8.out.cell 4
    have y5 : W8.cell? ⟨N, 5, none⟩ = some (.string ⟨#[]⟩) := HB8.out.cell 5
    have y6 : W8.cell? ⟨N, 6, none⟩ = some (nilV) := HB8.out.cell 6
    have y7 : W8.cell? ⟨N, 7, none⟩ = some (nilV) := HB8.out.cell 7
    have y8 : W8.cell? ⟨N, 8, none⟩ = some (.slice (some ⟨og, 0, none⟩) 1 oc) := HB8.out.cell 8
    go_upto_region 11 with fail
    rw [rounds_succ]
    go_upto_region 20 with (go_at_call 79; ((with_reducible refine (HP9.out).mono ?_); rintro e w9 ⟨rfl, hs9, hk9, hb9⟩; have HS9 := Lib.hid hs9; have HK9 := Lib.hid (HK8.out.trans hk9); have HK89 := Lib.hid hk9; clear hs9 hk9 hb9))
    have c4 : w9.cell? ⟨C, 4, none⟩ = some (.map (some M)) := by obtain ⟨⟨ov9, hC9, _⟩, _⟩ := HS9.out; exact hC9.cell 4
    have HB9 := Lib.hid (HK9.out.bel (M + 1) (by omega) (by omega) HM.out.lt)
    have HM9 := Lib.hid (HM.out.below HB9.out (Nat.lt_succ_self M))
    go_wp2_with (at_mapUpdate; refine wpList_mapUpdate_own _ rfl _ _ _ 97 rfl 3 3 (int_keyed undInt) undMI (plainElem Tryz.prog 3) M 0 (.map []) rfl HM9.out (by unfold maxLen; omega) _ _ (.int .i64 1) rfl rfl (keyOf_int_mk undInt (by decide)) (.lit (.int .i64 1)) [] (plainElem_int undInt (by decide)) ?_; intro w10 _ hgrow10; have HG10 := Lib.hid hgrow10; have HO10 := Lib.hid ((Only.refl [M] w9).grown hgrow10 (fun k hk => .inl (by rw [← Option.some.inj hk]; simp))); clear hgrow10)
    go_ret
    have hMsz := HM.out.lt
    refine ⟨rfl, ⟨og, oc, HS9.out.one HO10.out (by omega) (fun ov2 h2 hb => by have := (World.ownsRow.lt h2 M hb).1; omega), ?_, HOC.out.2.2.2.1, HOC.out.1, HOC.out.2.1⟩, fun B h1 h2 h3 h4 => (HK9.out.bel B h1 h2 h4).grown HG10.out (Nat.le_trans h4 HK9.out.siz) (fun k hk => by rw [← Option.some.inj hk]; exact h3), fun gg tt cs hg h1 h2 => (HK9.out.blk gg tt cs hg h1 h2).only HO10.out (by simp; exact fun e => HM.out.ne hg e.symm)⟩
    obtain ⟨cs8, hcs8⟩ := HGB8.out
    have hcs9 := HK89.out.blk og _ _ hcs8 (by decide) (by decide)
    refine only_cell HO10.out (by simp; exact fun e => HM9.out.ne hcs9 e.symm) ?_
    have e8 := hcs8.cell 0
    have e9 := hcs9.cell 0
    rw [e9, ← e8]
    exact HG8.out
end Go.Proofs.YtjhdlnllhjffkaaGreatDoor
