/- Close: the looping program as the law builds it. Close: alive. -/
import Derived.Test.YtjhdlnllhjffkaaGreatDoorCloCv
namespace Go.Proofs.YtjhdlnllhjffkaaGreatDoor
open Go.RowKit LamM CpsM CloM Go.Maps

theorem go_NF {w : World} {g : Nat} (h : Blk w g 43 #[.int .i64 15, .int .i64 0, .int .i64 0, .int .i64 0, .int .u64 0, .string ⟨#[]⟩, nilV, nilV, nilV]) : NF w w.heap.size (.slice (some ⟨g, 0, none⟩) 1 1) loopF :=
  NF_of (w := w) (g := g) (c := 1) (l := [(goFl, nilV, nilV, nilV)]) (fun k u hk => by
    rw [h.cell k]
    rw [show (#[.int .i64 15, .int .i64 0, .int .i64 0, .int .i64 0, .int .u64 0, .string ⟨#[]⟩, nilV, nilV, nilV] : Array Value) = (progC [(goFl, nilV, nilV, nilV)]).toArray from rfl, List.getElem?_toArray]
    exact hk) h.lt (show 1 ≤ 1 from Nat.le_refl _) (show 1 ≤ 1300000000000 by decide) (fun x hx => by
    obtain rfl := List.mem_singleton.1 hx
    exact small_FV rfl (nil_IV _ _) (nil_IV _ _))
theorem one_FnV {w : World} {g : Nat} {b : Int} (h : Blk w g 33 #[.slice none 0 0, .int .i64 b]) (hb : 0 ≤ b ∧ b ≤ 10) : FnV w w.heap.size (.slice (some ⟨g, 0, none⟩) 1 1) [⟨[], b⟩] := by
  refine ⟨some ⟨g, 0, none⟩, 1, rfl, Nat.le_refl _, (show 1 ≤ 1300000000000 by decide), fun i f hf => ?_⟩
  match i, hf with
  | 0, hf =>
    obtain rfl := Option.some.inj hf
    exact ⟨_, none, 0, rfl, h.lt, nil_IV _ _, (show -9223372036854775808 ≤ b ∧ b ≤ 9223372036854775807 by omega), (show 0 ≤ 17592186044416 by decide), h.cell 0, h.cell 1⟩
  | i + 1, hf => exact absurd hf (by simp)
theorem floop_fin {r : Nat} {w W : World} {a : Act} (h0 : Blk W r 25 #[.slice (some ⟨r + 1, 0, none⟩) 1 1, .slice (some ⟨r + 1 + 1, 0, none⟩) 1 1, .int .i64 0]) (h1 : Blk W (r + 1) 43 #[.int .i64 15, .int .i64 0, .int .i64 0, .int .i64 0, .int .u64 0, .string ⟨#[]⟩, nilV, nilV, nilV])
    (h2 : Blk W (r + 1 + 1) 33 #[.slice none 0 0, .int .i64 0]) (hb : Below w.heap.size w W) (ht : a.tmps.getD 0 undef = .pointer (some ⟨r, 0, none⟩)) (hd : a.defers = []) :
    bodyPost Tryz.prog Tryz.f22 (fun e w' => ∃ g f, e = .returned (.agg #[.slice (some ⟨g, 0, none⟩) 1 1, .slice (some ⟨f, 0, none⟩) 1 1, .int .i64 0]) ∧ NF w' w'.heap.size (.slice (some ⟨g, 0, none⟩) 1 1) loopF ∧ FnV w' w'.heap.size (.slice (some ⟨f, 0, none⟩) 1 1) loopFs ∧ Below w.heap.size w w') .ret a W := by
  have q0 : W.cell? ⟨r, 0, none⟩ = some (.slice (some ⟨r + 1, 0, none⟩) 1 1) := h0.cell 0
  have q1 : W.cell? ⟨r, 1, none⟩ = some (.slice (some ⟨r + 1 + 1, 0, none⟩) 1 1) := h0.cell 1
  have q2 : W.cell? ⟨r, 2, none⟩ = some (.int .i64 0) := h0.cell 2
  refine bodyPost_ret (v := .agg #[.slice (some ⟨r + 1, 0, none⟩) 1 1, .slice (some ⟨r + 1 + 1, 0, none⟩) 1 1, .int .i64 0]) ?_ hd ⟨_, _, rfl, go_NF h1, one_FnV h2 (by decide), hb⟩
  have ht2 : a.tmps[0]?.getD undef = .pointer (some ⟨r, 0, none⟩) := by simpa using ht
  simp [results, Tryz.results22, go_sem, ht2, q0, q1, q2]
set_option maxRecDepth 100000 in
set_option maxHeartbeats 4000000 in
theorem floop_any (w : World) : Calls Tryz.prog 22 #[] w fun e w' => ∃ g f, e = .returned (.agg #[.slice (some ⟨g, 0, none⟩) 1 1, .slice (some ⟨f, 0, none⟩) 1 1, .int .i64 0]) ∧ NF w' w'.heap.size (.slice (some ⟨g, 0, none⟩) 1 1) loopF ∧ FnV w' w'.heap.size (.slice (some ⟨f, 0, none⟩) 1 1) loopFs ∧ Below w.heap.size w w' := by
  go_enter Tryz.func22, Tryz.ntmps22
  go_wp2_with fail
  refine floop_fin (((blk_atC rfl _ _).alloc _).alloc _) ((blk_atC (by simp) _ _).alloc _) (blk_atC (by simp) _ _) ?_ rfl rfl
  exact ((Below.refl w.heap.size w).alloc (Nat.le_refl _) _).alloc (by simp) _ |>.alloc (by simp; omega) _
end Go.Proofs.YtjhdlnllhjffkaaGreatDoor

namespace Go.Proofs.YtjhdlnllhjffkaaGreatDoor
open Go.RowKit LamM CpsM CloM Go.Maps

set_option maxRecDepth 100000 in
set_option maxHeartbeats 4000000 in
theorem falive_any (w : World) : Calls Tryz.prog 6 #[] w fun e w' => e = .returned (.bool true) ∧ Below w.heap.size w w' := by
  go_enter Tryz.func6, Tryz.ntmps6
  go_upto_region 2 with (first
    | (go_at_call 22; ((with_reducible refine (floop_any _).mono ?_); rintro e w1 ⟨g, f, rfl, hn1, hf1, hb1⟩; have HB1 := Lib.hid hb1; have HR1 := Lib.hid (show Calls Tryz.prog 21 #[.agg #[.slice (some ⟨g, 0, none⟩) 1 1, .slice (some ⟨f, 0, none⟩) 1 1, .int .i64 0], .slice none 0 0, .int .i64 100] w1 fun e w' => e = .returned (.tuple #[.agg #[.slice none 0 0, .int .i64 3, .string ⟨#[]⟩, .int .i64 100], .int .i64 0]) ∧ Below w1.heap.size w1 w' from frun_loop ⟨g, 0, none⟩ 1 ⟨f, 0, none⟩ 1 w1 hn1 hf1); clear hn1 hf1 hb1))
    | (go_at_call 21; ((with_reducible refine (HR1.out).mono ?_); rintro e w2 ⟨rfl, hb2⟩; have HB2 := Lib.hid (HB1.out.trans (hb2.mono HB1.out.size)); clear hb2)))
  obtain ⟨W3, hW⟩ : ∃ W3, w2.alloc (.cells #[.slice none 0 0, .int .i64 3, .string ⟨#[]⟩, .int .i64 100] 58) = W3 := ⟨_, rfl⟩
  have HO3 := Lib.hid (show Blk W3 w2.heap.size 58 #[.slice none 0 0, .int .i64 3, .string ⟨#[]⟩, .int .i64 100] by rw [← hW]; exact Blk.new _ _ _)
  have HB3 := Lib.hid (show Below w.heap.size w W3 by rw [← hW]; exact HB2.out.alloc HB2.out.size _)
  obtain ⟨W4, hW4⟩ : ∃ W4, (W3.alloc (.cells #[.int .i64 0] 3)).alloc (.cells #[.int .i64 2, .int .i64 0, .int .i64 0, .int .i64 0, .int .u64 0, .string ⟨#[]⟩, .slice none 0 0, .slice none 0 0, .slice none 0 0, .int .i64 13, .int .i64 0, .int .i64 0, .int .i64 0, .int .u64 0, .string ⟨#[]⟩, .slice none 0 0, .slice none 0 0, .slice (some ⟨W3.heap.size, 0, none⟩) 1 1] 43) = W4 := ⟨_, rfl⟩
  have HB4 := Lib.hid (show Below w.heap.size w W4 by rw [← hW4]; exact (HB3.out.alloc HB3.out.size _).alloc (by have := HB3.out.size; simp; omega) _)
  have HO4 := Lib.hid (show Blk W4 w2.heap.size 58 #[.slice none 0 0, .int .i64 3, .string ⟨#[]⟩, .int .i64 100] by rw [← hW4]; exact (HO3.out.alloc _).alloc _)
  have HCV := Lib.hid (fconvert_any (W3.heap.size + 1) W3.heap.size W4 (by rw [← hW4]; exact blk_atC (by simp) _ _) (by rw [← hW4]; exact (Blk.new _ _ _).alloc _))
  rw [hW]
  clear hW
  go_upto_region 3 with (go_at_call 23; ((with_reducible refine (HCV.out).mono ?_); rintro e w5 ⟨gq, cq, fq, rfl, hn5, hf5, hb5⟩; have HN5 := Lib.hid hn5; have HF5 := Lib.hid hf5; have HB5 := Lib.hid (HB4.out.trans (hb5.mono HB4.out.size)); have HO5 := Lib.hid (HO4.out.below hb5 HO4.out.lt); clear hn5 hf5 hb5))
  clear hW4
  obtain ⟨W6, hW6⟩ : ∃ W6, w5.alloc (.cells #[.slice (some ⟨gq, 0, none⟩) 2 cq, .slice (some ⟨fq, 0, none⟩) 1 1, .int .i64 0] 25) = W6 := ⟨_, rfl⟩
  have hb6 : Below w5.heap.size w5 W6 := by rw [← hW6]; exact (Below.refl _ _).alloc (Nat.le_refl _) _
  have HP6 := Lib.hid (show Blk W6 w5.heap.size 25 #[.slice (some ⟨gq, 0, none⟩) 2 cq, .slice (some ⟨fq, 0, none⟩) 1 1, .int .i64 0] by rw [← hW6]; exact Blk.new _ _ _)
  have HN6 := Lib.hid (HN5.out.below hb6)
  have HF6 := Lib.hid (HF5.out.below hb6)
  have HB6 := Lib.hid (HB5.out.trans (hb6.mono HB5.out.size))
  have HO6 := Lib.hid (HO5.out.below hb6 HO5.out.lt)
  have HR6 := Lib.hid (show Calls Tryz.prog 21 #[.agg #[.slice (some ⟨gq, 0, none⟩) 2 cq, .slice (some ⟨fq, 0, none⟩) 1 1, .int .i64 0], .slice none 0 0, .int .i64 100] W6 fun e w' => ∃ steps, e = .returned (.tuple #[.agg #[.slice none 0 0, .int .i64 1, .string ⟨#[]⟩, .int .i64 steps], .int .i64 0]) ∧ Below W6.heap.size W6 w' from frun_conv ⟨gq, 0, none⟩ cq ⟨fq, 0, none⟩ 1 W6 HN6.out HF6.out)
  have p0 : W6.cell? ⟨w5.heap.size, 0, none⟩ = some (.slice (some ⟨gq, 0, none⟩) 2 cq) := HP6.out.cell 0
  have p1 : W6.cell? ⟨w5.heap.size, 1, none⟩ = some (.slice (some ⟨fq, 0, none⟩) 1 1) := HP6.out.cell 1
  have p2 : W6.cell? ⟨w5.heap.size, 2, none⟩ = some (.int .i64 0) := HP6.out.cell 2
  try rw [hW6]
  clear hW6 hb6
  go_upto_region 4 with (go_at_call 21; ((with_reducible refine (HR6.out).mono ?_); rintro e w7 ⟨steps, rfl, hb7⟩; have HB7 := Lib.hid hb7; clear hb7; clear p0 p1 p2))
  obtain ⟨W8, hW8⟩ : ∃ W8, w7.alloc (.cells #[.slice none 0 0, .int .i64 1, .string ⟨#[]⟩, .int .i64 steps] 58) = W8 := ⟨_, rfl⟩
  have hb8 : Below W6.heap.size W6 W8 := by rw [← hW8]; exact HB7.out.alloc HB7.out.size _
  have HQ8 := Lib.hid (show Blk W8 w7.heap.size 58 #[.slice none 0 0, .int .i64 1, .string ⟨#[]⟩, .int .i64 steps] by rw [← hW8]; exact Blk.new _ _ _)
  have HP8 := Lib.hid (HP6.out.below hb8 HP6.out.lt)
  have HO8 := Lib.hid (HO6.out.below hb8 HO6.out.lt)
  have HB8 := Lib.hid (HB6.out.trans (hb8.mono HB6.out.size))
  have HCK := Lib.hid (show Calls Tryz.prog 4 #[.agg #[.slice (some ⟨gq, 0, none⟩) 2 cq, .slice (some ⟨fq, 0, none⟩) 1 1, .int .i64 0]] W8 (CkPost (checkF prims convF convFs 0) W8) from fcheck_any convF convFs (.slice (some ⟨gq, 0, none⟩) 2 cq) (.slice (some ⟨fq, 0, none⟩) 1 1) 0 W8 (HN6.out.below hb8) (HF6.out.below hb8) (by decide))
  unfold CkPost at HCK
  rw [check_convF] at HCK
  have p0 : W8.cell? ⟨w5.heap.size, 0, none⟩ = some (.slice (some ⟨gq, 0, none⟩) 2 cq) := HP8.out.cell 0
  have p1 : W8.cell? ⟨w5.heap.size, 1, none⟩ = some (.slice (some ⟨fq, 0, none⟩) 1 1) := HP8.out.cell 1
  have p2 : W8.cell? ⟨w5.heap.size, 2, none⟩ = some (.int .i64 0) := HP8.out.cell 2
  have o1 : W8.cell? ⟨w2.heap.size, 1, none⟩ = some (.int .i64 3) := HO8.out.cell 1
  have o3 : W8.cell? ⟨w2.heap.size, 3, none⟩ = some (.int .i64 100) := HO8.out.cell 3
  have q1 : W8.cell? ⟨w7.heap.size, 1, none⟩ = some (.int .i64 1) := HQ8.out.cell 1
  try rw [hW8]
  clear hW8 hb8
  go_wp2_with (go_at_call 4; ((with_reducible refine (HCK.out).mono ?_); rintro e w9 ⟨rfl, hb9⟩; have HB9 := Lib.hid (HB8.out.trans (hb9.mono HB8.out.size)); clear hb9))
  go_ret
  exact ⟨rfl, HB9.out⟩
end Go.Proofs.YtjhdlnllhjffkaaGreatDoor
