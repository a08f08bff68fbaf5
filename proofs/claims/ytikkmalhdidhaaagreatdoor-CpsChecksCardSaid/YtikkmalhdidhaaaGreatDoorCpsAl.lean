/- Cps: alive. -/
import Derived.Test.YtikkmalhdidhaaaGreatDoorCpsCo
import Derived.Test.YtikkmalhdidhaaaGreatDoorCpsRl
namespace Go.Proofs.YtikkmalhdidhaaaGreatDoor
open Go.RowKit LamM CpsM Go.Maps

set_option maxRecDepth 100000 in
set_option maxHeartbeats 4000000 in
theorem calive_any (w : World) : Calls Tryz.prog 8 #[] w fun e w' => e = .returned (.bool true) ∧ Below w.heap.size w w' := by
  go_enter Tryz.func8, Tryz.ntmps8
  go_upto_region 2 with (first
    | (go_at_call 29; ((with_reducible refine (loop_any _).mono ?_); rintro e w1 ⟨g, rfl, hn1, hb1⟩; have HB1 := Lib.hid hb1; have HR1 := Lib.hid (show Calls Tryz.prog 28 #[.agg #[.slice (some ⟨g, 0, none⟩) 7 7, .int .i64 6], .slice none 0 0, .int .i64 100] w1 fun e w' => e = .returned (.tuple #[.agg #[.slice none 0 0, .int .i64 3, .string ⟨#[]⟩, .int .i64 100], .int .i64 0]) ∧ Below w1.heap.size w1 w' from run_loop ⟨g, 0, none⟩ 7 w1 hn1); clear hn1 hb1))
    | (go_at_call 28; ((with_reducible refine (HR1.out).mono ?_); rintro e w2 ⟨rfl, hb2⟩; have HB2 := Lib.hid (HB1.out.trans (hb2.mono HB1.out.size)); clear hb2)))
  obtain ⟨W3, hW⟩ : ∃ W3, w2.alloc (.cells #[.slice none 0 0, .int .i64 3, .string ⟨#[]⟩, .int .i64 100] 61) = W3 := ⟨_, rfl⟩
  have HO3 := Lib.hid (show Blk W3 w2.heap.size 61 #[.slice none 0 0, .int .i64 3, .string ⟨#[]⟩, .int .i64 100] by rw [← hW]; exact Blk.new _ _ _)
  have HB3 := Lib.hid (show Below w.heap.size w W3 by rw [← hW]; exact HB2.out.alloc HB2.out.size _)
  obtain ⟨W4, hW4⟩ : ∃ W4, W3.alloc (.cells #[.int .i64 2, .int .i64 0, .int .i64 5, .int .u64 0, .string ⟨#[]⟩, .slice none 0 0, .slice none 0 0, .slice none 0 0] 69) = W4 := ⟨_, rfl⟩
  have HB4 := Lib.hid (show Below w.heap.size w W4 by rw [← hW4]; exact HB3.out.alloc HB3.out.size _)
  have HO4 := Lib.hid (show Blk W4 w2.heap.size 61 #[.slice none 0 0, .int .i64 3, .string ⟨#[]⟩, .int .i64 100] by rw [← hW4]; exact HO3.out.alloc _)
  have HCV := Lib.hid (convert_any W3.heap.size W4 (by rw [← hW4]; exact Blk.new _ _ _))
  rw [hW]
  clear hW
  go_upto_region 3 with (go_at_call 30; ((with_reducible refine (HCV.out).mono ?_); rintro e w5 ⟨gq, cq, rfl, hn5, hb5⟩; have HN5 := Lib.hid hn5; have HB5 := Lib.hid (HB4.out.trans (hb5.mono HB4.out.size)); have HO5 := Lib.hid (HO4.out.below hb5 HO4.out.lt); clear hn5 hb5))
  clear hW4
  obtain ⟨W6, hW6⟩ : ∃ W6, w5.alloc (.cells #[.slice (some ⟨gq, 0, none⟩) 6 cq, .int .i64 5] 24) = W6 := ⟨_, rfl⟩
  have hb6 : Below w5.heap.size w5 W6 := by rw [← hW6]; exact (Below.refl _ _).alloc (Nat.le_refl _) _
  have HP6 := Lib.hid (show Blk W6 w5.heap.size 24 #[.slice (some ⟨gq, 0, none⟩) 6 cq, .int .i64 5] by rw [← hW6]; exact Blk.new _ _ _)
  have HN6 := Lib.hid (HN5.out.below hb6)
  have HB6 := Lib.hid (HB5.out.trans (hb6.mono HB5.out.size))
  have HO6 := Lib.hid (HO5.out.below hb6 HO5.out.lt)
  have HR6 := Lib.hid (show Calls Tryz.prog 28 #[.agg #[.slice (some ⟨gq, 0, none⟩) 6 cq, .int .i64 5], .slice none 0 0, .int .i64 100] W6 fun e w' => ∃ steps, e = .returned (.tuple #[.agg #[.slice none 0 0, .int .i64 1, .string ⟨#[]⟩, .int .i64 steps], .int .i64 0]) ∧ Below W6.heap.size W6 w' from run_conv ⟨gq, 0, none⟩ cq W6 HN6.out)
  have p0 : W6.cell? ⟨w5.heap.size, 0, none⟩ = some (.slice (some ⟨gq, 0, none⟩) 6 cq) := HP6.out.cell 0
  have p1 : W6.cell? ⟨w5.heap.size, 1, none⟩ = some (.int .i64 5) := HP6.out.cell 1
  try rw [hW6]
  clear hW6 hb6
  go_upto_region 4 with (go_at_call 28; ((with_reducible refine (HR6.out).mono ?_); rintro e w7 ⟨steps, rfl, hb7⟩; have HB7 := Lib.hid hb7; clear hb7; clear p0 p1))
  obtain ⟨W8, hW8⟩ : ∃ W8, w7.alloc (.cells #[.slice none 0 0, .int .i64 1, .string ⟨#[]⟩, .int .i64 steps] 61) = W8 := ⟨_, rfl⟩
  have hb8 : Below W6.heap.size W6 W8 := by rw [← hW8]; exact HB7.out.alloc HB7.out.size _
  have HQ8 := Lib.hid (show Blk W8 w7.heap.size 61 #[.slice none 0 0, .int .i64 1, .string ⟨#[]⟩, .int .i64 steps] by rw [← hW8]; exact Blk.new _ _ _)
  have HP8 := Lib.hid (HP6.out.below hb8 HP6.out.lt)
  have HO8 := Lib.hid (HO6.out.below hb8 HO6.out.lt)
  have HB8 := Lib.hid (HB6.out.trans (hb8.mono HB6.out.size))
  have HCK := Lib.hid (show Calls Tryz.prog 6 #[.agg #[.slice (some ⟨gq, 0, none⟩) 6 cq, .int .i64 5]] W8 (CkPost (checkC prims convL 5) W8) from ccheck_any convL (.slice (some ⟨gq, 0, none⟩) 6 cq) 5 W8 (HN6.out.below hb8))
  unfold CkPost at HCK
  rw [check_conv] at HCK
  have p0 : W8.cell? ⟨w5.heap.size, 0, none⟩ = some (.slice (some ⟨gq, 0, none⟩) 6 cq) := HP8.out.cell 0
  have p1 : W8.cell? ⟨w5.heap.size, 1, none⟩ = some (.int .i64 5) := HP8.out.cell 1
  have o1 : W8.cell? ⟨w2.heap.size, 1, none⟩ = some (.int .i64 3) := HO8.out.cell 1
  have o3 : W8.cell? ⟨w2.heap.size, 3, none⟩ = some (.int .i64 100) := HO8.out.cell 3
  have q1 : W8.cell? ⟨w7.heap.size, 1, none⟩ = some (.int .i64 1) := HQ8.out.cell 1
  try rw [hW8]
  clear hW8 hb8
  go_wp2_with (go_at_call 6; ((with_reducible refine (HCK.out).mono ?_); rintro e w9 ⟨rfl, hb9⟩; have HB9 := Lib.hid (HB8.out.trans (hb9.mono HB8.out.size)); clear hb9))
  go_ret
  exact ⟨rfl, HB9.out⟩
end Go.Proofs.YtikkmalhdidhaaaGreatDoor
