/- Cps: what a node binds, both ways. -/
import Derived.Test.YtikkmalhdidhaaaGreatDoorCpsC
namespace Go.Proofs.YtikkmalhdidhaaaGreatDoor
open Go.RowKit LamM CpsM

def BoxF (t : Fl) (vv kv av : Value) : Obj := .cells #[.int .i64 t.k, .int .i64 t.n, .int .i64 t.m, .int .i64 t.i, .int .u64 t.b, .string ⟨t.t.toArray⟩, vv, kv, av] 40
theorem bindsC_n {t : Fl} (h : t.k = 5 ∨ t.k = 6 ∨ t.k = 7 ∨ t.k = 8) : bindsC t = [t.n] := by unfold bindsC; rw [if_pos h]
theorem bindsC_v {t : Fl} (h : t.k = 9 ∨ t.k = 10) : bindsC t = t.vars := by unfold bindsC; rw [if_neg (by omega), if_pos h]
theorem bindsC_o {t : Fl} (h : t.k < 5 ∨ 10 < t.k) : bindsC t = [] := by unfold bindsC; rw [if_neg (by omega), if_neg (by omega)]

set_option maxRecDepth 100000 in
set_option maxHeartbeats 2000000 in
theorem cbinds_any (t : Fl) (vv kv av : Value) (w : World) (hT : FV w w.heap.size t vv kv av) :
    Calls Tryz.prog 10 #[.agg (flVals t vv kv av).toArray] w (GivesI w (bindsC t)) := by
  have HB1 := Lib.hid ((Below.refl w.heap.size w).alloc (Nat.le_refl _) (BoxF t vv kv av))
  have HB2 := Lib.hid (two_alloc w (BoxF t vv kv av) (.cells #[.int .i64 t.n] 3))
  have HON := Lib.hid (one_after w (BoxF t vv kv av) t.n)
  have HNI := Lib.hid (nil_IV (w.alloc (BoxF t vv kv av)) (w.alloc (BoxF t vv kv av)).heap.size)
  have HVS := Lib.hid (hT.v.below HB1.out)
  have HBL := Blk.new w 40 #[.int .i64 t.k, .int .i64 t.n, .int .i64 t.m, .int .i64 t.i, .int .u64 t.b, .string ⟨t.t.toArray⟩, vv, kv, av]
  have c0 := HBL.cell 0
  have c1 := HBL.cell 1
  have c6 := HBL.cell 6
  obtain ⟨R, hR⟩ : ∃ R, bindsC t = R := ⟨_, rfl⟩
  rw [hR]
  clear hT HBL
  unfold flVals
  unfold BoxF at HB1 HB2 HON HNI HVS
  rcases (by omega : (t.k < 5 ∨ 10 < t.k) ∨ t.k = 5 ∨ t.k = 6 ∨ t.k = 7 ∨ t.k = 8 ∨ t.k = 9 ∨ t.k = 10) with h | h | h | h | h | h | h
  · have HR2 := Lib.hid ((show bindsC t = _ from bindsC_o h).symm.trans hR)
    have q5 := b_false (show t.k ≠ 5 by omega)
    have q6 := b_false (show t.k ≠ 6 by omega)
    have q7 := b_false (show t.k ≠ 7 by omega)
    have q8 := b_false (show t.k ≠ 8 by omega)
    have q9 := b_false (show t.k ≠ 9 by omega)
    have q10 := b_false (show t.k ≠ 10 by omega)
    clear hR h
    go_enter Tryz.func10, Tryz.ntmps10
    go_wp2_with fail
    go_ret
    exact ⟨_, rfl, by rw [← HR2.out]; exact HNI.out, HB1.out⟩
  · have HR2 := Lib.hid ((show bindsC t = _ from bindsC_n (.inl h)).symm.trans hR)
    have q5 := b_true h
    clear hR h
    go_enter Tryz.func10, Tryz.ntmps10
    go_wp2_with fail
    go_ret
    exact ⟨_, rfl, by rw [← HR2.out]; exact HON.out, HB2.out⟩
  · have HR2 := Lib.hid ((show bindsC t = _ from bindsC_n (.inr (.inl h))).symm.trans hR)
    have q5 := b_false (show t.k ≠ 5 by omega)
    have q6 := b_true h
    clear hR h
    go_enter Tryz.func10, Tryz.ntmps10
    go_wp2_with fail
    go_ret
    exact ⟨_, rfl, by rw [← HR2.out]; exact HON.out, HB2.out⟩
  · have HR2 := Lib.hid ((show bindsC t = _ from bindsC_n (.inr (.inr (.inl h)))).symm.trans hR)
    have q5 := b_false (show t.k ≠ 5 by omega)
    have q6 := b_false (show t.k ≠ 6 by omega)
    have q7 := b_true h
    clear hR h
    go_enter Tryz.func10, Tryz.ntmps10
    go_wp2_with fail
    go_ret
    exact ⟨_, rfl, by rw [← HR2.out]; exact HON.out, HB2.out⟩
  · have HR2 := Lib.hid ((show bindsC t = _ from bindsC_n (.inr (.inr (.inr h)))).symm.trans hR)
    have q5 := b_false (show t.k ≠ 5 by omega)
    have q6 := b_false (show t.k ≠ 6 by omega)
    have q7 := b_false (show t.k ≠ 7 by omega)
    have q8 := b_true h
    clear hR h
    go_enter Tryz.func10, Tryz.ntmps10
    go_wp2_with fail
    go_ret
    exact ⟨_, rfl, by rw [← HR2.out]; exact HON.out, HB2.out⟩
  · have HR2 := Lib.hid ((show bindsC t = _ from bindsC_v (.inl h)).symm.trans hR)
    have q5 := b_false (show t.k ≠ 5 by omega)
    have q6 := b_false (show t.k ≠ 6 by omega)
    have q7 := b_false (show t.k ≠ 7 by omega)
    have q8 := b_false (show t.k ≠ 8 by omega)
    have q9 := b_true h
    clear hR h
    go_enter Tryz.func10, Tryz.ntmps10
    go_wp2_with fail
    go_ret
    exact ⟨_, rfl, by rw [← HR2.out]; exact HVS.out, HB1.out⟩
  · have HR2 := Lib.hid ((show bindsC t = _ from bindsC_v (.inr h)).symm.trans hR)
    have q5 := b_false (show t.k ≠ 5 by omega)
    have q6 := b_false (show t.k ≠ 6 by omega)
    have q7 := b_false (show t.k ≠ 7 by omega)
    have q8 := b_false (show t.k ≠ 8 by omega)
    have q9 := b_false (show t.k ≠ 9 by omega)
    have q10 := b_true h
    clear hR h
    go_enter Tryz.func10, Tryz.ntmps10
    go_wp2_with fail
    go_ret
    exact ⟨_, rfl, by rw [← HR2.out]; exact HVS.out, HB1.out⟩

set_option maxRecDepth 100000 in
set_option maxHeartbeats 2000000 in
theorem sbinds_any (t : Fl) (vv kv av : Value) (w : World) (hT : FV w w.heap.size t vv kv av) :
    Calls Tryz.prog 17 #[.agg (flVals t vv kv av).toArray] w (GivesI w (bindsC t)) := by
  have HB1 := Lib.hid ((Below.refl w.heap.size w).alloc (Nat.le_refl _) (BoxF t vv kv av))
  have HB2 := Lib.hid (two_alloc w (BoxF t vv kv av) (.cells #[.int .i64 t.n] 3))
  have HON := Lib.hid (one_after w (BoxF t vv kv av) t.n)
  have HNI := Lib.hid (nil_IV (w.alloc (BoxF t vv kv av)) (w.alloc (BoxF t vv kv av)).heap.size)
  have HVS := Lib.hid (hT.v.below HB1.out)
  have HBL := Blk.new w 40 #[.int .i64 t.k, .int .i64 t.n, .int .i64 t.m, .int .i64 t.i, .int .u64 t.b, .string ⟨t.t.toArray⟩, vv, kv, av]
  have c0 := HBL.cell 0
  have c1 := HBL.cell 1
  have c6 := HBL.cell 6
  obtain ⟨R, hR⟩ : ∃ R, bindsC t = R := ⟨_, rfl⟩
  rw [hR]
  clear hT HBL
  unfold flVals
  unfold BoxF at HB1 HB2 HON HNI HVS
  rcases (by omega : (t.k < 5 ∨ 10 < t.k) ∨ t.k = 5 ∨ t.k = 6 ∨ t.k = 7 ∨ t.k = 8 ∨ t.k = 9 ∨ t.k = 10) with h | h | h | h | h | h | h
  · have HR2 := Lib.hid ((show bindsC t = _ from bindsC_o h).symm.trans hR)
    have q5 := b_false (show t.k ≠ 5 by omega)
    have q6 := b_false (show t.k ≠ 6 by omega)
    have q7 := b_false (show t.k ≠ 7 by omega)
    have q8 := b_false (show t.k ≠ 8 by omega)
    have q9 := b_false (show t.k ≠ 9 by omega)
    have q10 := b_false (show t.k ≠ 10 by omega)
    clear hR h
    go_enter Tryz.func17, Tryz.ntmps17
    go_wp2_with fail
    go_ret
    exact ⟨_, rfl, by rw [← HR2.out]; exact HNI.out, HB1.out⟩
  · have HR2 := Lib.hid ((show bindsC t = _ from bindsC_n (.inl h)).symm.trans hR)
    have q5 := b_true h
    clear hR h
    go_enter Tryz.func17, Tryz.ntmps17
    go_wp2_with fail
    go_ret
    exact ⟨_, rfl, by rw [← HR2.out]; exact HON.out, HB2.out⟩
  · have HR2 := Lib.hid ((show bindsC t = _ from bindsC_n (.inr (.inl h))).symm.trans hR)
    have q5 := b_false (show t.k ≠ 5 by omega)
    have q6 := b_true h
    clear hR h
    go_enter Tryz.func17, Tryz.ntmps17
    go_wp2_with fail
    go_ret
    exact ⟨_, rfl, by rw [← HR2.out]; exact HON.out, HB2.out⟩
  · have HR2 := Lib.hid ((show bindsC t = _ from bindsC_n (.inr (.inr (.inl h)))).symm.trans hR)
    have q5 := b_false (show t.k ≠ 5 by omega)
    have q6 := b_false (show t.k ≠ 6 by omega)
    have q7 := b_true h
    clear hR h
    go_enter Tryz.func17, Tryz.ntmps17
    go_wp2_with fail
    go_ret
    exact ⟨_, rfl, by rw [← HR2.out]; exact HON.out, HB2.out⟩
  · have HR2 := Lib.hid ((show bindsC t = _ from bindsC_n (.inr (.inr (.inr h)))).symm.trans hR)
    have q5 := b_false (show t.k ≠ 5 by omega)
    have q6 := b_false (show t.k ≠ 6 by omega)
    have q7 := b_false (show t.k ≠ 7 by omega)
    have q8 := b_true h
    clear hR h
    go_enter Tryz.func17, Tryz.ntmps17
    go_wp2_with fail
    go_ret
    exact ⟨_, rfl, by rw [← HR2.out]; exact HON.out, HB2.out⟩
  · have HR2 := Lib.hid ((show bindsC t = _ from bindsC_v (.inl h)).symm.trans hR)
    have q5 := b_false (show t.k ≠ 5 by omega)
    have q6 := b_false (show t.k ≠ 6 by omega)
    have q7 := b_false (show t.k ≠ 7 by omega)
    have q8 := b_false (show t.k ≠ 8 by omega)
    have q9 := b_true h
    clear hR h
    go_enter Tryz.func17, Tryz.ntmps17
    go_wp2_with fail
    go_ret
    exact ⟨_, rfl, by rw [← HR2.out]; exact HVS.out, HB1.out⟩
  · have HR2 := Lib.hid ((show bindsC t = _ from bindsC_v (.inr h)).symm.trans hR)
    have q5 := b_false (show t.k ≠ 5 by omega)
    have q6 := b_false (show t.k ≠ 6 by omega)
    have q7 := b_false (show t.k ≠ 7 by omega)
    have q8 := b_false (show t.k ≠ 8 by omega)
    have q9 := b_false (show t.k ≠ 9 by omega)
    have q10 := b_true h
    clear hR h
    go_enter Tryz.func17, Tryz.ntmps17
    go_wp2_with fail
    go_ret
    exact ⟨_, rfl, by rw [← HR2.out]; exact HVS.out, HB1.out⟩
end Go.Proofs.YtikkmalhdidhaaaGreatDoor
