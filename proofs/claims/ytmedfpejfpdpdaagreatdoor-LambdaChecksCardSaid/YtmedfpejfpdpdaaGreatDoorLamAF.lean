/- Lambda: a node whose parts have values: print applied; a function applied. -/
import Derived.Test.YtmedfpejfpdpdaaGreatDoorLamAE
namespace Go.Proofs.YtmedfpejfpdpdaaGreatDoor
open Go.RowKit LamM Go.Maps

/-- What print leaves. -/
def PrintPost (M : Nat) (s : ByteArray) (dv : Value) (steps fuel : Int) (w : World) (w' : World) : Prop :=
  ∃ og oc, Blk w' M 97 (MC (.slice (some ⟨og, 0, none⟩) 1 oc) steps fuel dv) ∧ w'.cell? ⟨og, 0, none⟩ = some (.string s) ∧ w.heap.size ≤ og ∧ Only [M] w w'
set_option maxRecDepth 100000 in
set_option maxHeartbeats 4000000 in
theorem prim_print (M vg c dg dc : Nat) (s : ByteArray) (steps fuel : Int) (w : World) (hM : Blk w M 97 (MC (.slice none 0 0) steps fuel (.slice (some ⟨dg, 0, none⟩) 61 dc)))
    (hd : w.cell? ⟨dg, 58, none⟩ = some printF) (hv : w.cell? ⟨vg, 0, none⟩ = some (.iface 109 (.string s))) :
    Calls Tryz.prog 114 #[runV M, .int .i64 58, .slice (some ⟨vg, 0, none⟩) 1 c] w fun e w' => e = .returned (.tuple #[.iface 107 (.int .i64 0), .int .i64 0]) ∧ PrintPost M s (.slice (some ⟨dg, 0, none⟩) 61 dc) steps fuel w w' := by
  have c4 : w.cell? ⟨M, 4, none⟩ = some (.slice (some ⟨dg, 0, none⟩) 61 dc) := hM.cell 4
  have HP := Lib.hid (print_any M vg c s _ steps fuel w hM hv)
  unfold PrintPost
  clear hM
  go_enter Tryz.func114, Tryz.ntmps114
  go_wp2_with (go_at_call 170; ((with_reducible refine (HP.out).mono ?_); rintro e w' ⟨og, oc, rfl, h1, h2, h3, h4⟩; have H1 := Lib.hid h1; have H2 := Lib.hid h2; have H3 := Lib.hid h3; have H4 := Lib.hid h4; clear h1 h2 h3 h4))
  go_ret2
  exact ⟨rfl, og, oc, H1.out, H2.out, H3.out, H4.out⟩
set_option maxRecDepth 100000 in
set_option maxHeartbeats 4000000 in
theorem finish_prim (t : Tm) (R M vg c dg dc : Nat) (lv stk env val vv kv av : Value) (node : Int) (up : Bool) (EA : Option Addr) (s : ByteArray) (steps fuel : Int) (w : World) (hk : t.k = 15) (hn : t.n = 58)
    (hR : Blk w R 83 (RC M lv stk node env val up)) (hM : Blk w M 97 (MC (.slice none 0 0) steps fuel (.slice (some ⟨dg, 0, none⟩) 61 dc)))
    (hd : w.cell? ⟨dg, 58, none⟩ = some printF) (hv : w.cell? ⟨vg, 0, none⟩ = some (.iface 109 (.string s))) (hRM : R ≠ M) :
    Calls Tryz.prog 61 #[runV R, .agg (tmVals t vv kv av).toArray, .slice (some ⟨vg, 0, none⟩) 1 c, .pointer EA] w fun e w' => e = .returned (.tuple #[]) ∧ ∃ og oc,
      Blk w' R 83 (RC M lv stk (-1) env (.iface 107 (.int .i64 0)) false) ∧ Blk w' M 97 (MC (.slice (some ⟨og, 0, none⟩) 1 oc) steps fuel (.slice (some ⟨dg, 0, none⟩) 61 dc)) ∧
      w'.cell? ⟨og, 0, none⟩ = some (.string s) ∧ w.heap.size ≤ og ∧ Only [R, M] w w' := by
  have hRl := hR.lt
  have hML : w.heap.size ≠ M := by have := hM.lt; omega
  obtain ⟨W1, hW⟩ : ∃ W1, w.alloc (.cells #[.int .i64 t.k, .int .i64 t.n, .int .i64 t.i, .int .u64 t.b, .string ⟨t.t.toArray⟩, vv, kv, av] 42) = W1 := ⟨_, rfl⟩
  have hb : Below w.heap.size w W1 := by rw [← hW]; exact (Below.refl _ _).alloc (Nat.le_refl _) _
  have HBX := Lib.hid (show Blk W1 w.heap.size 42 #[.int .i64 t.k, .int .i64 t.n, .int .i64 t.i, .int .u64 t.b, .string ⟨t.t.toArray⟩, vv, kv, av] by rw [← hW]; exact Blk.new _ _ _)
  have HR := Lib.hid (hR.below hb hR.lt)
  have HO1 := Lib.hid (Only.of_below (bs := [R, M]) hb)
  have HP := Lib.hid (prim_print M vg c dg dc s steps fuel W1.drew (hM.below hb hM.lt).drew ((hb.cell (cell_lt hd)).trans hd) ((hb.cell (cell_lt hv)).trans hv))
  have HCM := Lib.hid (fun w' (h : Blk w' R 83 (RC M lv stk node env val up)) => come_any R M lv stk env val (.int .i64 0) 107 node up w' h)
  have hsz := hb.size
  have r0 : W1.cell? ⟨R, 0, none⟩ = some (runV M) := HR.out.cell 0
  have c0 : W1.cell? ⟨w.heap.size, 0, none⟩ = some (.int .i64 t.k) := HBX.out.cell 0
  have c1 : W1.cell? ⟨w.heap.size, 1, none⟩ = some (.int .i64 58) := by rw [← hn]; exact HBX.out.cell 1
  have q5 := b_false (show t.k ≠ 5 by omega)
  have q7 := b_false (show t.k ≠ 7 by omega)
  have q6 := b_false (show t.k ≠ 6 by omega)
  have q9 := b_false (show t.k ≠ 9 by omega)
  have q13 := b_false (show t.k ≠ 13 by omega)
  have q15 := b_true (show t.k = 15 by omega)
  have r0d : W1.drew.cell? ⟨R, 0, none⟩ = some (.pointer (some ⟨M, 0, none⟩)) := r0
  have c1d : W1.drew.cell? ⟨w.heap.size, 1, none⟩ = some (.int .i64 58) := c1
  unfold PrintPost at HP
  unfold tmVals
  clear hR hM hb hk hd hv hn
  go_enter Tryz.func61, Tryz.ntmps61
  go_upto_region 17 with fail
  have K0 := Lib.hid (show W1.cell? ⟨R, 0, none⟩ = some (.pointer (some ⟨M, 0, none⟩)) ∧ W1.cell? ⟨w.heap.size, 1, none⟩ = some (.int .i64 58) from ⟨r0, c1⟩)
  go_region_held3 (fun w' => w'.cell? ⟨R, 0, none⟩ = some (.pointer (some ⟨M, 0, none⟩)) ∧ w'.cell? ⟨w.heap.size, 1, none⟩ = some (.int .i64 58)) (first | with_reducible exact K4.out | with_reducible exact K0.out | go_keep) (first
    | (go_at_call 114; (with_reducible refine (HP.out).mono ?_); rintro e w4 ⟨rfl, og, oc, h1, h2, h3, h4⟩; have H1 := Lib.hid h1; have H2 := Lib.hid h2; have H3 := Lib.hid h3; have H4 := Lib.hid h4; have HR4 := Lib.hid (HR.out.drew.only h4 (fun h => hRM (List.mem_singleton.1 h))); have HOC := Lib.hid (cell_lt h2); have K4 := Lib.hid (show w4.cell? ⟨R, 0, none⟩ = some (.pointer (some ⟨M, 0, none⟩)) ∧ w4.cell? ⟨w.heap.size, 1, none⟩ = some (.int .i64 58) from ⟨HR4.out.cell 0, (World.cell?_of_block (h4.block w.heap.size HBX.out.lt (fun h => hML (List.mem_singleton.1 h)))).trans c1⟩); clear h1 h2 h3 h4))
  all_goals
    go_wp2_with (go_at_call 58; ((with_reducible refine (HCM.out _ HR4.out).mono ?_); rintro e w5 ⟨rfl, h5, h6⟩; have H5 := Lib.hid h5; have H6 := Lib.hid h6; clear h5 h6))
    refine bodyPost_ret (results_none rfl _ _ _) rfl ?_
    have hogR : og ≠ R := by have := H3.out; rw [show W1.drew.heap.size = W1.heap.size from rfl] at this; omega
    refine ⟨rfl, og, oc, H5.out, H1.out.only H6.out (fun h => hRM (List.mem_singleton.1 h).symm), ?_, Nat.le_trans hsz H3.out, ((HO1.out.drew).trans (H4.out.mono (by simp))).trans (H6.out.mono (by simp))⟩
    exact (World.cell?_of_block (H6.out.block og HOC.out (fun h => hogR (List.mem_singleton.1 h)))).trans H2.out
theorem ta_fn {p : Option Addr} : ∀ w, (Instr.typeAssert (.iface 110 (.pointer p)) 81 110 true).run Tryz.prog w = .ok (.tuple #[.pointer p, .bool true]) w := fun w => by kernel_rfl
theorem Only.cell {w w' : World} {bs : List Nat} {p : Addr} {v : Value} (h : Only bs w w') (hp : p.block ∉ bs) (hc : w.cell? p = some v) : w'.cell? p = some v :=
  (World.cell?_of_block (h.block p.block (cell_lt hc) hp)).trans hc
theorem app_keep {w w' : World} {R fb vg : Nat} {a1 a2 uA : Addr} {x0 x1 x2 x3 x4 x5 x6 : Value} (h : Only [R] w w') (h0 : w'.cell? ⟨R, 1, none⟩ = some x0)
    (hk : w.cell? ⟨fb, 0, none⟩ = some x1 ∧ w.cell? ⟨fb, 1, none⟩ = some x2 ∧ w.cell? ⟨a1.block, a1.off + 1, none⟩ = some x3 ∧ w.cell? ⟨a1.block, a1.off + 7, none⟩ = some x4 ∧ w.cell? uA = some x5 ∧ w.cell? ⟨vg, 1, none⟩ = some x6)
    (hf : fb ≠ R) (ha : a2.block ≠ R) (hu : uA.block ≠ R) (hv : vg ≠ R) (e : a1.block = a2.block := by exact block_of_add _ _) :
    w'.cell? ⟨R, 1, none⟩ = some x0 ∧ w'.cell? ⟨fb, 0, none⟩ = some x1 ∧ w'.cell? ⟨fb, 1, none⟩ = some x2 ∧ w'.cell? ⟨a1.block, a1.off + 1, none⟩ = some x3 ∧ w'.cell? ⟨a1.block, a1.off + 7, none⟩ = some x4 ∧ w'.cell? uA = some x5 ∧ w'.cell? ⟨vg, 1, none⟩ = some x6 := by
  have n : ∀ {k : Nat}, k ≠ R → k ∉ [R] := fun hk hm => hk (List.mem_singleton.1 hm)
  obtain ⟨k1, k2, k3, k4, k5, k6⟩ := hk
  exact ⟨h0, h.cell (n hf) k1, h.cell (n hf) k2, h.cell (n (by rw [← e] at ha; exact ha)) k3, h.cell (n (by rw [← e] at ha; exact ha)) k4, h.cell (n hu) k5, h.cell (n hv) k6⟩
set_option maxRecDepth 100000 in
set_option maxHeartbeats 8000000 in
theorem finish_app (t u : Tm) (R M vg c fb j n nc _Bn : Nat) (ad : Addr) (stk env val vv kv av _ux _uy x : Value) (ti : TypeId) (uA : Addr) (um uc : Nat) (node a : Int) (up : Bool) (EA EB : Option Addr) (w : World) (hk : t.k = 9)
    (hR : Blk w R 83 (RC M (.slice (some ad) n nc) stk node env val up)) (hj : j < n) (_hn : n ≤ 1300000000000)
    (h0 : w.cell? ⟨vg, 0, none⟩ = some (.iface 110 (.pointer (some ⟨fb, 0, none⟩)))) (h1 : w.cell? ⟨vg, 1, none⟩ = some (.iface ti x)) (hF : Blk w fb 112 #[.int .i64 (j : Int), .pointer EA])
    (hu1 : w.cell? ⟨(ad.add (j * 8)).block, (ad.add (j * 8)).off + 1, none⟩ = some (.int .i64 u.n)) (hu7 : w.cell? ⟨(ad.add (j * 8)).block, (ad.add (j * 8)).off + 7, none⟩ = some (.slice (some uA) um uc)) (hum : 0 < um) (hua : w.cell? uA = some (.int .i64 a)) (hfR : fb ≠ R) (haR : ad.block ≠ R) (huR : uA.block ≠ R) (hvR : vg ≠ R) :
    Calls Tryz.prog 61 #[runV R, .agg (tmVals t vv kv av).toArray, .slice (some ⟨vg, 0, none⟩) 2 c, .pointer EB] w fun e w' => e = .returned (.tuple #[]) ∧ ∃ sc, w.heap.size ≤ sc ∧
      Blk w' sc 121 #[.int .i64 u.n, .iface ti x, .pointer EA] ∧ Blk w' R 83 (RC M (.slice (some ad) n nc) stk a (.pointer (some ⟨sc, 0, none⟩)) val up) ∧ Only [R] w w' := by
  obtain ⟨W1, hW⟩ : ∃ W1, w.alloc (.cells #[.int .i64 t.k, .int .i64 t.n, .int .i64 t.i, .int .u64 t.b, .string ⟨t.t.toArray⟩, vv, kv, av] 42) = W1 := ⟨_, rfl⟩
  have hb : Below w.heap.size w W1 := by rw [← hW]; exact (Below.refl _ _).alloc (Nat.le_refl _) _
  have HBX := Lib.hid (show Blk W1 w.heap.size 42 #[.int .i64 t.k, .int .i64 t.n, .int .i64 t.i, .int .u64 t.b, .string ⟨t.t.toArray⟩, vv, kv, av] by rw [← hW]; exact Blk.new _ _ _)
  have HR := Lib.hid (hR.below hb hR.lt)
  have HF := Lib.hid (hF.below hb hF.lt)
  have HO1 := Lib.hid (Only.of_below (bs := [R]) hb)
  have hrl := HR.out.lt
  have hfl := HF.out.lt
  have r1 : W1.cell? ⟨R, 1, none⟩ = some (.slice (some ad) n nc) := HR.out.cell 1
  have c0 : W1.cell? ⟨w.heap.size, 0, none⟩ = some (.int .i64 t.k) := HBX.out.cell 0
  have v0 := (hb.cell (cell_lt h0)).trans h0
  have v1 := (hb.cell (cell_lt h1)).trans h1
  have u1 := (hb.cell (cell_lt hu1)).trans hu1
  have u7 := (hb.cell (cell_lt hu7)).trans hu7
  have ua := (hb.cell (cell_lt hua)).trans hua
  have g0 : W1.cell? ⟨fb, 0, none⟩ = some (.int .i64 (j : Int)) := HF.out.cell 0
  have g1 : W1.cell? ⟨fb, 1, none⟩ = some (.pointer EA) := HF.out.cell 1
  have hjn : (j : Int) < (n : Int) := by omega
  have hum1 : (0 : Int) < (um : Int) := by omega
  have hta := ta_fn (p := some ⟨fb, 0, none⟩)
  have HON := Lib.hid (fun w' (h : Blk w' R 83 (RC M (.slice (some ad) n nc) stk node env val up)) k E => on_any R M _ stk env val node up k E w' h)
  have q5 := b_false (show t.k ≠ 5 by omega)
  have q7 := b_false (show t.k ≠ 7 by omega)
  have q6 := b_false (show t.k ≠ 6 by omega)
  have q9 := b_true (show t.k = 9 by omega)
  have hsz := hb.size
  unfold tmVals
  clear hR hb hk h0 h1 hF hu1 hu7 hua
  go_enter Tryz.func61, Tryz.ntmps61
  go_upto_region 12 with fail
  have K0 := Lib.hid (show W1.cell? ⟨R, 1, none⟩ = some (.slice (some ad) n nc) ∧ W1.cell? ⟨fb, 0, none⟩ = some (.int .i64 (j : Int)) ∧ W1.cell? ⟨fb, 1, none⟩ = some (.pointer EA) ∧ W1.cell? ⟨(ad.add (j * 8)).block, (ad.add (j * 8)).off + 1, none⟩ = some (.int .i64 u.n) ∧ W1.cell? ⟨(ad.add (j * 8)).block, (ad.add (j * 8)).off + 7, none⟩ = some (.slice (some uA) um uc) ∧ W1.cell? uA = some (.int .i64 a) ∧ W1.cell? ⟨vg, 1, none⟩ = some (.iface ti x) from ⟨r1, g0, g1, u1, u7, ua, v1⟩)
  go_region_held3 (fun w' => w'.cell? ⟨R, 1, none⟩ = some (.slice (some ad) n nc) ∧ w'.cell? ⟨fb, 0, none⟩ = some (.int .i64 (j : Int)) ∧ w'.cell? ⟨fb, 1, none⟩ = some (.pointer EA) ∧ w'.cell? ⟨(ad.add (j * 8)).block, (ad.add (j * 8)).off + 1, none⟩ = some (.int .i64 u.n) ∧ w'.cell? ⟨(ad.add (j * 8)).block, (ad.add (j * 8)).off + 7, none⟩ = some (.slice (some uA) um uc) ∧ w'.cell? uA = some (.int .i64 a) ∧ w'.cell? ⟨vg, 1, none⟩ = some (.iface ti x)) (first | with_reducible exact K0.out | with_reducible exact K4.out | go_keep)
    (first
      | (go_at_call 63; ((with_reducible refine (HON.out _ ((HR.out.alloc _).drew) _ _).mono ?_); rintro e w4 ⟨rfl, h5, h6⟩; have H5 := Lib.hid h5; have H6 := Lib.hid h6; have K4 := Lib.hid (show w4.cell? ⟨R, 1, none⟩ = some (.slice (some ad) n nc) ∧ w4.cell? ⟨fb, 0, none⟩ = some (.int .i64 (j : Int)) ∧ w4.cell? ⟨fb, 1, none⟩ = some (.pointer EA) ∧ w4.cell? ⟨(ad.add (j * 8)).block, (ad.add (j * 8)).off + 1, none⟩ = some (.int .i64 u.n) ∧ w4.cell? ⟨(ad.add (j * 8)).block, (ad.add (j * 8)).off + 7, none⟩ = some (.slice (some uA) um uc) ∧ w4.cell? uA = some (.int .i64 a) ∧ w4.cell? ⟨vg, 1, none⟩ = some (.iface ti x) from app_keep (a1 := ad.add (j * 8)) (a2 := ad) ((((Only.refl [R] W1).alloc _).drew).trans h6) (h5.cell 1) K0.out.2 hfR haR huR hvR (block_of_add _ _)); clear h5 h6)))
  go_wp2_with fail
  go_end0
  refine ⟨rfl, W1.heap.size, hsz, ?_, H5.out, ((HO1.out.alloc _).drew).trans H6.out⟩
  exact Blk.only (Blk.drew (Blk.new W1 _ _)) H6.out (fun h => by have := List.mem_singleton.1 h; omega)
end Go.Proofs.YtmedfpejfpdpdaaGreatDoor
