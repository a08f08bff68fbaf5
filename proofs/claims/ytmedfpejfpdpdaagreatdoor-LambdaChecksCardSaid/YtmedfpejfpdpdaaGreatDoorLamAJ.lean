/- Lambda: the runner goes back to a node. -/
import Derived.Test.YtmedfpejfpdpdaaGreatDoorLamAI
namespace Go.Proofs.YtmedfpejfpdpdaaGreatDoor
open Go.RowKit LamM Go.Maps

theorem own_trim {w : World} {base size g c n : Nat} {e : TypeId} {xs : List Value} (h : w.ownsRow base e size (.slice (some ⟨g, 0, none⟩) n c) n xs) : w.ownsRow base e size (.slice (some ⟨g, 0, none⟩) 0 c) 0 [] := by
  rcases h.2 with ⟨h', _⟩ | ⟨g', cap', cur, h', hb, hg, hnc, hcm, hcs, _⟩
  · simp at h'
  · simp only [Value.slice.injEq, Option.some.injEq, Addr.mk.injEq, and_true, true_and] at h'
    obtain ⟨rfl, rfl⟩ := h'
    exact ⟨by simp, .inr ⟨g, c, cur, rfl, hb, hg, Nat.zero_le _, hcm, hcs, by simp⟩⟩
theorem own_cap1 {w : World} {base size g c : Nat} {e : TypeId} {xs : List Value} (h : w.ownsRow base e size (.slice (some ⟨g, 0, none⟩) 1 c) 1 xs) : 1 ≤ c := by
  rcases h.2 with ⟨h', _⟩ | ⟨g', cap', cur, h', hb, hg, hnc, hcm, hcs, _⟩
  · simp at h'
  · simp only [Value.slice.injEq, Option.some.injEq, Addr.mk.injEq, and_true, true_and] at h'
    obtain ⟨rfl, rfl⟩ := h'
    exact hnc

set_option maxRecDepth 100000 in
set_option maxHeartbeats 8000000 in
theorem back_app (t : Tm) (VA : Option Addr) (vl vc : Nat) (KA : Option Addr) (kl kc : Nat) (aA : Addr) (al ac : Nat) (R M n nc j g c P1 P2 G2 dn dc : Nat) (ad : Addr) (DA : Option Addr) (env x : Value) (ti : TypeId) (node : Int) (EF : Option Addr) (xs : List Value) (w : World) (hk : t.k = 9)
    (hR : Blk w R 83 (RC M (.slice (some ad) n nc) (.slice (some ⟨g, 0, none⟩) 1 c) node env (.iface ti x) false)) (hj : j < n) (hnn : n ≤ 1300000000000)
    (hO : w.ownsRow P1 117 3 (.slice (some ⟨g, 0, none⟩) 1 c) 1 [.int .i64 (j : Int), .slice DA dn dc, .pointer EF]) (hV : w.ownsRow P2 81 1 (.slice DA dn dc) dn xs) (hG2 : ∀ k, (Value.slice DA dn dc).ownBlock = some k → k = G2) (hG2w : G2 < w.heap.size) (hP2 : P2 ≤ w.heap.size)
    (hN : Nd w ad j t VA vl vc KA kl kc (some aA) al ac) (hag : ad.block ≠ g) (haR : ad.block ≠ R) (ha2 : ad.block ≠ G2) (hRg : R ≠ g) (hR2 : R ≠ G2) (hg2 : g ≠ G2) (hgw : g < P2) (hRw : R < P2) (hdn : dn ≤ 10) (u : Tm) (fb jf um uc : Nat) (uA : Addr) (a : Int) (EA : Option Addr) (hal1 : dn + 1 ≤ al) (hal2 : al ≤ dn + 1) (hdn1 : dn = 1) (hxs : xs = [.iface 110 (.pointer (some ⟨fb, 0, none⟩))]) (hjf : jf < n) (hF : Blk w fb 112 #[.int .i64 (jf : Int), .pointer EA]) (hu1 : w.cell? ⟨(ad.add (jf * 8)).block, (ad.add (jf * 8)).off + 1, none⟩ = some (.int .i64 u.n)) (hu7 : w.cell? ⟨(ad.add (jf * 8)).block, (ad.add (jf * 8)).off + 7, none⟩ = some (.slice (some uA) um uc)) (hum : 0 < um) (hua : w.cell? uA = some (.int .i64 a)) (hfb : fb ∉ [R, g, G2]) (huA : uA.block ∉ [R, g, G2]) :
    Calls Tryz.prog 44 #[runV R] w fun e w' => e = .returned (.tuple #[]) ∧ ∃ sc, w.heap.size ≤ sc ∧ Blk w' sc 121 #[.int .i64 u.n, .iface ti x, .pointer EA] ∧ w'.ownsRow P1 117 3 (.slice (some ⟨g, 0, none⟩) 0 c) 0 [] ∧ Blk w' R 83 (RC M (.slice (some ad) n nc) (.slice (some ⟨g, 0, none⟩) 0 c) a (.pointer (some ⟨sc, 0, none⟩)) (.iface ti x) false) ∧ Only [R, g, G2] w w' := by
  have HFN := Lib.hid hF
  have HU := Lib.hid (And.intro hu1 (And.intro hu7 hua))
  have HXS := Lib.hid hxs
  have HTK := Lib.hid hk
  have HD1 := Lib.hid hdn1
  clear hF hu1 hu7 hua hxs hdn1
  obtain ⟨i0, hi0, hz0, hz1, hz2⟩ := info_parts infoVal
  have r2 : w.cell? ⟨R, 2, none⟩ = some (.slice (some ⟨g, 0, none⟩) 1 c) := hR.cell 2
  have HR := Lib.hid hR
  have HN := Lib.hid hN
  have HO := Lib.hid hO
  have HV := Lib.hid hV
  have HG2 := Lib.hid hG2
  have hjn : (j : Int) < (n : Int) := by omega
  have q14 := b_false (show t.k ≠ 14 by omega)
  have q10 := b_false (show t.k ≠ 10 by omega)
  have q12 := b_false (show t.k ≠ 12 by omega)
  clear hR hN hO hV hG2 hk
  go_enter Tryz.func44, Tryz.ntmps44
  go_upto_region 0 with fail
  go_quiet (fail)
  go_upto_region 1 with fail
  obtain ⟨w1, hw1⟩ : ∃ w1, w.drewN nq = w1 := ⟨_, rfl⟩
  have HO1 := Lib.hid (show Only [] w w1 by rw [← hw1]; exact (Only.refl [] w).drewN nq)
  rw [hw1]
  clear hw1 r2
  have HR1 := Lib.hid (HR.out.only HO1.out (by simp))
  have HN1 := Lib.hid (HN.out.only HO1.out (by simp))
  have HF1 := Lib.hid (ownsRow_only HO.out HO1.out (by simp))
  have HV1 := Lib.hid (ownsRow_only HV.out HO1.out (by simp))
  have s1 : w1.cell? ⟨R, 1, none⟩ = some (.slice (some ad) n nc) := HR1.out.cell 1
  have s3 : w1.cell? ⟨g, 0, none⟩ = some (.int .i64 (j : Int)) := World.ownsRow.cellAt HF1.out 0 (by omega)
  have K0d := Lib.hid (show w1.drew.cell? ⟨R, 1, none⟩ = some (.slice (some ad) n nc) ∧ w1.drew.cell? ⟨g, 0, none⟩ = some (.int .i64 (j : Int)) ∧ w1.drew.cell? (ad.add (j * 8)) = some (.int .i64 t.k) ∧ w1.drew.cell? ⟨(ad.add (j * 8)).block, (ad.add (j * 8)).off + 1, none⟩ = some (.int .i64 t.n) ∧ w1.drew.cell? ⟨(ad.add (j * 8)).block, (ad.add (j * 8)).off + 2, none⟩ = some (.int .i64 t.i) ∧ w1.drew.cell? ⟨(ad.add (j * 8)).block, (ad.add (j * 8)).off + 3, none⟩ = some (.int .u64 t.b) ∧ w1.drew.cell? ⟨(ad.add (j * 8)).block, (ad.add (j * 8)).off + 4, none⟩ = some (.string ⟨t.t.toArray⟩) ∧ w1.drew.cell? ⟨(ad.add (j * 8)).block, (ad.add (j * 8)).off + 5, none⟩ = some (.slice VA vl vc) ∧ w1.drew.cell? ⟨(ad.add (j * 8)).block, (ad.add (j * 8)).off + 6, none⟩ = some (.slice KA kl kc) ∧ w1.drew.cell? ⟨(ad.add (j * 8)).block, (ad.add (j * 8)).off + 7, none⟩ = some (.slice (some aA) al ac) from ⟨s1, s3, HN1.out⟩)
  have K1 := Lib.hid (fun o => show (w1.alloc o).drew.cell? ⟨R, 1, none⟩ = some (.slice (some ad) n nc) ∧ (w1.alloc o).drew.cell? ⟨g, 0, none⟩ = some (.int .i64 (j : Int)) ∧ (w1.alloc o).drew.cell? (ad.add (j * 8)) = some (.int .i64 t.k) ∧ (w1.alloc o).drew.cell? ⟨(ad.add (j * 8)).block, (ad.add (j * 8)).off + 1, none⟩ = some (.int .i64 t.n) ∧ (w1.alloc o).drew.cell? ⟨(ad.add (j * 8)).block, (ad.add (j * 8)).off + 2, none⟩ = some (.int .i64 t.i) ∧ (w1.alloc o).drew.cell? ⟨(ad.add (j * 8)).block, (ad.add (j * 8)).off + 3, none⟩ = some (.int .u64 t.b) ∧ (w1.alloc o).drew.cell? ⟨(ad.add (j * 8)).block, (ad.add (j * 8)).off + 4, none⟩ = some (.string ⟨t.t.toArray⟩) ∧ (w1.alloc o).drew.cell? ⟨(ad.add (j * 8)).block, (ad.add (j * 8)).off + 5, none⟩ = some (.slice VA vl vc) ∧ (w1.alloc o).drew.cell? ⟨(ad.add (j * 8)).block, (ad.add (j * 8)).off + 6, none⟩ = some (.slice KA kl kc) ∧ (w1.alloc o).drew.cell? ⟨(ad.add (j * 8)).block, (ad.add (j * 8)).off + 7, none⟩ = some (.slice (some aA) al ac) from ⟨((Only.refl [] w1).alloc o).drew.cell (by simp) s1, ((Only.refl [] w1).alloc o).drew.cell (by simp) s3, HN1.out.only ((Only.refl [] w1).alloc o).drew (by simp)⟩)
  clear s1 s3
  go_region_held3 (fun w' => w'.cell? ⟨R, 1, none⟩ = some (.slice (some ad) n nc) ∧ w'.cell? ⟨g, 0, none⟩ = some (.int .i64 (j : Int)) ∧ w'.cell? (ad.add (j * 8)) = some (.int .i64 t.k) ∧ w'.cell? ⟨(ad.add (j * 8)).block, (ad.add (j * 8)).off + 1, none⟩ = some (.int .i64 t.n) ∧ w'.cell? ⟨(ad.add (j * 8)).block, (ad.add (j * 8)).off + 2, none⟩ = some (.int .i64 t.i) ∧ w'.cell? ⟨(ad.add (j * 8)).block, (ad.add (j * 8)).off + 3, none⟩ = some (.int .u64 t.b) ∧ w'.cell? ⟨(ad.add (j * 8)).block, (ad.add (j * 8)).off + 4, none⟩ = some (.string ⟨t.t.toArray⟩) ∧ w'.cell? ⟨(ad.add (j * 8)).block, (ad.add (j * 8)).off + 5, none⟩ = some (.slice VA vl vc) ∧ w'.cell? ⟨(ad.add (j * 8)).block, (ad.add (j * 8)).off + 6, none⟩ = some (.slice KA kl kc) ∧ w'.cell? ⟨(ad.add (j * 8)).block, (ad.add (j * 8)).off + 7, none⟩ = some (.slice (some aA) al ac)) (first | with_reducible exact K0d.out | with_reducible exact K1.out _ | go_keep) (fail)
  obtain ⟨W2, hW2⟩ : ∃ W2, (w1.alloc (.cells #[.int .i64 t.k, .int .i64 t.n, .int .i64 t.i, .int .u64 t.b, .string ⟨t.t.toArray⟩, .slice VA vl vc, .slice KA kl kc, .slice (some aA) al ac] 42)).drew = W2 := ⟨_, rfl⟩
  have HO2 := Lib.hid (show Only [] w1 W2 by rw [← hW2]; exact ((Only.refl [] w1).alloc _).drew)
  have HT2 := Lib.hid (show Blk W2 w1.heap.size 42 #[.int .i64 t.k, .int .i64 t.n, .int .i64 t.i, .int .u64 t.b, .string ⟨t.t.toArray⟩, .slice VA vl vc, .slice KA kl kc, .slice (some aA) al ac] by rw [← hW2]; exact (Blk.new _ _ _).drew)
  have HR2 := Lib.hid (HR1.out.only HO2.out (by simp))
  have HN2 := Lib.hid (HN1.out.only HO2.out (by simp))
  have HF2 := Lib.hid (ownsRow_only HF1.out HO2.out (by simp))
  have HV2 := Lib.hid (ownsRow_only HV1.out HO2.out (by simp))
  have HOA := Lib.hid (HO1.out.trans HO2.out)
  have c0 : W2.cell? ⟨w1.heap.size, 0, none⟩ = some (.int .i64 t.k) := HT2.out.cell 0
  have c7 : W2.cell? ⟨w1.heap.size, 7, none⟩ = some (.slice (some aA) al ac) := HT2.out.cell 7
  have r6 : W2.cell? ⟨R, 6, none⟩ = some (.bool false) := HR2.out.cell 6
  have r5 : W2.drew.cell? ⟨R, 5, none⟩ = some (.iface ti x) := HR2.out.cell 5
  have r5a : ∀ o, (W2.alloc o).drew.cell? ⟨R, 5, none⟩ = some (.iface ti x) := fun o => (HR2.out.alloc o).drew.cell 5
  have v1 : W2.drew.cell? ⟨g, 1, none⟩ = some (.slice DA dn dc) := World.ownsRow.cellAt HF2.out 1 (by omega)
  have v1a : (W2.alloc (.cells #[.iface ti x] 81)).drew.cell? ⟨g, 1, none⟩ = some (.slice DA dn dc) := ((Only.refl [] W2).alloc (.cells #[.iface ti x] 81)).drew.cell (by simp) (World.ownsRow.cellAt HF2.out 1 (by omega))
  have hwz := HOA.out.size
  have hw2 := HO2.out.size
  have hw1 := HO1.out.size
  rw [hW2]
  clear hW2
  go_upto_region 8 with fail
  go_region_law (first
    | (refine step_append_any _ rfl _ _ 115 rfl P2 81 i0 _ 1 16 undVs hi0 hz0 hz1 hz2 rfl (by decide) _ dn xs rfl (World.ownsRow.drew (World.ownsRow.alloc HV2.out _)) _ _ _ _ [_] rfl (Reads.blk' (Blk.drew (Blk.new _ _ _)) rfl) (by simp [Value.oneCell']) (by unfold maxLen; omega) (by omega) (by show P2 ≤ (W2.alloc _).heap.size; simp; omega) ?_; intro v2 w5 hown5 hgrow5 hor5; obtain ⟨gv, cv, hv, hgP⟩ := own_row hown5; subst hv; have HVR := Lib.hid (hown5); have HGP := Lib.hid hgP; have hgv := hgP; have HG5 := Lib.hid (((Only.refl [G2] W2).alloc (.cells #[.iface ti x] 81)).drew.grown hgrow5 (fun k hk => .inl (by rw [HG2.out k hk]; simp))); have HF5 := Lib.hid (ownsRow_only HF2.out HG5.out (fun k hk h => by have e : g = k := Option.some.inj hk; have := List.mem_singleton.1 h; omega)); have c5 : w5.cell? ⟨g, 1, none⟩ = some (.slice DA dn dc) := World.ownsRow.cellAt HF5.out 1 (by omega); have f5 := World.ownsRow.frozenAt HF5.out 1; clear hown5 hgrow5 hor5 hgP)
    | fail)
  all_goals
    obtain ⟨W6, hW6⟩ : ∃ W6, w5.setCell ⟨g, 1, none⟩ (.slice (some ⟨gv, 0, none⟩) (dn + 1) cv) = W6 := ⟨_, rfl⟩
    have ho6 : Only [g] w5 W6 := by rw [← hW6]; exact (Only.refl [g] w5).one
    have hn : ∀ k, k ≠ g → k ∉ [g] := fun k hk h => hk (List.mem_singleton.1 h)
    have hn2 : ∀ k, k ≠ G2 → k ∉ [G2] := fun k hk h => hk (List.mem_singleton.1 h)
    have HF6 := Lib.hid (show W6.ownsRow P1 117 3 (.slice (some ⟨g, 0, none⟩) 1 c) 1 [.int .i64 (j : Int), .slice (some ⟨gv, 0, none⟩) (dn + 1) cv, .pointer EF] by rw [← hW6]; exact (World.ownsRow.stored HF5.out 1 _).1)
    have HR6 := Lib.hid ((HR2.out.only HG5.out (hn2 _ hR2)).only ho6 (hn _ hRg))
    have HT6 := Lib.hid ((HT2.out.only HG5.out (hn2 _ (by omega))).only ho6 (hn _ (by omega)))
    have HV6 := Lib.hid (ownsRow_only HVR.out ho6 (fun k hk => by have e : gv = k := Option.some.inj hk; exact hn _ (by omega)))
    have HO6 := Lib.hid (show Only [g, G2] w W6 from (HOA.out.mono (by simp)).trans ((HG5.out.mono (by simp)).trans (ho6.mono (by simp))))
    have HN6 := Lib.hid ((HN2.out.only HG5.out (hn2 _ ha2)).only ho6 (hn _ hag))
    rw [hW6]
    have e1 : W6.cell? ⟨g, 1, none⟩ = some (.slice (some ⟨gv, 0, none⟩) (dn + 1) cv) := World.ownsRow.cellAt HF6.out 1 (by omega)
    have e2 : W6.cell? ⟨g, 2, none⟩ = some (.pointer EF) := World.ownsRow.cellAt HF6.out 2 (by omega)
    have e7 : W6.cell? ⟨w1.heap.size, 7, none⟩ = some (.slice (some aA) al ac) := HT6.out.cell 7
    clear ho6 hn hn2 hW6 c0 c7 r6 r5 v1 c5 f5
    have q1 := decide_eq_false (show ¬ ((dn : Int) + 1) < (al : Int) by omega)
    have HFT := Lib.hid (own_trim HF6.out)
    go_upto_region 12 with fail
    go_quiet (fail)
    go_upto_region 13 with fail
    obtain ⟨W7, hW7⟩ : ∃ W7, W6.drewN nq = W7 := ⟨_, rfl⟩
    have HO7 := Lib.hid (show Only [] W6 W7 by rw [← hW7]; exact (Only.refl [] W6).drewN nq)
    rw [hW7]
    clear hW7 e1 e2 e7
    have HR7 := Lib.hid (HR6.out.only HO7.out (by simp))
    have HT7 := Lib.hid (HT6.out.only HO7.out (by simp))
    have HV7 := Lib.hid (ownsRow_only HV6.out HO7.out (by simp))
    have HFT7 := Lib.hid (ownsRow_only HFT.out HO7.out (by simp))
    have HPO := Lib.hid (pop_one R M g c (.slice (some ad) n nc) env (.iface ti x) node false W7 (own_cap1 HF6.out) HR7.out)
    go_upto_region 14 with (go_at_call 62; ((with_reducible refine (HPO.out).mono ?_); rintro e w8 ⟨rfl, h8, o8⟩))
    have HR8 := Lib.hid h8
    have HO8 := Lib.hid o8
    have hnR : ∀ k, k ≠ R → k ∉ [R] := fun k hk h => hk (List.mem_singleton.1 h)
    have HT8 := Lib.hid (HT7.out.only o8 (hnR _ (by omega)))
    have HV8 := Lib.hid (ownsRow_only HV7.out o8 (fun k hk => by have e : gv = k := Option.some.inj hk; exact hnR _ (by omega)))
    have HFT8 := Lib.hid (ownsRow_only HFT7.out o8 (fun k hk => by have e : g = k := Option.some.inj hk; exact hnR _ (by omega)))
    have HOW8 := Lib.hid (show Only [R, g, G2] w w8 from (HO6.out.mono (by simp)).trans ((HO7.out.mono (by simp)).trans (o8.mono (by simp))))
    have hw8 := HOW8.out.size
    have hab : ad.block ∉ [R, g, G2] := by simp only [List.mem_cons, List.not_mem_nil, or_false, not_or]; exact ⟨haR, hag, ha2⟩
    have hv0 : w8.cell? ⟨gv, 0, none⟩ = some (.iface 110 (.pointer (some ⟨fb, 0, none⟩))) := by rw [World.ownsRow.cellAt HV8.out 0 (by omega), HXS.out]; rfl
    have hv1 : w8.cell? ⟨gv, 1, none⟩ = some (.iface ti x) := by rw [World.ownsRow.cellAt HV8.out 1 (by have := HD1.out; omega), HXS.out]; rfl
    have HFA := Lib.hid (finish_app t u R M gv cv fb jf n nc 0 ad (.slice (some ⟨g, 0, none⟩) 0 c) env (.iface ti x) (.slice VA vl vc) (.slice KA kl kc) (.slice (some aA) al ac) .nilIface .nilIface x ti uA um uc node a false EA EF w8 HTK.out HR8.out hjf hnn
      hv0 hv1 (HFN.out.only HOW8.out hfb)
      (HOW8.out.cell (by rw [show (⟨(ad.add (jf * 8)).block, (ad.add (jf * 8)).off + 1, none⟩ : Addr).block = ad.block from block_of_add _ _]; exact hab) HU.out.1) (HOW8.out.cell (by rw [show (⟨(ad.add (jf * 8)).block, (ad.add (jf * 8)).off + 7, none⟩ : Addr).block = ad.block from block_of_add _ _]; exact hab) HU.out.2.1) hum (HOW8.out.cell huA HU.out.2.2)
      (fun h => hfb (by rw [h]; simp)) haR (fun h => huA (by rw [h]; simp)) (by omega))
    unfold tmVals at HFA
    rw [show (2 : Nat) = dn + 1 by have := HD1.out; omega] at HFA
    have t0 : w8.cell? ⟨w1.heap.size, 0, none⟩ = some (.int .i64 t.k) := HT8.out.cell 0
    have t1 : w8.cell? ⟨w1.heap.size, 1, none⟩ = some (.int .i64 t.n) := HT8.out.cell 1
    have t2 : w8.cell? ⟨w1.heap.size, 2, none⟩ = some (.int .i64 t.i) := HT8.out.cell 2
    have t3 : w8.cell? ⟨w1.heap.size, 3, none⟩ = some (.int .u64 t.b) := HT8.out.cell 3
    have t4 : w8.cell? ⟨w1.heap.size, 4, none⟩ = some (.string ⟨t.t.toArray⟩) := HT8.out.cell 4
    have t5 : w8.cell? ⟨w1.heap.size, 5, none⟩ = some (.slice VA vl vc) := HT8.out.cell 5
    have t6 : w8.cell? ⟨w1.heap.size, 6, none⟩ = some (.slice KA kl kc) := HT8.out.cell 6
    have t7 : w8.cell? ⟨w1.heap.size, 7, none⟩ = some (.slice (some aA) al ac) := HT8.out.cell 7
    clear h8 o8 hv0 hv1 hab
    go_wp2_with (go_at_call 61; ((with_reducible refine (HFA.out).mono ?_); rintro e w9 ⟨rfl, sc, hsc, h9, h9r, o9⟩; have HSC := Lib.hid hsc; have H9 := Lib.hid h9; have H9R := Lib.hid h9r; have O9 := Lib.hid o9; clear hsc h9 h9r o9))
    first | go_end0 | refine bodyPost_ret (results_none rfl _ _ _) rfl ?_
    exact ⟨rfl, sc, Nat.le_trans hw8 HSC.out, H9.out, ownsRow_only HFT8.out O9.out (fun k hk h => by have e : g = k := Option.some.inj hk; have := List.mem_singleton.1 h; omega), H9R.out, HOW8.out.trans (O9.out.mono (by simp))⟩

end Go.Proofs.YtmedfpejfpdpdaaGreatDoor
