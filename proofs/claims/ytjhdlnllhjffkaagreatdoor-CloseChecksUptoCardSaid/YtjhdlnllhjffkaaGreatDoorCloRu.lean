/- Close: Run of a program whose steps are known. -/
import Derived.Test.YtjhdlnllhjffkaaGreatDoorCloMg
import Derived.Test.YtjhdlnllhjffkaaGreatDoorCloK
import Derived.StillTailTactics
namespace Go.Proofs.YtjhdlnllhjffkaaGreatDoor
open Go.RowKit LamM CpsM CloM Go.Maps

theorem Only.cell {w w' : World} {bs : List Nat} {p : Addr} {v : Value} (h : Only bs w w') (hp : p.block ∉ bs) (hc : w.cell? p = some v) : w'.cell? p = some v := only_cell h hp hc
/-- How many steps the machine has counted. -/
def stepsOf (M : Nat) (w : World) : Nat := match w.cell? ⟨M, 1, none⟩ with | some (.int _ x) => x.toNat | _ => 0
theorem stepsOf_eq {M k : Nat} {w : World} {out dv : Value} {fuel : Int} (h : Blk w M 119 (MC out (k : Int) fuel dv)) : stepsOf M w = k := by
  have := h.cell 1
  unfold stepsOf
  rw [show w.cell? ⟨M, 1, none⟩ = some (.int .i64 (k : Int)) from this]
  simp
/-- The runner is made. -/
def MadeF (lv fv : Value) (en root fuel : Int) (w2 : World) (p9 : Value) (wx : World) : Prop :=
  ∃ rb R M dg dc : Nat, p9 = .pointer (some ⟨rb, 0, none⟩) ∧ Blk wx rb 83 #[.pointer (some ⟨R, 0, none⟩)] ∧ Blk wx R 88 (RF M lv fv en root (.pointer none) false 0) ∧
    Blk wx M 119 (MC (.slice none 0 0) 0 fuel (.slice (some ⟨dg, 0, none⟩) 61 dc)) ∧ wx.cell? ⟨dg, 58, none⟩ = some printF ∧ w2.heap.size ≤ rb ∧ w2.heap.size ≤ R ∧ w2.heap.size ≤ M ∧ w2.heap.size ≤ dg ∧
    rb ≠ R ∧ rb ≠ M ∧ R ≠ M ∧ dg ≠ R ∧ dg ≠ M ∧ dg ≠ rb ∧ Below w2.heap.size w2 wx
theorem NmS.does {w0 w : World} {B M P0 : Nat} {fuel : Int} {ad : Addr} {dv : Value} {vs : List Value} (H : NmS w0 B M P0 fuel ad dv vs 61 w) : ∃ dg dc, dv = .slice (some ⟨dg, 0, none⟩) 61 dc ∧ w.cell? ⟨dg, 58, none⟩ = some printF ∧ w0.heap.size ≤ dg ∧ dg < w.heap.size := by
  obtain ⟨g, c, hv, hg⟩ := own_rowC (n := 60) H.own
  subst hv
  have hl := (World.ownsRow.lt H.own g rfl).2
  have hlen := H.own.1
  obtain ⟨u, hu⟩ : ∃ u, vs[58]? = some u := ⟨_, List.getElem?_eq_getElem (by omega)⟩
  refine ⟨g, c, rfl, ?_, by have := H.hM; have := H.hMB; have := H.hBP; omega, hl⟩
  rw [World.ownsRow.cellAt H.own 58 (by omega), hu, H.prt u hu]
theorem MadeF.of {lv fv : Value} {en root fuel : Int} {W w2 w3 wx : World} {bs : List Nat} {B M P0 R rb : Nat} {ad : Addr} {dv : Value} {vs : List Value} (H : NmS W B M P0 fuel ad dv vs 61 w3) (hW : Below w2.heap.size w2 W) (ho : Only bs w3 wx)
    (hbs : ∀ k ∈ bs, w2.heap.size ≤ k ∧ ∃ cs, Blk w3 k 83 cs) (hr : Blk wx rb 83 #[.pointer (some ⟨R, 0, none⟩)]) (hR : Blk wx R 88 (RF M lv fv en root (.pointer none) false 0))
    (h1 : w2.heap.size ≤ rb) (h2 : w2.heap.size ≤ R) : MadeF lv fv en root fuel w2 (.pointer (some ⟨rb, 0, none⟩)) wx := by
  obtain ⟨dg, dc, hdv, hc, hg1, hg2⟩ := H.does
  have hM := H.box
  have hown := H.own
  subst hdv
  have hdb : dg ∉ bs := fun h => by
    obtain ⟨_, cs, hk⟩ := hbs dg h
    exact own_blk_ne hown hk (by decide) rfl
  have hMb : M ∉ bs := fun h => by
    obtain ⟨_, cs, hk⟩ := hbs M h
    exact hM.ne_ hk (by decide) rfl
  have hMx := hM.only ho hMb
  have hox := ownsRow_only hown ho (fun k hk => by have e : dg = k := Option.some.inj hk; rw [← e]; exact hdb)
  have hne : ∀ {k : Nat} {t : TypeId} {cs : Array Value}, Blk wx k t cs → FT ≠ t → dg ≠ k := fun hk ht e => own_blk_ne hox hk ht (by rw [← e]; rfl)
  have hz := hW.size
  have hm := H.hM
  exact ⟨rb, R, M, dg, dc, rfl, hr, hR, hMx, ho.cell hdb hc, h1, h2, Nat.le_trans hz hm, Nat.le_trans hz hg1, hr.ne_ hR (by decide), hr.ne_ hMx (by decide), hR.ne_ hMx (by decide), hne hR (by decide), hne hMx (by decide), hne hr (by decide),
    below_only (hW.trans (H.bel.mono hz)) ho (fun k hk => (hbs k hk).1) (Nat.le_trans hz H.bel.size)⟩
/-- What stays while the program runs. -/
structure StF (w0 : World) (L : List Fl) (ad : Addr) (nc rb R M bo : Nat) (wX : World) : Prop where
  rbv : Blk wX rb 83 #[.pointer (some ⟨R, 0, none⟩)]
  obv : Blk wX bo 58 #[.slice none 0 0, .int .i64 0, .string ⟨#[]⟩, .int .i64 0]
  nod : NF wX w0.heap.size (.slice (some ad) L.length nc) L
  bel : Below w0.heap.size w0 wX
  siz : w0.heap.size ≤ wX.heap.size
  frs : w0.heap.size ≤ rb ∧ w0.heap.size ≤ R ∧ w0.heap.size ≤ M ∧ w0.heap.size ≤ bo
  nes : rb ≠ R ∧ rb ≠ M ∧ R ≠ M ∧ bo ≠ R ∧ bo ≠ M ∧ bo ≠ rb
theorem StF.only {w0 wX wY : World} {L : List Fl} {ad : Addr} {nc rb R M bo : Nat} {bs : List Nat} (H : StF w0 L ad nc rb R M bo wX) (ho : Only bs wX wY) (hb : ∀ k ∈ bs, w0.heap.size ≤ k ∧ k ≠ rb ∧ k ≠ bo) : StF w0 L ad nc rb R M bo wY := by
  have hn : ∀ {x : Nat}, (x = rb ∨ x = bo ∨ x < w0.heap.size) → x ∉ bs := fun hx hm => by
    obtain ⟨h1, h2, h3⟩ := hb _ hm
    rcases hx with h | h | h
    · exact h2 h
    · exact h3 h
    · omega
  exact ⟨H.rbv.only ho (hn (.inl rfl)), H.obv.only ho (hn (.inr (.inl rfl))), H.nod.keep (fun p hp => World.cell?_of_block (ho.block p.block (Nat.lt_of_lt_of_le hp H.siz) (hn (.inr (.inr hp))))), below_only H.bel ho (fun k hk => (hb k hk).1) H.siz, Nat.le_trans H.siz ho.size, H.frs, H.nes⟩
/-- One step of a program that is known: what the runner's cells are, and what its move leaves. -/
def StepF (w0 : World) (L : List Fl) (fs : List FnD) (ad : Addr) (nc : Nat) (fad : Addr) (fc : Nat) (en : Int) (Res : Int → Int → Prop) (Sh : Nat → Nat → Nat → World → Prop) (R M k : Nat) (w' : World) : Prop :=
  ∃ (j : Nat) (env : Value), (Blk w' R 88 (RF M (.slice (some ad) L.length nc) (.slice (some fad) fs.length fc) en (j : Int) env true 1) ∧ Res 1 (k : Int)) ∨
    (Blk w' R 88 (RF M (.slice (some ad) L.length nc) (.slice (some fad) fs.length fc) en (j : Int) env false 0) ∧ (k = 100 → Res 3 100) ∧ ∃ t : Fl, L[j]? = some t ∧ ∀ (VA KA AA : Option Addr) (vc kc ac : Nat), FV w' w0.heap.size t (.slice VA t.vars.length vc) (.slice KA t.keys.length kc) (.slice AA t.args.length ac) → ∀ w'', Only [M] w' w'' →
      Calls Tryz.prog 47 #[runV R, .agg #[.int .i64 t.k, .int .i64 t.n, .int .i64 t.m, .int .i64 t.i, .int .u64 t.b, .string ⟨t.t.toArray⟩, .slice VA t.vars.length vc, .slice KA t.keys.length kc, .slice AA t.args.length ac]] w'' fun e w3 => e = .returned (.tuple #[]) ∧ Sh R M (k + 1) w3 ∧ Only [R] w'' w3)
set_option maxRecDepth 100000 in
set_option maxHeartbeats 8000000 in
theorem frun_any (L : List Fl) (fs : List FnD) (e0 : Nat) (f0 : FnD) (en root : Int) (hen : en = (e0 : Int)) (hroot : f0.body = root) (hf0 : fs[e0]? = some f0) (ad : Addr) (nc : Nat) (fad : Addr) (fc : Nat) (w : World) (Res : Int → Int → Prop) (Sh : Nat → Nat → Nat → World → Prop) (hck : checkF prims L fs en = 0) (_hL : L.length ≤ 100) (hla : ∀ t ∈ L, t.args.length ≤ 1048576) (hFN : FnV w w.heap.size (.slice (some fad) fs.length fc) fs) (hN : NF w w.heap.size (.slice (some ad) L.length nc) L)
    (h0 : ∀ R M w', Blk w' R 88 (RF M (.slice (some ad) L.length nc) (.slice (some fad) fs.length fc) en root (.pointer none) false 0) → w.heap.size ≤ R → Sh R M 0 w')
    (hstep : ∀ R M k w' dv, Sh R M k w' → Below w.heap.size w w' → w.heap.size ≤ R → w.heap.size ≤ M → Blk w' M 119 (MC (.slice none 0 0) (k : Int) 100 dv) → StepF w L fs ad nc fad fc en Res Sh R M k w') :
    Calls Tryz.prog 21 #[.agg #[.slice (some ad) L.length nc, .slice (some fad) fs.length fc, .int .i64 en], .slice none 0 0, .int .i64 100] w fun e w' => ∃ st steps, e = .returned (.tuple #[.agg #[.slice none 0 0, .int .i64 st, .string ⟨#[]⟩, .int .i64 steps], .int .i64 0]) ∧ Res st steps ∧ Below w.heap.size w w' := by
  subst hen
  have hmf := mk_func
  obtain ⟨W1, hW⟩ : ∃ W1, (w.alloc (.cells #[.slice (some ad) L.length nc, .slice (some fad) fs.length fc, .int .i64 (e0 : Int)] 25)).alloc (.cells #[.slice none 0 0, .int .i64 0, .string ⟨#[]⟩, .int .i64 0] 58) = W1 := ⟨_, rfl⟩
  have hb1 : Below w.heap.size w W1 := by rw [← hW]; exact ((Below.refl _ _).alloc (Nat.le_refl _) _).alloc (by simp) _
  have HBP := Lib.hid (show Blk W1 w.heap.size 25 #[.slice (some ad) L.length nc, .slice (some fad) fs.length fc, .int .i64 (e0 : Int)] by rw [← hW]; exact (Blk.new _ _ _).alloc _)
  have HBO := Lib.hid (show Blk W1 (w.heap.size + 1) 58 #[.slice none 0 0, .int .i64 0, .string ⟨#[]⟩, .int .i64 0] by rw [← hW]; have := Blk.new (w.alloc (.cells #[.slice (some ad) L.length nc, .slice (some fad) fs.length fc, .int .i64 (e0 : Int)] 25)) 58 #[.slice none 0 0, .int .i64 0, .string ⟨#[]⟩, .int .i64 0]; rwa [show (w.alloc (.cells #[.slice (some ad) L.length nc, .slice (some fad) fs.length fc, .int .i64 (e0 : Int)] 25)).heap.size = w.heap.size + 1 by simp] at this)
  have HN1 := Lib.hid (NF.below hN hb1)
  have HF1 := Lib.hid (FnV.below hFN hb1)
  obtain ⟨adx, PA0, pc0, hadE, hfb0, _, _, _, _, hfc0⟩ := hFN.at2 hf0
  obtain rfl := Option.some.inj hadE
  have HFB := Lib.hid (show (fad.add (e0 * 2)).block < w.heap.size by rw [block_of_add]; exact hfb0)
  rw [hroot] at hfc0
  have HFC := Lib.hid hfc0
  have he0 : (e0 : Int) < (fs.length : Int) := by have := (List.getElem?_eq_some_iff.1 hf0).1; omega
  have HB1 := Lib.hid hb1
  have HCK := Lib.hid (fcheck_any L fs (.slice (some ad) L.length nc) (.slice (some fad) fs.length fc) (e0 : Int) W1 HN1.out HF1.out hla)
  unfold CkPost at HCK
  rw [hck] at HCK
  have b0 : W1.cell? ⟨w.heap.size, 0, none⟩ = some (.slice (some ad) L.length nc) := HBP.out.cell 0
  have b1 : W1.cell? ⟨w.heap.size, 1, none⟩ = some (.slice (some fad) fs.length fc) := HBP.out.cell 1
  have b2 : W1.cell? ⟨w.heap.size, 2, none⟩ = some (.int .i64 (e0 : Int)) := HBP.out.cell 2
  clear hb1 hfc0 hadE hfb0 hf0 hroot hla hFN
  go_enter_defers Tryz.func21, Tryz.ntmps21
  go_upto_region 6 with (go_at_call 4; ((with_reducible refine (HCK.out).mono ?_); rintro e w2 ⟨rfl, hb2⟩))
  have HBP2 := Lib.hid (HBP.out.below hb2 HBP.out.lt)
  have HBO2 := Lib.hid (HBO.out.below hb2 HBO.out.lt)
  have HB2 := Lib.hid (HB1.out.trans (hb2.mono HB1.out.size))
  have HN2 := Lib.hid (NF.below HN1.out hb2)
  have HNW := Lib.hid (new_any 100 w2.drew)
  have HNA := Lib.hid (new_any 100 (w2.alloc (.cells #[.pointer none] 83)).drew)
  unfold NewPost at HNW HNA
  have HKS := Lib.hid (fun w' (hb : Below w2.heap.size w2 w') => show w'.cell? ⟨w.heap.size, 0, none⟩ = some (.slice (some ad) L.length nc) ∧ w'.cell? ⟨w.heap.size, 1, none⟩ = some (.slice (some fad) fs.length fc) ∧ w'.cell? ⟨w.heap.size, 2, none⟩ = some (.int .i64 (e0 : Int)) ∧ w'.cell? ⟨(fad.add (e0 * 2)).block, (fad.add (e0 * 2)).off + 1, none⟩ = some (.int .i64 root) from ⟨(HBP2.out.below hb HBP2.out.lt).cell 0, (HBP2.out.below hb HBP2.out.lt).cell 1, (HBP2.out.below hb HBP2.out.lt).cell 2, ((HB2.out.trans (hb.mono HB2.out.size)).cell (p := ⟨(fad.add (e0 * 2)).block, (fad.add (e0 * 2)).off + 1, none⟩) HFB.out).trans HFC.out⟩)
  have K0 := Lib.hid (HKS.out w2.drew (Below.drew (Below.refl _ _)))
  have K1 := Lib.hid (fun o => HKS.out (w2.alloc o).drew (Below.drew ((Below.refl _ _).alloc (Nat.le_refl _) o)))
  have hbl := HBP2.out.lt
  clear b0 b1 b2 hb2 hW
  go_cut [9] from 23 to 35 (fun p9 wx => Hid (MadeF (.slice (some ad) L.length nc) (.slice (some fad) fs.length fc) (e0 : Int) root 100 w2 p9 wx))
  case first =>
    go_region_held3 (fun w' => w'.cell? ⟨w.heap.size, 0, none⟩ = some (.slice (some ad) L.length nc) ∧ w'.cell? ⟨w.heap.size, 1, none⟩ = some (.slice (some fad) fs.length fc) ∧ w'.cell? ⟨w.heap.size, 2, none⟩ = some (.int .i64 (e0 : Int)) ∧ w'.cell? ⟨(fad.add (e0 * 2)).block, (fad.add (e0 * 2)).off + 1, none⟩ = some (.int .i64 root)) (first | with_reducible exact K0.out | with_reducible exact K1.out _ | with_reducible exact K3.out | with_reducible exact K5.out _ _ | with_reducible exact K7.out _ _ | with_reducible exact K8.out _ | go_keep)
      (first
        | (go_at_call 43; ((with_reducible refine (HNW.out).mono ?_); rintro e w3 ⟨M, P0, pad, dv, B, vs, rfl, hnm⟩; have HNM := Lib.hid hnm; have HBN := Lib.hid (show Below w2.heap.size w2 w3 from (Below.drew (Below.refl _ _)).trans hnm.bel); have K3 := Lib.hid (HKS.out w3 HBN.out); have K8 := Lib.hid (fun o => HKS.out (w3.alloc o) (HBN.out.alloc HBN.out.size o)); have K7 := Lib.hid (fun o o' => HKS.out ((w3.alloc o).alloc o') ((HBN.out.alloc HBN.out.size o).alloc (HBN.out.alloc HBN.out.size o).size o')); clear hnm))
        | (go_at_call 43; ((with_reducible refine (HNA.out).mono ?_); rintro e w3 ⟨M, P0, pad, dv, B, vs, rfl, hnm⟩; have HNM := Lib.hid hnm; have HBN := Lib.hid (show Below w2.heap.size w2 w3 from (Below.drew ((Below.refl w2.heap.size w2).alloc (Nat.le_refl _) _)).trans (hnm.bel.mono (by show _ ≤ (w2.alloc _).heap.size; simp))); have K3 := Lib.hid (HKS.out w3 HBN.out); have K8 := Lib.hid (fun o => HKS.out (w3.alloc o) (HBN.out.alloc HBN.out.size o)); have HRB := Lib.hid (((Blk.new w2 83 #[.pointer none]).drew).below hnm.bel (by show w2.heap.size < (w2.alloc _).heap.size; simp)); have rc3 : w3.cell? ⟨w2.heap.size, 0, none⟩ = some (.pointer none) := HRB.out.cell 0; have rf3 : w3.frozen? ⟨w2.heap.size, 0, none⟩ = false := HRB.out.frozen 0; have rc4 : ∀ o, (w3.alloc o).cell? ⟨w2.heap.size, 0, none⟩ = some (.pointer none) := fun o => (HRB.out.alloc o).cell 0; have rf4 : ∀ o, (w3.alloc o).frozen? ⟨w2.heap.size, 0, none⟩ = false := fun o => (HRB.out.alloc o).frozen 0; have K5 := Lib.hid (fun o u => HKS.out ((w3.alloc o).setCell ⟨w2.heap.size, 0, none⟩ u) ((HBN.out.alloc HBN.out.size o).setCell (p := ⟨w2.heap.size, 0, none⟩) (Nat.le_refl _) u)); clear hnm)))
    all_goals
      go_wp2_with fail
      go_meet
    case rel =>
      have hz := HNM.out.bel.size
      have hz2 : w2.heap.size ≤ w3.heap.size := hz
      refine Lib.hid (MadeF.of HNM.out (Below.drew (Below.refl _ _)) (bs := []) (((Only.refl [] w3).alloc _).alloc _) (fun k h => by cases h) ?_ (((Blk.new w3 _ _)).alloc _) (by omega) (by omega))
      have := Blk.new (w3.alloc (.cells (RF M (.slice (some ad) L.length nc) (.slice (some fad) fs.length fc) (e0 : Int) root (.pointer none) false 0) 88)) 83 #[.pointer (some ⟨w3.heap.size, 0, none⟩)]
      rwa [show (w3.alloc (.cells (RF M (.slice (some ad) L.length nc) (.slice (some fad) fs.length fc) (e0 : Int) root (.pointer none) false 0) 88)).heap.size = w3.heap.size + 1 by simp] at this
    case rel =>
      have hz := HNM.out.bel.size
      have hz2 : w2.heap.size ≤ w3.heap.size := hz
      refine Lib.hid (MadeF.of HNM.out (Below.drew (Below.refl _ _)) (bs := []) (((Only.refl [] w3).alloc _).alloc _) (fun k h => by cases h) (((Blk.new w3 _ _)).alloc _) ?_ (by omega) (by omega))
      have := Blk.new (w3.alloc (.cells #[.pointer (some ⟨w3.heap.size + 1, 0, none⟩)] 83)) 88 (RF M (.slice (some ad) L.length nc) (.slice (some fad) fs.length fc) (e0 : Int) root (.pointer none) false 0)
      rwa [show (w3.alloc (.cells #[.pointer (some ⟨w3.heap.size + 1, 0, none⟩)] 83)).heap.size = w3.heap.size + 1 by simp] at this
    case rel =>
      have hz2 : w2.heap.size < w3.heap.size := HRB.out.lt
      refine Lib.hid (MadeF.of HNM.out ((Below.drew ((Below.refl _ _).alloc (Nat.le_refl _) _))) (bs := [w2.heap.size]) ((((Only.refl [w2.heap.size] w3).alloc _).one)) (fun k h => by rw [List.mem_singleton.1 h]; exact ⟨Nat.le_refl _, _, HRB.out⟩) ((HRB.out.alloc _).set_ 0 _) (((Blk.new w3 _ _)).far (by show w3.heap.size ≠ w2.heap.size; omega) _) (by omega) (by omega))
  case rest =>
    obtain ⟨rb, R, M, dg, dc, rfl, hrb, hR, hM, hdg, h1, h2, h3, h4, n1, n2, n3, n4, n5, n6, hbx⟩ := hcut.out
    have hbo : w.heap.size + 1 < w2.heap.size := HBO2.out.lt
    have HS0 := Lib.hid (show StF w L ad nc rb R M (w.heap.size + 1) wc from ⟨hrb, HBO2.out.below hbx hbo, hN.keep (fun p hp => (HB2.out.trans (hbx.mono HB2.out.size)).cell hp), HB2.out.trans (hbx.mono HB2.out.size), by have := HB2.out.size; have := hbx.size; omega, ⟨by omega, by omega, by omega, by omega⟩, ⟨n1, n2, n3, by omega, by omega, by omega⟩⟩)
    have HSH := Lib.hid (h0 R M wc hR (by omega))
    have HST := Lib.hid hstep
    obtain ⟨dv, hdv⟩ : ∃ dv, Value.slice (some ⟨dg, 0, none⟩) 61 dc = dv := ⟨_, rfl⟩
    rw [hdv] at hM
    have HM := Lib.hid hM
    clear hcut hrb hR hM hdg h1 h2 h3 h4 n1 n2 n3 n4 n5 n6 hbx K0 K1 HKS HNW HNA hdv hstep h0 hN hbl hbo HCK HBP HBO HN1 HB1 HBP2 HBO2 HB2 HN2
    go_wp2_with fail
    go_loopw [] (fun wr => ∃ k : Nat, k ≤ 100 ∧ Hid (StF w L ad nc rb R M (w.heap.size + 1) wr) ∧ Hid (Sh R M k wr) ∧ Hid (Blk wr M 119 (MC (.slice none 0 0) (k : Int) 100 dv))) (fun wr => 100 - stepsOf M wr)
    case atStart => exact ⟨0, Nat.zero_le _, HS0, HSH, HM⟩
    case round =>
      obtain ⟨k, hk, HS, HSH, HM⟩ := hrel
      have hsc := HST.out R M k wr dv HSH.out HS.out.bel HS.out.frs.2.1 HS.out.frs.2.2.1 HM.out
      unfold StepF at hsc
      have HKK := Lib.hid hk
      have r9 : wr.cell? ⟨rb, 0, none⟩ = some (.pointer (some ⟨R, 0, none⟩)) := HS.out.rbv.cell 0
      obtain ⟨j, env, ⟨hR, hres⟩ | ⟨hR, hres, t, ht, hmv⟩⟩ := hsc
      · have HR := Lib.hid hR
        have HRES := Lib.hid hres
        have c4 : wr.cell? ⟨R, 6, none⟩ = some (.bool true) := hR.cell 6
        have c5 : wr.cell? ⟨R, 7, none⟩ = some (.slice none 0 0) := hR.cell 7
        have c6 : wr.cell? ⟨R, 8, none⟩ = some (.int .i64 1) := hR.cell 8
        have c7 : wr.cell? ⟨R, 9, none⟩ = some (.string ⟨#[]⟩) := hR.cell 9
        have c8 : wr.cell? ⟨R, 10, none⟩ = some (.int .i64 0) := hR.cell 10
        have b0 : wr.cell? ⟨w.heap.size + 1, 0, none⟩ = some (.slice none 0 0) := HS.out.obv.cell 0
        have b1 : wr.cell? ⟨w.heap.size + 1, 1, none⟩ = some (.int .i64 0) := HS.out.obv.cell 1
        have b2 : wr.cell? ⟨w.heap.size + 1, 2, none⟩ = some (.string ⟨#[]⟩) := HS.out.obv.cell 2
        have b3 : wr.cell? ⟨w.heap.size + 1, 3, none⟩ = some (.int .i64 0) := HS.out.obv.cell 3
        have f0 := HS.out.obv.frozen 0
        have f1 := HS.out.obv.frozen 1
        have f2 := HS.out.obv.frozen 2
        have f3 := HS.out.obv.frozen 3
        clear hR hres hk
        go_wp2_with fail
        obtain ⟨n1, n2, n3, n4, n5, n6⟩ := HS.out.nes
        obtain ⟨W5, hW5⟩ : ∃ W5, ((((wr.setCell ⟨w.heap.size + 1, 0, none⟩ (.slice none 0 0)).setCell ⟨w.heap.size + 1, 1, none⟩ (.int .i64 1)).setCell ⟨w.heap.size + 1, 2, none⟩ (.string ⟨#[]⟩)).setCell ⟨w.heap.size + 1, 3, none⟩ (.int .i64 0)) = W5 := ⟨_, rfl⟩
        have ho5 : Only [w.heap.size + 1] wr W5 := by rw [← hW5]; exact ((((Only.refl _ _).one).one).one).one
        have hOb : Blk W5 (w.heap.size + 1) 58 #[.slice none 0 0, .int .i64 1, .string ⟨#[]⟩, .int .i64 0] := by rw [← hW5]; exact (((HS.out.obv.set_ 0 (.slice none 0 0)).set_ 1 (.int .i64 1)).set_ 2 (.string ⟨#[]⟩)).set_ 3 (.int .i64 0)
        rw [hW5]
        refine leaves_cons (f := 44) (args := #[.pointer (some ⟨rb, 0, none⟩), .pointer (some ⟨w.heap.size + 1, 0, none⟩)]) (by simp) (by simp [go_sem]) ?_
        refine (frun1_ret rb R M (w.heap.size + 1) 0 0 none dv (k : Int) 100 (.int .i64 1) (.string ⟨#[]⟩) (.slice none 0 0) (.int .i64 0) W5 ((HS.out.rbv.only ho5 (by simp; omega)).cell 0) ((HR.out.only ho5 (by simp; omega)).cell 0) (HM.out.only ho5 (by simp; omega)) hOb (by omega)).mono ?_
        rintro e u' w'' ⟨rfl, rfl, hO, ho⟩
        have hall := ho5.trans ho
        have q0 : w''.cell? ⟨w.heap.size + 1, 0, none⟩ = some (.slice none 0 0) := hO.cell 0
        have q1 : w''.cell? ⟨w.heap.size + 1, 1, none⟩ = some (.int .i64 1) := hO.cell 1
        have q2 : w''.cell? ⟨w.heap.size + 1, 2, none⟩ = some (.string ⟨#[]⟩) := hO.cell 2
        have q3 : w''.cell? ⟨w.heap.size + 1, 3, none⟩ = some (.int .i64 (k : Int)) := hO.cell 3
        simp [Leaves, settle, results, Tryz.results21, go_sem, q0, q1, q2, q3]
        exact ⟨1, _, ⟨rfl, rfl⟩, HRES.out, below_only HS.out.bel hall (fun k hk => by have := List.mem_singleton.1 hk; omega) HS.out.siz⟩
      · have HR := Lib.hid hR
        have HRES := Lib.hid hres
        have c4 : wr.cell? ⟨R, 6, none⟩ = some (.bool false) := hR.cell 6
        have c0 : wr.cell? ⟨R, 0, none⟩ = some (.pointer (some ⟨M, 0, none⟩)) := hR.cell 0
        have HT := Lib.hid ht
        have HMV := Lib.hid hmv
        rcases Nat.lt_or_ge k 100 with hlt | hge
        · have HSP := Lib.hid (step_ok M (.slice none 0 0) dv (k : Int) 100 wr (by omega) (by omega) (by omega) HM.out)
          clear hR hres ht hmv hk
          go_upto_region 10 with (go_at_call 46; ((with_reducible refine (HSP.out).mono ?_); rintro e w3 ⟨rfl, hM3, o3⟩; have HM3 := Lib.hid hM3; have HO3 := Lib.hid o3; clear hM3 o3; clear r9 c4 c0))
          have HS3 := Lib.hid (HS.out.only HO3.out (fun k hk => by have := HS.out.frs; have := HS.out.nes; have := List.mem_singleton.1 hk; omega))
          have HR3 := Lib.hid (HR.out.only HO3.out (by have := HS.out.nes; simp; omega))
          obtain ⟨adx, vv, kv, av, hadE, had, htv, p0, p1, p2, p3, p4, p5, p6, p7, p8⟩ := HS.out.nod.at9 HT.out
          obtain rfl := Option.some.inj hadE
          have hmn : ∀ (p : Addr), p.block = ad.block → p.block ∉ [M] := fun p hp h => by have := HS.out.frs; have := List.mem_singleton.1 h; omega
          obtain ⟨VA, vc, rfl, _, _⟩ := htv.v.len
          obtain ⟨KA, kc, rfl, _, _⟩ := htv.k.len
          obtain ⟨AA, ac, rfl, _, _⟩ := htv.a.len
          have HMC := Lib.hid (HMV.out VA KA AA vc kc ac htv)
          have hil : j < L.length := (List.getElem?_eq_some_iff.1 HT.out).1
          have hi : (j : Int) < (L.length : Int) := by omega
          replace p0 := only_cell HO3.out.drew (by exact hmn _ (block_of_add ad (j * 9))) p0
          replace p1 := only_cell HO3.out.drew (by exact hmn _ (block_of_add ad (j * 9))) p1
          replace p2 := only_cell HO3.out.drew (by exact hmn _ (block_of_add ad (j * 9))) p2
          replace p3 := only_cell HO3.out.drew (by exact hmn _ (block_of_add ad (j * 9))) p3
          replace p4 := only_cell HO3.out.drew (by exact hmn _ (block_of_add ad (j * 9))) p4
          replace p5 := only_cell HO3.out.drew (by exact hmn _ (block_of_add ad (j * 9))) p5
          replace p6 := only_cell HO3.out.drew (by exact hmn _ (block_of_add ad (j * 9))) p6
          replace p7 := only_cell HO3.out.drew (by exact hmn _ (block_of_add ad (j * 9))) p7
          replace p8 := only_cell HO3.out.drew (by exact hmn _ (block_of_add ad (j * 9))) p8
          have r9 : w3.drew.cell? ⟨rb, 0, none⟩ = some (.pointer (some ⟨R, 0, none⟩)) := HS3.out.rbv.cell 0
          have r1 : w3.drew.cell? ⟨R, 1, none⟩ = some (.slice (some ad) L.length nc) := HR3.out.cell 1
          have r2 : w3.drew.cell? ⟨R, 4, none⟩ = some (.int .i64 (j : Int)) := HR3.out.cell 4
          have HHI := Lib.hid hi
          clear had htv hmn hadE hil
          go_still_tail 12, (by kernel_rfl)
          go_wp2_with (go_at_call 47; ((with_reducible refine (HMC.out _ HO3.out.drew).mono ?_); rintro e w4 ⟨rfl, hsh, ho4⟩; have HSH4 := Lib.hid hsh; have HO4 := Lib.hid (show Only [R] w3 w4 from ((Only.refl [R] w3).drew).trans ho4); clear hsh ho4))
          have HS4 := Lib.hid (HS3.out.only HO4.out (fun x hx => by have := HS.out.frs; have := HS.out.nes; have := List.mem_singleton.1 hx; omega))
          have HM4 := Lib.hid (show Blk w4 M 119 (MC (.slice none 0 0) ((k + 1 : Nat) : Int) 100 dv) from HM3.out.only HO4.out (by have := HS.out.nes; simp; omega))
          go_roundw
          case rel => exact ⟨k + 1, by omega, HS4, HSH4, HM4⟩
          case measure => rw [stepsOf_eq HM4.out, stepsOf_eq HM.out]; omega
        · have HSP := Lib.hid (step_over M (.slice none 0 0) dv (k : Int) 100 wr (by omega) HM.out)
          clear hR hres ht hmv hk
          go_wp2_with (go_at_call 46; ((with_reducible refine (HSP.out).mono ?_); rintro e w3 ⟨rfl, o3⟩; have HO3 := Lib.hid o3; clear o3; clear r9 c4 c0))
          obtain ⟨n1, n2, n3, n4, n5, n6⟩ := HS.out.nes
          obtain rfl : k = 100 := by have := HKK.out; omega
          refine leaves_cons (f := 44) (args := #[.pointer (some ⟨rb, 0, none⟩), .pointer (some ⟨w.heap.size + 1, 0, none⟩)]) (by simp) (by simp [go_sem]) ?_
          refine (frun1_pan rb R M (w.heap.size + 1) 0 0 none dv 100 100 (.int .i64 0) (.string ⟨#[]⟩) (.slice none 0 0) (.int .i64 0) _ ((HS.out.rbv.only HO3.out (by simp)).cell 0) ((HR.out.only HO3.out (by simp)).cell 0) (HM.out.only HO3.out (by simp)) (HS.out.obv.only HO3.out (by simp)) (by omega)).mono ?_
          rintro e u' w'' ⟨rfl, rfl, hO, ho⟩
          have hall := (HO3.out.mono (cs := [w.heap.size + 1]) (by simp)).trans ho
          have q0 : w''.cell? ⟨w.heap.size + 1, 0, none⟩ = some (.slice none 0 0) := hO.cell 0
          have q1 : w''.cell? ⟨w.heap.size + 1, 1, none⟩ = some (.int .i64 3) := hO.cell 1
          have q2 : w''.cell? ⟨w.heap.size + 1, 2, none⟩ = some (.string ⟨#[]⟩) := hO.cell 2
          have q3 : w''.cell? ⟨w.heap.size + 1, 3, none⟩ = some (.int .i64 100) := hO.cell 3
          simp [Leaves, settle, results, Tryz.results21, go_sem, q0, q1, q2, q3]
          exact ⟨3, 100, ⟨rfl, rfl⟩, HRES.out rfl, below_only HS.out.bel hall (fun k hk => by have := List.mem_singleton.1 hk; omega) HS.out.siz⟩
end Go.Proofs.YtjhdlnllhjffkaaGreatDoor
