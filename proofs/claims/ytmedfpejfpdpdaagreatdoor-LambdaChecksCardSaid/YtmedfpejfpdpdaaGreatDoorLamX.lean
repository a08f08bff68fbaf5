/- Lambda: Check, the reference's way. -/
import Derived.Test.YtmedfpejfpdpdaaGreatDoorLamV
import Derived.BigQuiet
namespace Go.Proofs.YtmedfpejfpdpdaaGreatDoor
open Go.RowKit LamM
/-- The state of the reference's first rounds. -/
structure Ck0 (w0 : World) (n' gb : Nat) (inb : Nat → Bool) (bx : Array Value) (wr : World) : Prop where
  own : wr.ownsRow gb 4 1 (.slice (some ⟨gb, 0, none⟩) n' n') n' (boolVals n' inb)
  bel : Below w0.heap.size w0 wr
  box : Blk wr w0.heap.size 24 bx
section
variable {w0 wr w' : World} {n' gb : Nat} {inb : Nat → Bool} {bx : Array Value}
theorem Ck0.below (H : Ck0 w0 n' gb inb bx wr) (hb : Below wr.heap.size wr w') : Ck0 w0 n' gb inb bx w' :=
  ⟨ownsRow_below H.own hb, H.bel.trans (hb.mono H.bel.size), H.box.below hb H.box.lt⟩
theorem Ck0.drewN (H : Ck0 w0 n' gb inb bx wr) (k : Nat) : Ck0 w0 n' gb inb bx (wr.drewN k) := H.below ⟨rfl, rfl, rfl, Nat.le_refl _, fun _ _ => rfl⟩
theorem Ck0.drew (H : Ck0 w0 n' gb inb bx wr) : Ck0 w0 n' gb inb bx wr.drew := H.below (Below.drew (Below.refl _ _))
theorem Ck0.made (H : Ck0 w0 n' gb inb bx wr) {i : Nat} (hi : i < n') : wr.cell? ⟨gb, i, none⟩ = some (.bool (inb i)) := by
  rw [World.ownsRow.cellAt H.own i (by omega), boolVals_get hi]
theorem cells_below {S G k : Nat} {ad : Addr} {x0 x1 v0 v1 v2 v3 v4 v5 v6 v7 : Option Value} (h : wr.cell? ⟨S, 0, none⟩ = x0 ∧ wr.cell? ⟨G, k, none⟩ = x1 ∧ wr.cell? (ad.add (k * 8)) = v0 ∧ wr.cell? ⟨(ad.add (k * 8)).block, (ad.add (k * 8)).off + 1, none⟩ = v1 ∧ wr.cell? ⟨(ad.add (k * 8)).block, (ad.add (k * 8)).off + 2, none⟩ = v2 ∧ wr.cell? ⟨(ad.add (k * 8)).block, (ad.add (k * 8)).off + 3, none⟩ = v3 ∧ wr.cell? ⟨(ad.add (k * 8)).block, (ad.add (k * 8)).off + 4, none⟩ = v4 ∧ wr.cell? ⟨(ad.add (k * 8)).block, (ad.add (k * 8)).off + 5, none⟩ = v5 ∧ wr.cell? ⟨(ad.add (k * 8)).block, (ad.add (k * 8)).off + 6, none⟩ = v6 ∧ wr.cell? ⟨(ad.add (k * 8)).block, (ad.add (k * 8)).off + 7, none⟩ = v7)
    (hb : Below wr.drew.heap.size wr.drew w') (hS : S < wr.heap.size) (hG : G < wr.heap.size) (had : ad.block < wr.heap.size) :
    w'.cell? ⟨S, 0, none⟩ = x0 ∧ w'.cell? ⟨G, k, none⟩ = x1 ∧ w'.cell? (ad.add (k * 8)) = v0 ∧ w'.cell? ⟨(ad.add (k * 8)).block, (ad.add (k * 8)).off + 1, none⟩ = v1 ∧ w'.cell? ⟨(ad.add (k * 8)).block, (ad.add (k * 8)).off + 2, none⟩ = v2 ∧ w'.cell? ⟨(ad.add (k * 8)).block, (ad.add (k * 8)).off + 3, none⟩ = v3 ∧ w'.cell? ⟨(ad.add (k * 8)).block, (ad.add (k * 8)).off + 4, none⟩ = v4 ∧ w'.cell? ⟨(ad.add (k * 8)).block, (ad.add (k * 8)).off + 5, none⟩ = v5 ∧ w'.cell? ⟨(ad.add (k * 8)).block, (ad.add (k * 8)).off + 6, none⟩ = v6 ∧ w'.cell? ⟨(ad.add (k * 8)).block, (ad.add (k * 8)).off + 7, none⟩ = v7 := by
  have hk : ∀ p : Addr, p.block < wr.heap.size → w'.cell? p = wr.cell? p := fun p hp => hb.cell hp
  have ha : (ad.add (k * 8)).block < wr.heap.size := by rw [block_of_add]; exact had
  rw [hk _ hS, hk _ hG, hk _ ha, hk ⟨_, _, none⟩ ha]
  refine ⟨h.1, h.2.1, h.2.2.1, h.2.2.2.1, ?_⟩
  rw [hk ⟨_, (ad.add (k * 8)).off + 2, none⟩ ha, hk ⟨_, (ad.add (k * 8)).off + 3, none⟩ ha, hk ⟨_, (ad.add (k * 8)).off + 4, none⟩ ha, hk ⟨_, (ad.add (k * 8)).off + 5, none⟩ ha, hk ⟨_, (ad.add (k * 8)).off + 6, none⟩ ha, hk ⟨_, (ad.add (k * 8)).off + 7, none⟩ ha]
  exact h.2.2.2.2
end

set_option maxRecDepth 100000 in
set_option maxHeartbeats 8000000 in
theorem rcheck_in (L : List Tm) (A : Option Addr) (c n root : Nat) (w : World) (hr : root < L.length) (hn : n = root + 1) (hN : NV w w.heap.size (.slice A L.length c) L) :
    Calls Tryz.prog 7 #[.agg #[.slice A L.length c, .int .i64 (root : Int)]] w (CkPost (checkOf prims L (root : Int)) w) := by
  obtain ⟨A', c', e, hc1, hc2⟩ := hN.len
  injection e with e1 e2 e3
  subst e1 e3
  obtain ⟨W0, hW0⟩ : ∃ W0, w.alloc (.cells #[.slice A L.length c, .int .i64 (root : Int)] 24) = W0 := ⟨_, rfl⟩
  have hbw : Below w.heap.size w W0 := by rw [← hW0]; exact (Below.refl _ _).alloc (Nat.le_refl _) _
  have HB0 := Lib.hid hbw
  have HX0 := Lib.hid (show Blk W0 w.heap.size 24 #[.slice A L.length c, .int .i64 (root : Int)] by rw [← hW0]; exact Blk.new _ _ _)
  have b0 : W0.cell? ⟨w.heap.size, 0, none⟩ = some (.slice A L.length c) := HX0.out.cell 0
  have b1 : W0.cell? ⟨w.heap.size, 1, none⟩ = some (.int .i64 (root : Int)) := HX0.out.cell 1
  have HN := Lib.hid hN
  have hnr : n ≤ L.length := by omega
  have hn1 : n ≤ root + 1 := by omega
  have hn2 : root + 1 ≤ n := by omega
  have hrl : (root : Int) < (L.length : Int) := by omega
  have hLn : L.length ≤ 1300000000000 := by omega
  have HRR := Lib.hid (ck_in hr)
  have HRG := Lib.hid (fun ho => below_ok L root ho)
  have HFB := Lib.hid (fun k => formAll_beyond (below L root).1 L (root + 1) (fun j hj => by have := below_le L root j hj; omega) k)
  have HPB := Lib.hid (fun k => primAll_beyond prims (below L root).1 L (root + 1) (fun j hj => by have := below_le L root j hj; omega) k)
  have HBL := Lib.hid (rbelow_any L A c root W0 hr (NV.below hN hbw))
  obtain ⟨RC, hRC⟩ : ∃ RC, checkOf prims L (root : Int) = RC := ⟨_, rfl⟩
  rw [hRC] at HRR ⊢
  unfold BelowPost at HBL
  unfold CkPost
  obtain ⟨inb, hinb⟩ : ∃ b, (below L root).1 = b := ⟨_, rfl⟩
  rw [hinb] at HBL HRR HRG HFB HPB
  have HFR := Lib.hid (fun w' v (h : NV w' w'.heap.size v L) => rfree_any L v (root : Int) w' h)
  rw [freeRes_in hr] at HFR
  generalize (below L root).2 = ok at HBL HRR HRG
  generalize freeOf prims L root = fr at HRR HFR
  clear hN hn hRC hinb hbw hr
  go_enter Tryz.func7, Tryz.ntmps7
  go_wp2_with fail
  go_at_call 16
  (with_reducible refine (HBL.out).mono ?_)
  rintro e w1 ⟨gb, rfl, hgb, hob, hb1⟩
  have HOB := Lib.hid hob
  have HB1 := Lib.hid (HB0.out.trans (hb1.mono HB0.out.size))
  have HX1 := Lib.hid (HX0.out.below hb1 HX0.out.lt)
  clear hob hb1 HBL b0 b1 HB0 HX0 hgb
  cases ok
  · have HR2 := Lib.hid (show RC = 110 by have := HRR.out; rw [if_pos rfl] at this; exact this)
    go_wp2_with fail
    go_ret
    exact ⟨by rw [HR2.out]; rfl, HB1.out⟩
  · have HRG2 := Lib.hid (HRG.out rfl)
    have HRR2 := HRR.out
    rw [if_neg (by decide)] at HRR2
    have HRR3 := Lib.hid HRR2
    have HR0 := Lib.hid (show Ck0 w L.length gb inb #[.slice A L.length c, .int .i64 (root : Int)] w1 from ⟨HOB.out, HB1.out, HX1.out⟩)
    have HFL := Lib.hid (show formAll inb L L.length = formAll inb L (root + 1) by have := HFB.out (L.length - (root + 1)); rwa [show root + 1 + (L.length - (root + 1)) = L.length by omega] at this)
    have HPL := Lib.hid (show primAll prims inb L L.length = primAll prims inb L (root + 1) by have := HPB.out (L.length - (root + 1)); rwa [show root + 1 + (L.length - (root + 1)) = L.length by omega] at this)
    clear HRR2 HRR HRG HFB HPB HOB HB1 HX1
    go_wp2_with fail
    go_loopw [5] (fun ix wr => ∃ (k : Nat), k ≤ L.length ∧ ix = .int .i64 (k : Int) ∧ Hid (formAll inb L k = true) ∧ Hid (Ck0 w L.length gb inb #[.slice A L.length c, .int .i64 (root : Int)] wr)) (fun ix _ => L.length - (intOf ix).toNat)
    case atStart => exact ⟨0, Nat.zero_le _, rfl, rfl, HR0⟩
    case round =>
      obtain ⟨k, hk, rfl, HF, HS⟩ := hrel
      obtain ⟨wo, rfl⟩ : ∃ wo : World, wo = wr := ⟨_, rfl⟩
      rcases Nat.lt_or_ge k L.length with hlt | hge
      · obtain ⟨t, ht⟩ : ∃ t, L[k]? = some t := ⟨_, List.getElem?_eq_getElem (by omega)⟩
        have HNr := NV.below HN.out HS.out.bel
        obtain ⟨ad, vv, kv, av, rfl, had, htv, a0, a1, a2, a3, a4, a5, a6, a7⟩ := HNr.at8 ht
        obtain ⟨VA, vc, rfl, _, _⟩ := htv.v.len
        obtain ⟨KA, kc, rfl, _, _⟩ := htv.k.len
        obtain ⟨AA, ac, rfl, ha1, ha2⟩ := htv.a.len
        have lv := htv.lv
        have lk := htv.lk
        have la := htv.la
        have b0 : wo.cell? ⟨w.heap.size, 0, none⟩ = some (.slice (some ad) L.length c) := HS.out.box.cell 0
        have cin := HS.out.made hlt
        have HTW := Lib.hid htv
        have HNW := Lib.hid HNr
        have hkL : (k : Int) < (L.length : Int) := by omega
        clear HNr htv
        cases hin : inb k
        · rw [hin] at cin
          have HF2 := Lib.hid (show formAll inb L (k + 1) = true by rw [form_skip hin]; exact HF.out)
          clear ht hin
          go_upto_region 9 with fail
          go_quiet (fail)
          go_wp2_with fail
          go_roundw
          case rel => exact ⟨k + 1, by omega, by go_num, HF2, HS.out.drewN _⟩
          case measure => simp [intOf]; omega
        · rw [hin] at cin
          have hfn := form_node (L := L) hin ht
          rw [HF.out, Bool.true_and] at hfn
          have harg : ∀ a ∈ t.args, 0 ≤ a ∧ a < (L.length : Int) := fun a ha => by
            have := HRG2.out k hin a (by unfold argsAt; rw [ht]; exact ha)
            omega
          have HFM := Lib.hid (rformed_any L t _ _ _ _ wo.drew (NV.below HNW.out (Below.drew (Below.refl _ _))) (TV.below HTW.out (Below.drew (Below.refl _ _))) harg)
          unfold tmVals at HFM
          have HSD := Lib.hid HS.out.drew
          have HTD := Lib.hid (⟨had, ⟨b0, cin, a0, a1, a2, a3, a4, a5, a6, a7⟩⟩ : ad.block < wo.heap.size ∧ (wo.cell? ⟨w.heap.size, 0, none⟩ = some (.slice (some ad) L.length c) ∧ wo.cell? ⟨gb, k, none⟩ = some (.bool true) ∧ wo.cell? (ad.add (k * 8)) = some (.int .i64 t.k) ∧ wo.cell? ⟨(ad.add (k * 8)).block, (ad.add (k * 8)).off + 1, none⟩ = some (.int .i64 t.n) ∧ wo.cell? ⟨(ad.add (k * 8)).block, (ad.add (k * 8)).off + 2, none⟩ = some (.int .i64 t.i) ∧ wo.cell? ⟨(ad.add (k * 8)).block, (ad.add (k * 8)).off + 3, none⟩ = some (.int .u64 t.b) ∧ wo.cell? ⟨(ad.add (k * 8)).block, (ad.add (k * 8)).off + 4, none⟩ = some (.string ⟨t.t.toArray⟩) ∧ wo.cell? ⟨(ad.add (k * 8)).block, (ad.add (k * 8)).off + 5, none⟩ = some (.slice VA t.vars.length vc) ∧ wo.cell? ⟨(ad.add (k * 8)).block, (ad.add (k * 8)).off + 6, none⟩ = some (.slice KA t.keys.length kc) ∧ wo.cell? ⟨(ad.add (k * 8)).block, (ad.add (k * 8)).off + 7, none⟩ = some (.slice AA t.args.length ac)))
          clear ht hin harg
          cases hfo : formed L t
          · rw [hfo] at hfn HFM
            have HR2 := Lib.hid (show RC = 110 by have := HRR3.out; rw [if_pos (by rw [← HFL.out]; exact formAll_false (i := k + 1) (by omega) hfn)] at this; exact this)
            clear hfo hfn
            go_upto_region 9 with fail
            go_region_held3 (fun w' => w'.cell? ⟨w.heap.size, 0, none⟩ = some (.slice (some ad) L.length c) ∧ w'.cell? ⟨gb, k, none⟩ = some (.bool true) ∧ w'.cell? (ad.add (k * 8)) = some (.int .i64 t.k) ∧ w'.cell? ⟨(ad.add (k * 8)).block, (ad.add (k * 8)).off + 1, none⟩ = some (.int .i64 t.n) ∧ w'.cell? ⟨(ad.add (k * 8)).block, (ad.add (k * 8)).off + 2, none⟩ = some (.int .i64 t.i) ∧ w'.cell? ⟨(ad.add (k * 8)).block, (ad.add (k * 8)).off + 3, none⟩ = some (.int .u64 t.b) ∧ w'.cell? ⟨(ad.add (k * 8)).block, (ad.add (k * 8)).off + 4, none⟩ = some (.string ⟨t.t.toArray⟩) ∧ w'.cell? ⟨(ad.add (k * 8)).block, (ad.add (k * 8)).off + 5, none⟩ = some (.slice VA t.vars.length vc) ∧ w'.cell? ⟨(ad.add (k * 8)).block, (ad.add (k * 8)).off + 6, none⟩ = some (.slice KA t.keys.length kc) ∧ w'.cell? ⟨(ad.add (k * 8)).block, (ad.add (k * 8)).off + 7, none⟩ = some (.slice AA t.args.length ac)) (first | with_reducible exact K4.out | with_reducible exact K3.out | go_keep)
              (first
                | (go_at_call 21; ((with_reducible refine (HFM.out).mono ?_); rintro e w4 ⟨rfl, hb4⟩; have HS4 := Lib.hid (HSD.out.below hb4); have K4 := Lib.hid (cells_below HTD.out.2 hb4 HS.out.box.lt (World.ownsRow.lt HS.out.own gb rfl).2 HTD.out.1); clear hb4)))
            go_wp2_with fail
            go_ret
            exact ⟨by rw [HR2.out]; rfl, HS4.out.bel⟩
          · rw [hfo] at hfn HFM
            have HF2 := Lib.hid hfn
            clear hfo hfn
            go_upto_region 9 with fail
            go_region_held3 (fun w' => w'.cell? ⟨w.heap.size, 0, none⟩ = some (.slice (some ad) L.length c) ∧ w'.cell? ⟨gb, k, none⟩ = some (.bool true) ∧ w'.cell? (ad.add (k * 8)) = some (.int .i64 t.k) ∧ w'.cell? ⟨(ad.add (k * 8)).block, (ad.add (k * 8)).off + 1, none⟩ = some (.int .i64 t.n) ∧ w'.cell? ⟨(ad.add (k * 8)).block, (ad.add (k * 8)).off + 2, none⟩ = some (.int .i64 t.i) ∧ w'.cell? ⟨(ad.add (k * 8)).block, (ad.add (k * 8)).off + 3, none⟩ = some (.int .u64 t.b) ∧ w'.cell? ⟨(ad.add (k * 8)).block, (ad.add (k * 8)).off + 4, none⟩ = some (.string ⟨t.t.toArray⟩) ∧ w'.cell? ⟨(ad.add (k * 8)).block, (ad.add (k * 8)).off + 5, none⟩ = some (.slice VA t.vars.length vc) ∧ w'.cell? ⟨(ad.add (k * 8)).block, (ad.add (k * 8)).off + 6, none⟩ = some (.slice KA t.keys.length kc) ∧ w'.cell? ⟨(ad.add (k * 8)).block, (ad.add (k * 8)).off + 7, none⟩ = some (.slice AA t.args.length ac)) (first | with_reducible exact K4.out | with_reducible exact K3.out | go_keep)
              (first
                | (go_at_call 21; ((with_reducible refine (HFM.out).mono ?_); rintro e w4 ⟨rfl, hb4⟩; have HS4 := Lib.hid (HSD.out.below hb4); have K4 := Lib.hid (cells_below HTD.out.2 hb4 HS.out.box.lt (World.ownsRow.lt HS.out.own gb rfl).2 HTD.out.1); clear hb4)))
            go_wp2_with fail
            go_roundw
            case rel => exact ⟨k + 1, by omega, by go_num, HF2, HS4⟩
            case measure => simp [intOf]; omega
      · obtain rfl : k = L.length := by omega
        have HR5 := HRR3.out
        rw [← HFL.out, HF.out, if_neg (by decide), ← HPL.out] at HR5
        have HRR6 := Lib.hid HR5
        have q0 : (L.length : Int) ≤ (L.length : Int) := Int.le_refl _
        clear HR5 hge hk HF
        go_wp2_with fail
        go_at_call 10
        (with_reducible refine (prims_any _).mono ?_)
        rintro e w2 ⟨pv, rfl, hpv, hb2⟩
        obtain ⟨PA, pc, hpe, hpc1, hpc2⟩ := hpv.len
        rw [primTab_len] at hpe
        subst hpe
        have HS0 := Lib.hid (show CkS w L.length gb (.slice (some PA) 61 pc) inb #[.slice A L.length c, .int .i64 (root : Int)] w2 from ⟨ownsRow_below HS.out.own hb2, hpv, HS.out.bel.trans (hb2.mono HS.out.bel.size), HS.out.box.below hb2 HS.out.box.lt⟩)
        clear hpv hb2 HS HR0
        go_wp2_with fail
        go_loopw [7] (fun ix wr => ∃ (k : Nat), k ≤ L.length ∧ ix = .int .i64 (k : Int) ∧ Hid (primAll prims inb L k = true) ∧ Hid (CkS w L.length gb (.slice (some PA) 61 pc) inb #[.slice A L.length c, .int .i64 (root : Int)] wr)) (fun ix _ => L.length - (intOf ix).toNat)
        case atStart => exact ⟨0, Nat.zero_le _, rfl, rfl, HS0⟩
        case round =>
          obtain ⟨k, hk, rfl, HP, HS⟩ := hrel
          obtain ⟨wo, rfl⟩ : ∃ wo : World, wo = wr := ⟨_, rfl⟩
          rcases Nat.lt_or_ge k L.length with hlt | hge
          · obtain ⟨t, ht⟩ : ∃ t, L[k]? = some t := ⟨_, List.getElem?_eq_getElem (by omega)⟩
            have HNr := NV.below HN.out HS.out.bel
            obtain ⟨ad, vv, kv, av, rfl, had, htv, a0, a1, a2, a3, a4, a5, a6, a7⟩ := HNr.at8 ht
            obtain ⟨VA, vc, rfl, _, _⟩ := htv.v.len
            obtain ⟨KA, kc, rfl, _, _⟩ := htv.k.len
            obtain ⟨AA, ac, rfl, ha1, ha2⟩ := htv.a.len
            have lv := htv.lv
            have lk := htv.lk
            have la := htv.la
            obtain ⟨W1, hW⟩ : ∃ W1, wo.alloc (BoxT t (.slice VA t.vars.length vc) (.slice KA t.keys.length kc) (.slice AA t.args.length ac)) = W1 := ⟨_, rfl⟩
            have hbw : Below wo.heap.size wo W1 := by rw [← hW]; exact (Below.refl _ _).alloc (Nat.le_refl _) _
            have HBX := Lib.hid (show Blk W1 wo.heap.size 42 #[.int .i64 t.k, .int .i64 t.n, .int .i64 t.i, .int .u64 t.b, .string ⟨t.t.toArray⟩, .slice VA t.vars.length vc, .slice KA t.keys.length kc, .slice AA t.args.length ac] by rw [← hW]; exact Blk.new _ _ _)
            have HS4 := Lib.hid (HS.out.below hbw)
            have cin := HS4.out.made hlt
            have b0 : wo.cell? ⟨w.heap.size, 0, none⟩ = some (.slice (some ad) L.length c) := HS.out.box.cell 0
            unfold BoxT at hW
            have hkL : (k : Int) < (L.length : Int) := by omega
            clear HNr htv hbw
            cases hin : inb k
            · rw [hin] at cin
              have HP2 := Lib.hid (show primAll prims inb L (k + 1) = true by rw [prim_skip hin]; exact HP.out)
              clear ht hin
              go_upto_region 16 with fail
              clear b0 a0 a1 a2 a3 a4 a5 a6 a7
              go_quiet (fail)
              go_wp2_with fail
              go_roundw
              case rel => exact ⟨k + 1, by omega, by go_num, HP2, HS4.out.drewN _⟩
              case measure => simp [intOf]; omega
            · rw [hin] at cin
              have hpn := prim_node (L := L) hin ht
              rw [HP.out] at hpn
              have HPN := Lib.hid hpn
              clear ht hin hpn
              go_upto_region 16 with fail
              clear b0 a0 a1 a2 a3 a4 a5 a6 a7
              have c0 : W1.cell? ⟨wo.heap.size, 0, none⟩ = some (.int .i64 t.k) := HBX.out.cell 0
              have c1 : W1.cell? ⟨wo.heap.size, 1, none⟩ = some (.int .i64 t.n) := HBX.out.cell 1
              have c7 : W1.cell? ⟨wo.heap.size, 7, none⟩ = some (.slice AA t.args.length ac) := HBX.out.cell 7
              by_cases k15 : t.k = 15
              · have q15 := b_true k15
                by_cases n0 : t.n < 0
                · have r0 := decide_eq_true n0
                  have HP2 := Lib.hid (show primAll prims inb L (k + 1) = false by rw [HPN.out, prim_low n0, decide_eq_false (by omega)]; simp)
                  clear k15 n0
                  go_quiet (fail)
                  go_wp2_with fail
                  have HR5 := Lib.hid (show RC = 112 by have := HRR6.out; rw [primAll_false (i := k + 1) (by omega) HP2.out, if_pos rfl] at this; exact this)
                  go_ret
                  exact ⟨by rw [HR5.out]; rfl, below_drewN HS4.out.bel _⟩
                · have r0 := decide_eq_false n0
                  by_cases n61 : 61 ≤ t.n
                  · have r1 := decide_eq_true n61
                    have HP2 := Lib.hid (show primAll prims inb L (k + 1) = false by rw [HPN.out, prim_high n61, decide_eq_false (by omega)]; simp)
                    clear k15 n0 n61
                    go_quiet (fail)
                    go_wp2_with fail
                    have HR5 := Lib.hid (show RC = 112 by have := HRR6.out; rw [primAll_false (i := k + 1) (by omega) HP2.out, if_pos rfl] at this; exact this)
                    go_ret
                    exact ⟨by rw [HR5.out]; rfl, below_drewN HS4.out.bel _⟩
                  · have r1 := decide_eq_false n61
                    obtain ⟨y, hy⟩ : ∃ y : Nat, t.n = (y : Int) := ⟨t.n.toNat, by omega⟩
                    obtain ⟨p, hpt⟩ : ∃ p, primTab[y]? = some p := ⟨_, List.getElem?_eq_getElem (by rw [primTab_len]; omega)⟩
                    obtain ⟨ty, rv, _, _, _, _, cr, _⟩ := HS4.out.prv.at_ hpt
                    replace cr := spell8 (j := 1) cr
                    have hpo := prim_at hy hpt
                    have hy0 : (y : Int) < 61 := by omega
                    have hy1 : (0 : Int) ≤ (y : Int) := by omega
                    rw [hy] at c1 r0 r1
                    by_cases he : p.args = (t.args.length : Int)
                    · have q := n_false he
                      have HP2 := Lib.hid (show primAll prims inb L (k + 1) = true by rw [HPN.out, hpo, b_true he]; simp)
                      clear k15 n0 n61 hy hpt hpo he
                      go_quiet (fail)
                      go_wp2_with fail
                      go_roundw
                      case rel => exact ⟨k + 1, by omega, by go_num, HP2, HS4.out.drewN _⟩
                      case measure => simp [intOf]; omega
                    · have q := n_true he
                      have HP2 := Lib.hid (show primAll prims inb L (k + 1) = false by rw [HPN.out, hpo, b_false he, decide_eq_false (by omega)]; simp)
                      clear k15 n0 n61 hy hpt hpo he
                      go_quiet (fail)
                      go_wp2_with fail
                      have HR5 := Lib.hid (show RC = 112 by have := HRR6.out; rw [primAll_false (i := k + 1) (by omega) HP2.out, if_pos rfl] at this; exact this)
                      go_ret
                      exact ⟨by rw [HR5.out]; rfl, below_drewN HS4.out.bel _⟩
              · have q15 := b_false k15
                have HP2 := Lib.hid (show primAll prims inb L (k + 1) = true by rw [HPN.out, decide_eq_true k15]; simp)
                clear k15
                go_quiet (fail)
                go_wp2_with fail
                go_roundw
                case rel => exact ⟨k + 1, by omega, by go_num, HP2, HS4.out.drewN _⟩
                case measure => simp [intOf]; omega
          · obtain rfl : k = L.length := by omega
            have b0 : wo.cell? ⟨w.heap.size, 0, none⟩ = some (.slice A L.length c) := HS.out.box.cell 0
            have b1 : wo.cell? ⟨w.heap.size, 1, none⟩ = some (.int .i64 (root : Int)) := HS.out.box.cell 1
            have HR4 := HRR6.out
            rw [HP.out] at HR4
            clear hge hk
            rw [if_neg (by decide)] at HR4
            by_cases hm : 262144 < L.length
            · rw [if_pos hm] at HR4
              have HR5 := Lib.hid HR4
              have q1 := decide_eq_true (show (262144 : Int) < (L.length : Int) by omega)
              clear HR4 hm
              go_wp2_with fail
              go_ret
              exact ⟨by rw [HR5.out]; rfl, HS.out.bel⟩
            · rw [if_neg hm] at HR4
              have q1 := decide_eq_false (show ¬ (262144 : Int) < (L.length : Int) by omega)
              have HFW := Lib.hid (HFR.out wo _ (NV.below HN.out HS.out.bel))
              by_cases hfr : fr = []
              · rw [if_pos hfr] at HR4
                have HR5 := Lib.hid HR4
                have HL0 := Lib.hid (show fr.length = 0 by rw [hfr]; rfl)
                clear HR4 hm hfr
                go_wp2_with (go_at_call 5; ((with_reducible refine (HFW.out).mono ?_); rintro e w9 ⟨v9, rfl, hv9, hb9⟩; obtain ⟨A9, c9, rfl, h91, h92⟩ := hv9.len; rw [HL0.out]; have HB9 := Lib.hid (HS.out.bel.trans (hb9.mono HS.out.bel.size)); clear hv9 hb9))
                go_ret
                exact ⟨by rw [HR5.out]; rfl, HB9.out⟩
              · rw [if_neg hfr] at HR4
                have HR5 := Lib.hid HR4
                have hl0 : 0 < fr.length := List.length_pos_iff.2 hfr
                have q2 := decide_eq_true (show (0 : Int) < (fr.length : Int) by omega)
                clear HR4 hm hfr
                go_wp2_with (go_at_call 5; ((with_reducible refine (HFW.out).mono ?_); rintro e w9 ⟨v9, rfl, hv9, hb9⟩; obtain ⟨A9, c9, rfl, h91, h92⟩ := hv9.len; have HB9 := Lib.hid (HS.out.bel.trans (hb9.mono HS.out.bel.size)); clear hv9 hb9))
                go_ret
                exact ⟨by rw [HR5.out]; rfl, HB9.out⟩

set_option maxRecDepth 100000 in
set_option maxHeartbeats 1000000 in
theorem rcheck_any (L : List Tm) (v : Value) (root : Int) (w : World) (hN : NV w w.heap.size v L) : Calls Tryz.prog 7 #[.agg #[v, .int .i64 root]] w (CkPost (checkOf prims L root) w) := by
  obtain ⟨A, c, rfl, hc1, hc2⟩ := hN.len
  have HB := Lib.hid ((Below.refl w.heap.size w).alloc (Nat.le_refl _) (.cells #[.slice A L.length c, .int .i64 root] 24))
  by_cases h0 : root < 0
  · rw [ck_out (.inl h0)]
    have q0 := decide_eq_true h0
    clear hN
    go_enter Tryz.func7, Tryz.ntmps7
    go_wp2_with fail
    go_ret
    exact ⟨rfl, HB.out⟩
  · by_cases h1 : (L.length : Int) ≤ root
    · rw [ck_out (.inr h1)]
      have q0 := decide_eq_false h0
      have q1 := decide_eq_true h1
      clear hN
      go_enter Tryz.func7, Tryz.ntmps7
      go_wp2_with fail
      go_ret
      exact ⟨rfl, HB.out⟩
    · obtain ⟨r, rfl⟩ : ∃ r : Nat, root = (r : Int) := ⟨root.toNat, by omega⟩
      exact rcheck_in L A c (r + 1) r w (by omega) rfl hN

end Go.Proofs.YtmedfpejfpdpdaaGreatDoor
