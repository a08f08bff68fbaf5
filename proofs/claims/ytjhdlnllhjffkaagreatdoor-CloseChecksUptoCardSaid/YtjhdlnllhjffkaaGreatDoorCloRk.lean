/- Close: Check, the reference's way. -/
import Derived.Test.YtjhdlnllhjffkaaGreatDoorCloMq
import Derived.Test.YtjhdlnllhjffkaaGreatDoorCloMo
import Derived.Test.YtjhdlnllhjffkaaGreatDoorCloMr
namespace Go.Proofs.YtjhdlnllhjffkaaGreatDoor
open Go.RowKit LamM CpsM CloM

def okF (L : List Fl) (f : FnD) : Bool := funOk L f && allC (formedRS prims L) (belowC L f.body.toNat).1 L L.length
/-- The row of all that is made, while one function's is put in. -/
def mixB (U inb : Nat → Bool) (m : Nat) : Nat → Bool := fun j => U j || (decide (j < m) && inb j)
theorem mixB_zero {U inb : Nat → Bool} : mixB U inb 0 = U := by funext j; unfold mixB; simp
theorem mixB_at {U inb : Nat → Bool} {m : Nat} : mixB U inb m m = U m := by unfold mixB; simp
theorem mixB_set {U inb : Nat → Bool} {n m : Nat} (hm : m < n) : (boolVals n (mixB U inb m)).set m (.bool (U m || inb m)) = boolVals n (mixB U inb (m + 1)) := by
  refine List.ext_getElem? fun j => ?_
  unfold boolVals
  rw [List.getElem?_set]
  by_cases e : m = j
  · subst e
    rw [if_pos rfl, if_pos (by simpa using hm), List.getElem?_map, List.getElem?_range hm]
    simp [mixB]
  · rw [if_neg e, List.getElem?_map, List.getElem?_map]
    cases hj : (List.range n)[j]? with
    | none => rfl
    | some i =>
      have : i = j := by
        rcases Nat.lt_or_ge j n with h | h
        · rw [List.getElem?_range h] at hj; exact (Option.some.inj hj).symm
        · rw [List.getElem?_eq_none (by simpa using h)] at hj; cases hj
      subst this
      show some (Value.bool (mixB U inb m i)) = some (Value.bool (mixB U inb (m + 1) i))
      have h2 : decide (i < m) = decide (i < m + 1) := by rw [decide_eq_decide]; omega
      unfold mixB
      rw [h2]
theorem mixB_all {U inb : Nat → Bool} {n : Nat} (h : ∀ j, inb j = true → j < n) : mixB U inb n = fun j => U j || inb j := by
  funext j
  unfold mixB
  cases hj : inb j
  · simp
  · rw [decide_eq_true (h j hj)]; rfl
theorem unionB_snoc {L : List Fl} {fs : List FnD} {k : Nat} {f : FnD} (h : fs[k]? = some f) : unionB L (fs.take (k + 1)) = fun j => unionB L (fs.take k) j || (belowC L f.body.toNat).1 j := by
  funext j
  unfold unionB
  rw [← take_snoc h, List.any_append]
  simp
/-- What the reference's rounds over the functions carry. -/
structure RkS (w4 : World) (n ga : Nat) (U : Nat → Bool) (wr : World) : Prop where
  own : wr.ownsRow ga 4 1 (.slice (some ⟨ga, 0, none⟩) n n) n (boolVals n U)
  bel : Below w4.heap.size w4 wr
  hg : w4.heap.size ≤ ga
theorem RkS.below {w4 wr w' : World} {n ga : Nat} {U : Nat → Bool} (h : RkS w4 n ga U wr) (hb : Below wr.heap.size wr w') : RkS w4 n ga U w' := ⟨ownsRow_below h.own hb, h.bel.trans (hb.mono h.bel.size), h.hg⟩
theorem k9_below {wo w5 : World} {S G k : Nat} {ad : Addr} {x0 x1 v0 v1 v2 v3 v4 v5 v6 v7 v8 : Option Value} (h : wo.drew.cell? ⟨S, 0, none⟩ = x0 ∧ wo.drew.cell? ⟨G, k, none⟩ = x1 ∧ wo.drew.cell? (ad.add (k * 9)) = v0 ∧ wo.drew.cell? ⟨(ad.add (k * 9)).block, (ad.add (k * 9)).off + 1, none⟩ = v1 ∧ wo.drew.cell? ⟨(ad.add (k * 9)).block, (ad.add (k * 9)).off + 2, none⟩ = v2 ∧ wo.drew.cell? ⟨(ad.add (k * 9)).block, (ad.add (k * 9)).off + 3, none⟩ = v3 ∧ wo.drew.cell? ⟨(ad.add (k * 9)).block, (ad.add (k * 9)).off + 4, none⟩ = v4 ∧ wo.drew.cell? ⟨(ad.add (k * 9)).block, (ad.add (k * 9)).off + 5, none⟩ = v5 ∧ wo.drew.cell? ⟨(ad.add (k * 9)).block, (ad.add (k * 9)).off + 6, none⟩ = v6 ∧ wo.drew.cell? ⟨(ad.add (k * 9)).block, (ad.add (k * 9)).off + 7, none⟩ = v7 ∧ wo.drew.cell? ⟨(ad.add (k * 9)).block, (ad.add (k * 9)).off + 8, none⟩ = v8)
    (hb : Below wo.drew.heap.size wo.drew w5) (hS : S < wo.heap.size) (hG : G < wo.heap.size) (had : ad.block < wo.heap.size) :
    w5.cell? ⟨S, 0, none⟩ = x0 ∧ w5.cell? ⟨G, k, none⟩ = x1 ∧ w5.cell? (ad.add (k * 9)) = v0 ∧ w5.cell? ⟨(ad.add (k * 9)).block, (ad.add (k * 9)).off + 1, none⟩ = v1 ∧ w5.cell? ⟨(ad.add (k * 9)).block, (ad.add (k * 9)).off + 2, none⟩ = v2 ∧ w5.cell? ⟨(ad.add (k * 9)).block, (ad.add (k * 9)).off + 3, none⟩ = v3 ∧ w5.cell? ⟨(ad.add (k * 9)).block, (ad.add (k * 9)).off + 4, none⟩ = v4 ∧ w5.cell? ⟨(ad.add (k * 9)).block, (ad.add (k * 9)).off + 5, none⟩ = v5 ∧ w5.cell? ⟨(ad.add (k * 9)).block, (ad.add (k * 9)).off + 6, none⟩ = v6 ∧ w5.cell? ⟨(ad.add (k * 9)).block, (ad.add (k * 9)).off + 7, none⟩ = v7 ∧ w5.cell? ⟨(ad.add (k * 9)).block, (ad.add (k * 9)).off + 8, none⟩ = v8 := by
  have hk : ∀ p : Addr, p.block < wo.heap.size → w5.cell? p = wo.drew.cell? p := fun p hp => hb.cell hp
  have ha : (ad.add (k * 9)).block < wo.heap.size := by rw [block_of_add]; exact had
  obtain ⟨h0, h1, h2, h3, h4, h5, h6, h7, h8, h9, h10⟩ := h
  exact ⟨(hk _ hS).trans h0, (hk _ hG).trans h1, (hk _ ha).trans h2, (hk ⟨_, _, none⟩ ha).trans h3, (hk ⟨_, _, none⟩ ha).trans h4, (hk ⟨_, _, none⟩ ha).trans h5, (hk ⟨_, _, none⟩ ha).trans h6, (hk ⟨_, _, none⟩ ha).trans h7, (hk ⟨_, _, none⟩ ha).trans h8, (hk ⟨_, _, none⟩ ha).trans h9, (hk ⟨_, _, none⟩ ha).trans h10⟩
set_option maxRecDepth 100000 in
set_option maxHeartbeats 16000000 in
theorem scheckF_any (L : List Fl) (fs : List FnD) (vl fv : Value) (entry : Int) (w : World) (hN : NF w w.heap.size vl L) (hF : FnV w w.heap.size fv fs) :
    Calls Tryz.prog 5 #[.agg #[vl, fv, .int .i64 entry]] w (CkPost (checkS prims L fs entry) w) := by
  obtain ⟨i0, hi0, hz0, hz1, hz2⟩ := info_parts infoB
  obtain ⟨NA, nc, rfl, hn1, hn2⟩ := hN.len
  obtain ⟨FA, fc, rfl, hf1, hf2⟩ := hF.len
  obtain ⟨W, hW⟩ : ∃ W, w.alloc (.cells #[.slice NA L.length nc, .slice FA fs.length fc, .int .i64 entry] 25) = W := ⟨_, rfl⟩
  have hb1 : Below w.heap.size w W := by rw [← hW]; exact (Below.refl _ _).alloc (Nat.le_refl _) _
  have HB := Lib.hid hb1
  have HX := Lib.hid (show Blk W w.heap.size 25 #[.slice NA L.length nc, .slice FA fs.length fc, .int .i64 entry] by rw [← hW]; exact Blk.new _ _ _)
  have HNw := Lib.hid hN
  have HFw := Lib.hid hF
  have HN := Lib.hid (hN.below hb1)
  have HF := Lib.hid (hF.below hb1)
  have c0 : W.cell? ⟨w.heap.size, 0, none⟩ = some (.slice NA L.length nc) := HX.out.cell 0
  have c1 : W.cell? ⟨w.heap.size, 1, none⟩ = some (.slice FA fs.length fc) := HX.out.cell 1
  have c2 : W.cell? ⟨w.heap.size, 2, none⟩ = some (.int .i64 entry) := HX.out.cell 2
  unfold CkPost
  obtain ⟨R, hR⟩ : ∃ R, checkS prims L fs entry = R := ⟨_, rfl⟩
  rw [hR]
  unfold checkS at hR
  clear hN hF hb1
  by_cases h0 : entry < 0
  · have q0 := decide_eq_true h0
    rw [if_pos (.inl h0)] at hR
    subst hR
    clear h0
    go_enter Tryz.func5, Tryz.ntmps5
    go_wp2_with fail
    go_ret
    exact ⟨rfl, HB.out⟩
  have q0 := decide_eq_false h0
  by_cases h1 : (fs.length : Int) ≤ entry
  · have q1 := decide_eq_true h1
    rw [if_pos (.inr h1)] at hR
    subst hR
    clear h0 h1
    go_enter Tryz.func5, Tryz.ntmps5
    go_wp2_with fail
    go_ret
    exact ⟨rfl, HB.out⟩
  have q1 := decide_eq_false h1
  rw [if_neg (by omega)] at hR
  obtain ⟨j, rfl⟩ : ∃ j : Nat, entry = (j : Int) := ⟨entry.toNat, by omega⟩
  obtain ⟨f, hf⟩ : ∃ f, fs[j]? = some f := ⟨_, List.getElem?_eq_getElem (by omega)⟩
  obtain ⟨fad, PA, pc, rfl, hfb, hfp, _, hfl, d0, d1⟩ := HF.out.at2 hf
  have hpe : paramsAt fs (j : Int) = f.params := by unfold paramsAt; rw [Int.toNat_natCast, hf]
  rw [hpe] at hR
  have hj1 : (j : Int) < (fs.length : Int) := by omega
  have hj2 : decide (fs.length ≤ j) = false := decide_eq_false (by omega)
  have hj3 : j < fs.length := by omega
  by_cases h2 : f.params = []
  · rw [if_neg (by simp [h2])] at hR
    rw [show f.params.length = 0 by rw [h2]; rfl] at d0
    have HR := Lib.hid hR
    have HYE := Lib.hid (fun (h : ∀ j f, j < fs.length → fs[j]? = some f → okF L f = true) => show (fs.all fun f => funOk L f && allC (formedRS prims L) (belowC L f.body.toNat).1 L L.length) = true from List.all_eq_true.2 fun f hf => by
      obtain ⟨j, hj⟩ := List.mem_iff_getElem?.1 hf
      exact h j f (List.getElem?_eq_some_iff.1 hj).1 hj)
    have HNO := Lib.hid (fun (j : Nat) (f : FnD) (h : fs[j]? = some f) (hf : okF L f = false) => show (fs.all fun f => funOk L f && allC (formedRS prims L) (belowC L f.body.toNat).1 L L.length) = false from all_false.2 ⟨f, List.mem_of_getElem? h, hf⟩)
    clear h0 h1 hf hpe h2 hR hfp hfb hfl
    go_enter Tryz.func5, Tryz.ntmps5
    go_upto_region 4 with (go_at_call 9; ((with_reducible refine (prims_any _).mono ?_); rintro e w4 ⟨pv, rfl, hpv, hb4⟩; obtain ⟨PV4, pvc, hpe, hpc1, hpc2⟩ := hpv.len; rw [primTab_len] at hpe; subst hpe; have HPV := Lib.hid hpv; have HB4 := Lib.hid hb4; clear hpv hb4 hpc1 hpc2))
    have HX4 := Lib.hid (HX.out.below HB4.out HX.out.lt)
    have HN4 := Lib.hid (HN.out.below HB4.out)
    have HF4 := Lib.hid (HF.out.below HB4.out)
    clear c0 c1 c2 d0 d1 q0 q1 hj1 hj2
    have c0 : w4.cell? ⟨w.heap.size, 0, none⟩ = some (.slice NA L.length nc) := HX4.out.cell 0
    go_wp2_with (refine wpList_make_full _ rfl _ _ _ rfl w4.heap.size 4 i0 (.bool false) 1 undB hi0 hz0 hz1 _ _ _ _ L.length rfl rfl (by omega) (by omega) (by rw [hz2]; omega) (by unfold maxLen; omega) (Nat.le_refl _) ?_)
    intro w5 hown5 hgrow5
    rw [boolVals_made] at hown5
    have HS0 := Lib.hid (show RkS w4 L.length w4.heap.size (unionB L (fs.take 0)) w5 from ⟨hown5, (Below.refl _ _).grown hgrow5 (Nat.le_refl _) (fun k hk => by cases hk), Nat.le_refl _⟩)
    obtain ⟨ga, hga⟩ : ∃ ga, w4.heap.size = ga := ⟨_, rfl⟩
    have HGA := Lib.hid hga
    rw [hga] at HS0
    try rw [hga]
    clear hown5 hgrow5 c0 hga hW
    have HX5 := Lib.hid (HX4.out.below HS0.out.bel HX4.out.lt)
    have c1 : w5.cell? ⟨w.heap.size, 1, none⟩ = some (.slice (some fad) fs.length fc) := HX5.out.cell 1
    go_wp2_with fail
    clear c1 HX5
    go_loopw [5] (fun ix wr => ∃ (k : Nat), k ≤ fs.length ∧ ix = .int .i64 (k : Int) ∧ Hid (∀ j f, j < k → fs[j]? = some f → okF L f = true) ∧ Hid (RkS w4 L.length ga (unionB L (fs.take k)) wr)) (fun ix _ => fs.length - (intOf ix).toNat)
    case atStart => exact ⟨0, Nat.zero_le _, rfl, Lib.hid (fun j f h => by omega), HS0⟩
    case round =>
      obtain ⟨k, hk, rfl, HK, HS⟩ := hrel
      obtain ⟨wo, rfl⟩ : ∃ wo : World, wo = wr := ⟨_, rfl⟩
      have HXr := Lib.hid (HX4.out.below HS.out.bel HX4.out.lt)
      have c1 : wo.cell? ⟨w.heap.size, 1, none⟩ = some (.slice (some fad) fs.length fc) := HXr.out.cell 1
      rcases Nat.lt_or_ge k fs.length with hlt | hge
      · obtain ⟨f, hf⟩ : ∃ f, fs[k]? = some f := ⟨_, List.getElem?_eq_getElem hlt⟩
        obtain ⟨adx, PA, pc, hadE, hfb, hfp, hrg, hfl, d0, d1⟩ := (HF4.out.below HS.out.bel).at2 hf
        obtain rfl := Option.some.inj hadE
        have hm : (k : Int) < (fs.length : Int) := by omega
        have HNr := Lib.hid (HN4.out.below HS.out.bel)
        have HFU := Lib.hid (function_any L f NA (some fad) PA nc fs.length fc pc (j : Int) wo.drew (HNr.out.below (Below.drew (Below.refl _ _))) (hfp.below (Below.drew (Below.refl _ _))) hfl)
        unfold FunP at HFU
        have HFB := Lib.hid (show fad.block < wo.heap.size from hfb)
        have HD0 := Lib.hid (show wo.drew.cell? (fad.add (k * 2)) = some (.slice PA f.params.length pc) from d0)
        have HD1 := Lib.hid (show wo.drew.cell? ⟨(fad.add (k * 2)).block, (fad.add (k * 2)).off + 1, none⟩ = some (.int .i64 f.body) from d1)
        have K0 := Lib.hid (show wo.drew.cell? ⟨w.heap.size, 0, none⟩ = some (.slice NA L.length nc) ∧ wo.drew.cell? ⟨w.heap.size, 1, none⟩ = some (.slice (some fad) fs.length fc) ∧ wo.drew.cell? ⟨w.heap.size, 2, none⟩ = some (.int .i64 (j : Int)) ∧ wo.drew.cell? (fad.add (k * 2)) = some (.slice PA f.params.length pc) ∧ wo.drew.cell? ⟨(fad.add (k * 2)).block, (fad.add (k * 2)).off + 1, none⟩ = some (.int .i64 f.body) from ⟨HXr.out.drew.cell 0, HXr.out.drew.cell 1, HXr.out.drew.cell 2, HD0.out, HD1.out⟩)
        have HFK := Lib.hid hf
        clear hadE hfp hrg hfl hfb hf d0 d1
        go_upto_region 8 with fail
        clear c1
        go_region_held3 (fun w' => w'.cell? ⟨w.heap.size, 0, none⟩ = some (.slice NA L.length nc) ∧ w'.cell? ⟨w.heap.size, 1, none⟩ = some (.slice (some fad) fs.length fc) ∧ w'.cell? ⟨w.heap.size, 2, none⟩ = some (.int .i64 (j : Int)) ∧ w'.cell? (fad.add (k * 2)) = some (.slice PA f.params.length pc) ∧ w'.cell? ⟨(fad.add (k * 2)).block, (fad.add (k * 2)).off + 1, none⟩ = some (.int .i64 f.body)) (first | with_reducible exact K0.out | with_reducible exact K6.out)
          (first
            | (go_at_call 16; ((with_reducible refine (HFU.out).mono ?_); rintro e w6 ⟨v, rfl, hok, hb6⟩; have HOK := Lib.hid hok; have HB6 := Lib.hid ((Below.drew (Below.refl wo.heap.size wo)).trans hb6); have HX6 := Lib.hid (HXr.out.below HB6.out HXr.out.lt); have K6 := Lib.hid (show w6.cell? ⟨w.heap.size, 0, none⟩ = some (.slice NA L.length nc) ∧ w6.cell? ⟨w.heap.size, 1, none⟩ = some (.slice (some fad) fs.length fc) ∧ w6.cell? ⟨w.heap.size, 2, none⟩ = some (.int .i64 (j : Int)) ∧ w6.cell? (fad.add (k * 2)) = some (.slice PA f.params.length pc) ∧ w6.cell? ⟨(fad.add (k * 2)).block, (fad.add (k * 2)).off + 1, none⟩ = some (.int .i64 f.body) from ⟨HX6.out.cell 0, HX6.out.cell 1, HX6.out.cell 2, (HB6.out.cell (by rw [block_of_add]; exact HFB.out)).trans HD0.out, (HB6.out.cell (p := ⟨(fad.add (k * 2)).block, (fad.add (k * 2)).off + 1, none⟩) (by show (fad.add (k * 2)).block < _; rw [block_of_add]; exact HFB.out)).trans HD1.out⟩); clear hok hb6)))
        have k0 : w6.cell? ⟨w.heap.size, 0, none⟩ = some (.slice NA L.length nc) := HX6.out.cell 0
        have k1 : w6.cell? ⟨w.heap.size, 1, none⟩ = some (.slice (some fad) fs.length fc) := HX6.out.cell 1
        have k2 : w6.cell? ⟨w.heap.size, 2, none⟩ = some (.int .i64 (j : Int)) := HX6.out.cell 2
        clear K0 K6 HD0 HD1 HFU HFB
        cases hfo : funOk L f
        · have hok : okF L f = false := by unfold okF; rw [hfo]; rfl
          have hrr := HR.out
          rw [if_pos (HNO.out k f HFK.out hok)] at hrr
          subst hrr
          clear hok hfo
          go_wp2_with fail
          go_ret
          exact ⟨rfl, HB.out.trans (((HB4.out.trans (HS.out.bel.mono HB4.out.size)).trans (HB6.out.mono (Nat.le_trans HB4.out.size HS.out.bel.size))).mono HB.out.size)⟩
        · obtain ⟨g, rfl, hg, hown⟩ := HOK.out hfo
          have hfo2 := hfo
          unfold funOk at hfo2
          rw [Bool.and_eq_true, Bool.and_eq_true, Bool.and_eq_true, decide_eq_true_eq] at hfo2
          obtain ⟨⟨hbd0, hbd1⟩, _, hbok, _⟩ := hfo2
          have hL0 : 0 < L.length := by omega
          have HIB := Lib.hid (show ∀ j, (belowC L f.body.toNat).1 j = true → j < L.length from fun j hj => by have := below_le (tms L) f.body.toNat j hj; omega)
          have HUN := Lib.hid (unionB_snoc (L := L) HFK.out)
          have HND := Lib.hid (nodes_any L NA (some fad) nc fs.length fc g (j : Int) (.slice (some PV4) 61 pvc) (belowC L f.body.toNat).1 w6 hL0 (HNr.out.below HB6.out) hown (HPV.out.below (HS.out.bel.trans (HB6.out.mono HS.out.bel.size))) (fun i hi => below_ok (tms L) f.body.toNat hbok i hi))
          have hgg : ga < g := Nat.lt_of_lt_of_le (World.ownsRow.lt HS.out.own ga rfl).2 hg
          have HGG := Lib.hid hgg
          have HOW := Lib.hid hown
          have HS6 := Lib.hid (HS.out.below HB6.out)
          have hok : okF L f = allC (formedRS prims L) (belowC L f.body.toNat).1 L L.length := by unfold okF; rw [hfo]; rfl
          obtain ⟨inb, hinb⟩ : ∃ inb, (belowC L f.body.toNat).1 = inb := ⟨_, rfl⟩
          rw [hinb] at HIB HUN HND HOW hok
          obtain ⟨U, hU⟩ : ∃ U, unionB L (fs.take k) = U := ⟨_, rfl⟩
          rw [hU] at HUN HS6
          clear hfo hg hown hbd0 hbd1 hbok hL0 hgg hinb HOK
          cases hfm : allC (formedRS prims L) inb L L.length
          · rw [hfm] at hok HND
            have hrr := HR.out
            rw [if_pos (HNO.out k f HFK.out hok)] at hrr
            subst hrr
            clear hok hfm hU
            go_wp2_with (go_at_call 17; ((with_reducible refine (HND.out).mono ?_); rintro e w7 ⟨rfl, hb7⟩; have HS7 := Lib.hid (HS6.out.below hb7); clear hb7))
            go_ret
            exact ⟨rfl, HB.out.trans ((HB4.out.trans (HS7.out.bel.mono HB4.out.size)).mono HB.out.size)⟩
          · rw [hfm] at hok HND
            have HK2 := Lib.hid (show ∀ j g, j < k + 1 → fs[j]? = some g → okF L g = true from fun j g hj hg => by
              rcases Nat.lt_or_ge j k with h3 | h3
              · exact HK.out j g h3 hg
              · obtain rfl : j = k := by omega
                rw [HFK.out] at hg; rw [← Option.some.inj hg]; exact hok)
            clear hok hfm hU
            go_upto_region 11 with (go_at_call 17; ((with_reducible refine (HND.out).mono ?_); rintro e w7 ⟨rfl, hb7⟩; have HS7 := Lib.hid (show RkS w4 L.length ga (mixB U inb 0) w7 by rw [mixB_zero]; exact HS6.out.below hb7); have HOW7 := Lib.hid (ownsRow_below HOW.out hb7); clear hb7; clear k0 k1 k2))
            go_wp2_with fail
            obtain ⟨w8, rfl⟩ : ∃ w8, w8 = w7 := ⟨_, rfl⟩
            go_loopw [8] (fun ix wr => ∃ (m : Nat), m ≤ L.length ∧ ix = .int .i64 (m : Int) ∧ Hid (RkS w4 L.length ga (mixB U inb m) wr) ∧ Hid (wr.ownsRow g 4 1 (.slice (some ⟨g, 0, none⟩) L.length L.length) L.length (boolVals L.length inb))) (fun ix _ => L.length - (intOf ix).toNat)
            case atStart => exact ⟨0, Nat.zero_le _, rfl, HS7, HOW7⟩
            case round =>
              obtain ⟨m, hm, rfl, HM, HG⟩ := hrel
              rcases Nat.lt_or_ge m L.length with hmlt | hmge
              · have ca := World.ownsRow.cellAt HM.out.own m (by omega)
                rw [boolVals_get hmlt, mixB_at] at ca
                have fa := World.ownsRow.frozenAt HM.out.own m
                have ci := World.ownsRow.cellAt HG.out m (by omega)
                rw [boolVals_get hmlt] at ci
                have hst := (World.ownsRow.stored HM.out.own m (.bool (U m || inb m))).1
                rw [mixB_set hmlt] at hst
                have hmL : (m : Int) < (L.length : Int) := by omega
                have hgb := HM.out.hg
                have HM2 := Lib.hid (show RkS w4 L.length ga (mixB U inb (m + 1)) (wr.setCell ⟨ga, m, none⟩ (.bool (U m || inb m))) from ⟨hst, HM.out.bel.setCell (p := ⟨ga, m, none⟩) hgb _, hgb⟩)
                have HG2 := Lib.hid (show (wr.setCell ⟨ga, m, none⟩ (.bool (U m || inb m))).ownsRow g 4 1 (.slice (some ⟨g, 0, none⟩) L.length L.length) L.length (boolVals L.length inb) from ownsRow_only HG.out ((Only.refl [ga] wr).one) (fun k hk hm => by have e : g = k := Option.some.inj hk; have := List.mem_singleton.1 hm; have := HGG.out; omega))
                clear hst hgb
                cases hUm : U m
                · rw [hUm] at ca HM2 HG2
                  cases hIm : inb m
                  · rw [hIm] at ci HM2 HG2
                    clear hUm hIm
                    go_wp2_with fail
                    go_roundw
                    case rel => exact ⟨m + 1, by omega, by go_num, HM2, HG2⟩
                    case measure => simp [intOf]; omega
                  · rw [hIm] at ci HM2 HG2
                    clear hUm hIm
                    go_wp2_with fail
                    go_roundw
                    case rel => exact ⟨m + 1, by omega, by go_num, HM2, HG2⟩
                    case measure => simp [intOf]; omega
                · rw [hUm, Bool.true_or] at HM2 HG2
                  rw [hUm] at ca
                  clear hUm ci
                  go_wp2_with fail
                  go_roundw
                  case rel => exact ⟨m + 1, by omega, by go_num, HM2, HG2⟩
                  case measure => simp [intOf]; omega
              · obtain rfl : m = L.length := by omega
                have q0 : (L.length : Int) ≤ (L.length : Int) := Int.le_refl _
                have HM3 := Lib.hid (show RkS w4 L.length ga (unionB L (fs.take (k + 1))) wr by have := HM.out; rw [mixB_all HIB.out, ← HUN.out] at this; exact this)
                clear hmge hm
                go_wp2_with fail
                go_roundw
                case rel => exact ⟨k + 1, by omega, by go_num, HK2, HM3⟩
                case measure => simp [intOf]; omega
      · -- behind the functions
        obtain rfl : k = fs.length := by omega
        have q0 : (fs.length : Int) ≤ (fs.length : Int) := Int.le_refl _
        have HOKS := Lib.hid (fun f (hf : f ∈ fs) => show okF L f = true by
          obtain ⟨i, hi⟩ := List.mem_iff_getElem?.1 hf
          exact HK.out i f (List.getElem?_eq_some_iff.1 hi).1 hi)
        have hbody : ∀ f ∈ fs, 0 ≤ f.body ∧ f.body < (L.length : Int) := fun f hf => by
          have := HOKS.out f hf
          unfold okF funOk at this
          rw [Bool.and_eq_true, Bool.and_eq_true, decide_eq_true_eq] at this
          exact this.1.1
        have hL0 : 0 < L.length := by
          obtain ⟨f, hf⟩ : ∃ f, fs[j]? = some f := ⟨_, List.getElem?_eq_getElem hj3⟩
          have := hbody f (List.mem_of_getElem? hf)
          omega
        have HBD := Lib.hid hbody
        have hrr := HR.out
        rw [if_neg (by rw [HYE.out (fun i f hi hf => HK.out i f hi hf)]; simp)] at hrr
        obtain ⟨t0, ht0⟩ : ∃ t0, L[0]? = some t0 := ⟨_, List.getElem?_eq_getElem hL0⟩
        obtain ⟨ad0, _, _, _, rfl, _⟩ := HN4.out.at_ ht0
        obtain ⟨U, hU⟩ : ∃ U, unionB L fs = U := ⟨_, rfl⟩
        have HSA := Lib.hid (show CkF w L.length ga (.slice (some PV4) 61 pvc) U #[.slice (some ad0) L.length nc, .slice (some fad) fs.length fc, .int .i64 (j : Int)] wo by
          have hs := HS.out
          rw [List.take_of_length_le (Nat.le_refl _), hU] at hs
          exact ⟨hs.own, HPV.out.below hs.bel, HB.out.trans ((HB4.out.trans (hs.bel.mono HB4.out.size)).mono HB.out.size), HX4.out.below hs.bel HX4.out.lt⟩)
        rw [hU] at hrr
        have HRR6 := Lib.hid hrr.symm
        obtain ⟨inb, rfl⟩ : ∃ inb, inb = U := ⟨_, rfl⟩
        clear hge hk hL0 hbody hrr ht0 hU HK HS HXr HR HYE HNO
        go_wp2_with fail
        clear c1
        go_loopw [9] (fun ix wr => ∃ (k : Nat), k ≤ L.length ∧ ix = .int .i64 (k : Int) ∧ Hid (allC (fitsC prims) inb L k = true) ∧ Hid (CkF w L.length ga (.slice (some PV4) 61 pvc) inb #[.slice (some ad0) L.length nc, .slice (some fad) fs.length fc, .int .i64 (j : Int)] wr)) (fun ix _ => L.length - (intOf ix).toNat)
        case atStart => exact ⟨0, Nat.zero_le _, rfl, rfl, HSA⟩
        case round =>
          obtain ⟨k, hk, rfl, HP, HS⟩ := hrel
          obtain ⟨wo, rfl⟩ : ∃ wo : World, wo = wr := ⟨_, rfl⟩
          rcases Nat.lt_or_ge k L.length with hlt | hge
          · obtain ⟨t, ht⟩ : ∃ t, L[k]? = some t := ⟨_, List.getElem?_eq_getElem (by omega)⟩
            have HNr := NF.below HNw.out HS.out.bel
            obtain ⟨adx, vv, kv, av, hadE, had, htv, a0, a1, a2, a3, a4, a5, a6, a7, a8⟩ := HNr.at9 ht
            obtain rfl := Option.some.inj hadE
            obtain ⟨VA, vc, rfl, _, _⟩ := htv.v.len
            obtain ⟨KA, kc, rfl, _, _⟩ := htv.k.len
            obtain ⟨AA, ac, rfl, ha1, ha2⟩ := htv.a.len
            have lv := htv.lv
            have lk := htv.lk
            have la := htv.la
            have b0 : wo.cell? ⟨w.heap.size, 0, none⟩ = some (.slice (some ad0) L.length nc) := HS.out.box.cell 0
            have cin := HS.out.made hlt
            have hkL : (k : Int) < (L.length : Int) := by omega
            have HTW := Lib.hid htv
            have HBG := Lib.hid (show w.heap.size < wo.heap.size ∧ ga < wo.heap.size ∧ ad0.block < wo.heap.size from ⟨HS.out.box.lt, (World.ownsRow.lt HS.out.own ga rfl).2, had⟩)
            clear HNr htv
            cases hin : inb k
            · rw [hin] at cin
              have HP2 := Lib.hid (show allC (fitsC prims) inb L (k + 1) = true by rw [all_skip hin]; exact HP.out)
              clear ht hin
              go_upto_region 18 with fail
              go_quiet (fail)
              go_wp2_with fail
              go_roundw
              case rel => exact ⟨k + 1, by omega, by go_num, HP2, HS.out.drewN _⟩
              case measure => simp [intOf]; omega
            · rw [hin] at cin
              have hpn := all_made (P := fitsC prims) (L := L) hin ht
              rw [HP.out, Bool.true_and] at hpn
              rw [show fitsC prims t = (decide (t.k ≠ 8) || primOkC prims t) from rfl] at hpn
              clear ht hin
              by_cases k8 : t.k = 8
              · have q8 := b_true k8
                rw [decide_eq_false (by omega), Bool.false_or] at hpn
                have HSD := Lib.hid HS.out.drew
                have HPM := Lib.hid (sprim_any t (.slice (some ad0) L.length nc) _ _ _ (.slice (some PV4) 61 pvc) wo.drew HSD.out.prv (HTW.out.below (Below.drew (Below.refl _ _))))
                have K0 := Lib.hid (show wo.drew.cell? ⟨w.heap.size, 0, none⟩ = some (.slice (some ad0) L.length nc) ∧ wo.drew.cell? ⟨ga, k, none⟩ = some (.bool true) ∧ wo.drew.cell? (ad0.add (k * 9)) = some (.int .i64 t.k) ∧ wo.drew.cell? ⟨(ad0.add (k * 9)).block, (ad0.add (k * 9)).off + 1, none⟩ = some (.int .i64 t.n) ∧ wo.drew.cell? ⟨(ad0.add (k * 9)).block, (ad0.add (k * 9)).off + 2, none⟩ = some (.int .i64 t.m) ∧ wo.drew.cell? ⟨(ad0.add (k * 9)).block, (ad0.add (k * 9)).off + 3, none⟩ = some (.int .i64 t.i) ∧ wo.drew.cell? ⟨(ad0.add (k * 9)).block, (ad0.add (k * 9)).off + 4, none⟩ = some (.int .u64 t.b) ∧ wo.drew.cell? ⟨(ad0.add (k * 9)).block, (ad0.add (k * 9)).off + 5, none⟩ = some (.string ⟨t.t.toArray⟩) ∧ wo.drew.cell? ⟨(ad0.add (k * 9)).block, (ad0.add (k * 9)).off + 6, none⟩ = some (.slice VA t.vars.length vc) ∧ wo.drew.cell? ⟨(ad0.add (k * 9)).block, (ad0.add (k * 9)).off + 7, none⟩ = some (.slice KA t.keys.length kc) ∧ wo.drew.cell? ⟨(ad0.add (k * 9)).block, (ad0.add (k * 9)).off + 8, none⟩ = some (.slice AA t.args.length ac) from ⟨b0, cin, a0, a1, a2, a3, a4, a5, a6, a7, a8⟩)
                unfold flVals at HPM
                cases hpo : primOkC prims t
                · rw [hpo] at hpn HPM
                  have HR2 := Lib.hid (show R = 112 by have := HRR6.out; rw [if_pos (allC_false (i := k + 1) (by omega) hpn)] at this; exact this)
                  clear k8 hpo hpn
                  go_upto_region 18 with fail
                  go_region_held3 (fun w' => w'.cell? ⟨w.heap.size, 0, none⟩ = some (.slice (some ad0) L.length nc) ∧ w'.cell? ⟨ga, k, none⟩ = some (.bool true) ∧ w'.cell? (ad0.add (k * 9)) = some (.int .i64 t.k) ∧ w'.cell? ⟨(ad0.add (k * 9)).block, (ad0.add (k * 9)).off + 1, none⟩ = some (.int .i64 t.n) ∧ w'.cell? ⟨(ad0.add (k * 9)).block, (ad0.add (k * 9)).off + 2, none⟩ = some (.int .i64 t.m) ∧ w'.cell? ⟨(ad0.add (k * 9)).block, (ad0.add (k * 9)).off + 3, none⟩ = some (.int .i64 t.i) ∧ w'.cell? ⟨(ad0.add (k * 9)).block, (ad0.add (k * 9)).off + 4, none⟩ = some (.int .u64 t.b) ∧ w'.cell? ⟨(ad0.add (k * 9)).block, (ad0.add (k * 9)).off + 5, none⟩ = some (.string ⟨t.t.toArray⟩) ∧ w'.cell? ⟨(ad0.add (k * 9)).block, (ad0.add (k * 9)).off + 6, none⟩ = some (.slice VA t.vars.length vc) ∧ w'.cell? ⟨(ad0.add (k * 9)).block, (ad0.add (k * 9)).off + 7, none⟩ = some (.slice KA t.keys.length kc) ∧ w'.cell? ⟨(ad0.add (k * 9)).block, (ad0.add (k * 9)).off + 8, none⟩ = some (.slice AA t.args.length ac)) (first | with_reducible exact K0.out | with_reducible exact K5.out)
                  (first
                    | (go_at_call 18; ((with_reducible refine (HPM.out).mono ?_); rintro e w5 ⟨rfl, hb5⟩; have HS5 := Lib.hid (HSD.out.below hb5); have K5 := Lib.hid (show w5.cell? ⟨w.heap.size, 0, none⟩ = some (.slice (some ad0) L.length nc) ∧ w5.cell? ⟨ga, k, none⟩ = some (.bool true) ∧ w5.cell? (ad0.add (k * 9)) = some (.int .i64 t.k) ∧ w5.cell? ⟨(ad0.add (k * 9)).block, (ad0.add (k * 9)).off + 1, none⟩ = some (.int .i64 t.n) ∧ w5.cell? ⟨(ad0.add (k * 9)).block, (ad0.add (k * 9)).off + 2, none⟩ = some (.int .i64 t.m) ∧ w5.cell? ⟨(ad0.add (k * 9)).block, (ad0.add (k * 9)).off + 3, none⟩ = some (.int .i64 t.i) ∧ w5.cell? ⟨(ad0.add (k * 9)).block, (ad0.add (k * 9)).off + 4, none⟩ = some (.int .u64 t.b) ∧ w5.cell? ⟨(ad0.add (k * 9)).block, (ad0.add (k * 9)).off + 5, none⟩ = some (.string ⟨t.t.toArray⟩) ∧ w5.cell? ⟨(ad0.add (k * 9)).block, (ad0.add (k * 9)).off + 6, none⟩ = some (.slice VA t.vars.length vc) ∧ w5.cell? ⟨(ad0.add (k * 9)).block, (ad0.add (k * 9)).off + 7, none⟩ = some (.slice KA t.keys.length kc) ∧ w5.cell? ⟨(ad0.add (k * 9)).block, (ad0.add (k * 9)).off + 8, none⟩ = some (.slice AA t.args.length ac) from k9_below K0.out hb5 HBG.out.1 HBG.out.2.1 HBG.out.2.2); clear hb5)))
                  go_wp2_with fail
                  go_ret
                  exact ⟨by rw [HR2.out]; rfl, HS5.out.bel⟩
                · rw [hpo] at hpn HPM
                  have HP2 := Lib.hid hpn
                  clear k8 hpo hpn
                  go_upto_region 18 with fail
                  go_region_held3 (fun w' => w'.cell? ⟨w.heap.size, 0, none⟩ = some (.slice (some ad0) L.length nc) ∧ w'.cell? ⟨ga, k, none⟩ = some (.bool true) ∧ w'.cell? (ad0.add (k * 9)) = some (.int .i64 t.k) ∧ w'.cell? ⟨(ad0.add (k * 9)).block, (ad0.add (k * 9)).off + 1, none⟩ = some (.int .i64 t.n) ∧ w'.cell? ⟨(ad0.add (k * 9)).block, (ad0.add (k * 9)).off + 2, none⟩ = some (.int .i64 t.m) ∧ w'.cell? ⟨(ad0.add (k * 9)).block, (ad0.add (k * 9)).off + 3, none⟩ = some (.int .i64 t.i) ∧ w'.cell? ⟨(ad0.add (k * 9)).block, (ad0.add (k * 9)).off + 4, none⟩ = some (.int .u64 t.b) ∧ w'.cell? ⟨(ad0.add (k * 9)).block, (ad0.add (k * 9)).off + 5, none⟩ = some (.string ⟨t.t.toArray⟩) ∧ w'.cell? ⟨(ad0.add (k * 9)).block, (ad0.add (k * 9)).off + 6, none⟩ = some (.slice VA t.vars.length vc) ∧ w'.cell? ⟨(ad0.add (k * 9)).block, (ad0.add (k * 9)).off + 7, none⟩ = some (.slice KA t.keys.length kc) ∧ w'.cell? ⟨(ad0.add (k * 9)).block, (ad0.add (k * 9)).off + 8, none⟩ = some (.slice AA t.args.length ac)) (first | with_reducible exact K0.out | with_reducible exact K5.out)
                  (first
                    | (go_at_call 18; ((with_reducible refine (HPM.out).mono ?_); rintro e w5 ⟨rfl, hb5⟩; have HS5 := Lib.hid (HSD.out.below hb5); have K5 := Lib.hid (show w5.cell? ⟨w.heap.size, 0, none⟩ = some (.slice (some ad0) L.length nc) ∧ w5.cell? ⟨ga, k, none⟩ = some (.bool true) ∧ w5.cell? (ad0.add (k * 9)) = some (.int .i64 t.k) ∧ w5.cell? ⟨(ad0.add (k * 9)).block, (ad0.add (k * 9)).off + 1, none⟩ = some (.int .i64 t.n) ∧ w5.cell? ⟨(ad0.add (k * 9)).block, (ad0.add (k * 9)).off + 2, none⟩ = some (.int .i64 t.m) ∧ w5.cell? ⟨(ad0.add (k * 9)).block, (ad0.add (k * 9)).off + 3, none⟩ = some (.int .i64 t.i) ∧ w5.cell? ⟨(ad0.add (k * 9)).block, (ad0.add (k * 9)).off + 4, none⟩ = some (.int .u64 t.b) ∧ w5.cell? ⟨(ad0.add (k * 9)).block, (ad0.add (k * 9)).off + 5, none⟩ = some (.string ⟨t.t.toArray⟩) ∧ w5.cell? ⟨(ad0.add (k * 9)).block, (ad0.add (k * 9)).off + 6, none⟩ = some (.slice VA t.vars.length vc) ∧ w5.cell? ⟨(ad0.add (k * 9)).block, (ad0.add (k * 9)).off + 7, none⟩ = some (.slice KA t.keys.length kc) ∧ w5.cell? ⟨(ad0.add (k * 9)).block, (ad0.add (k * 9)).off + 8, none⟩ = some (.slice AA t.args.length ac) from k9_below K0.out hb5 HBG.out.1 HBG.out.2.1 HBG.out.2.2); clear hb5)))
                  go_wp2_with fail
                  go_roundw
                  case rel => exact ⟨k + 1, by omega, by go_num, HP2, HS5⟩
                  case measure => simp [intOf]; omega
              · have q8 := b_false k8
                rw [decide_eq_true k8, Bool.true_or] at hpn
                have HP2 := Lib.hid hpn
                clear k8 hpn
                go_upto_region 18 with fail
                go_quiet (fail)
                go_wp2_with fail
                go_roundw
                case rel => exact ⟨k + 1, by omega, by go_num, HP2, HS.out.drewN _⟩
                case measure => simp [intOf]; omega
          · obtain rfl : k = L.length := by omega
            have b0 : wo.cell? ⟨w.heap.size, 0, none⟩ = some (.slice (some ad0) L.length nc) := HS.out.box.cell 0
            have b1 : wo.cell? ⟨w.heap.size, 1, none⟩ = some (.slice (some fad) fs.length fc) := HS.out.box.cell 1
            have hr4 := HRR6.out
            rw [HP.out, if_neg (by decide)] at hr4
            clear hge hk
            by_cases h6 : 262144 < L.length
            · rw [if_pos (.inl h6)] at hr4
              have HR5 := Lib.hid hr4
              have q1 := decide_eq_true (show (262144 : Int) < (L.length : Int) by omega)
              clear hr4 h6
              go_wp2_with fail
              go_ret
              exact ⟨by rw [HR5.out]; rfl, HS.out.bel⟩
            have q1 := decide_eq_false (show ¬ (262144 : Int) < (L.length : Int) by omega)
            by_cases h7 : 262144 < fs.length
            · rw [if_pos (.inr h7)] at hr4
              have HR5 := Lib.hid hr4
              have q2 := decide_eq_true (show (262144 : Int) < (fs.length : Int) by omega)
              clear hr4 h6 h7
              go_wp2_with fail
              go_ret
              exact ⟨by rw [HR5.out]; rfl, HS.out.bel⟩
            have q2 := decide_eq_false (show ¬ (262144 : Int) < (fs.length : Int) by omega)
            rw [if_neg (by omega)] at hr4
            have HR5 := Lib.hid hr4
            have HYE := Lib.hid (fun (h : ∀ j f, j < fs.length → fs[j]? = some f → ((freeOfG L f.body.toNat).all f.params.contains) = true) => show (fs.all fun f => (freeOfG L f.body.toNat).all f.params.contains) = true from List.all_eq_true.2 fun f hf => by
              obtain ⟨j, hj⟩ := List.mem_iff_getElem?.1 hf
              exact h j f (List.getElem?_eq_some_iff.1 hj).1 hj)
            have HNO := Lib.hid (fun (j : Nat) (f : FnD) (h : fs[j]? = some f) (hf : ((freeOfG L f.body.toNat).all f.params.contains) = false) => show (fs.all fun f => (freeOfG L f.body.toNat).all f.params.contains) = false from all_false.2 ⟨f, List.mem_of_getElem? h, hf⟩)
            have HSB := Lib.hid HS.out
            clear hr4 h6 h7 HP HS HRR6
            go_wp2_with fail
            clear b0 b1 q0 q1 q2
            go_loopw [10] (fun ix wr => ∃ (m : Nat), m ≤ fs.length ∧ ix = .int .i64 (m : Int) ∧ Hid (∀ j f, j < m → fs[j]? = some f → ((freeOfG L f.body.toNat).all f.params.contains) = true) ∧ Hid (CkF w L.length ga (.slice (some PV4) 61 pvc) inb #[.slice (some ad0) L.length nc, .slice (some fad) fs.length fc, .int .i64 (j : Int)] wr)) (fun ix _ => fs.length - (intOf ix).toNat)
            case atStart => exact ⟨0, Nat.zero_le _, rfl, Lib.hid (fun j f h => by omega), HSB⟩
            case round =>
              obtain ⟨m, hm, rfl, HK, HS⟩ := hrel
              obtain ⟨wo2, rfl⟩ : ∃ wo2 : World, wo2 = wr := ⟨_, rfl⟩
              have b1 : wo2.cell? ⟨w.heap.size, 1, none⟩ = some (.slice (some fad) fs.length fc) := HS.out.box.cell 1
              rcases Nat.lt_or_ge m fs.length with hlt | hge
              · obtain ⟨f, hf⟩ : ∃ f, fs[m]? = some f := ⟨_, List.getElem?_eq_getElem hlt⟩
                obtain ⟨adx, PA, pc, hadE, hfb, hfp, hrg, hfl, d0, d1⟩ := (FnV.below HFw.out HS.out.bel).at2 hf
                obtain rfl := Option.some.inj hadE
                have hmm : (m : Int) < (fs.length : Int) := by omega
                have hbd := HBD.out f (List.mem_of_getElem? hf)
                obtain ⟨x, hx⟩ : ∃ x : Nat, f.body = (x : Int) := ⟨f.body.toNat, by omega⟩
                rw [hx] at d1
                have HNr := Lib.hid (NF.below HNw.out HS.out.bel)
                have HFR := Lib.hid (sfree_any L (.slice (some ad0) L.length nc) (x : Int) wo2.drew (HNr.out.below (Below.drew (Below.refl _ _))))
                rw [freeResG_in (by omega)] at HFR
                unfold GivesI at HFR
                have HFB := Lib.hid (show fad.block < wo2.heap.size from hfb)
                have HD0 := Lib.hid (show wo2.drew.cell? (fad.add (m * 2)) = some (.slice PA f.params.length pc) from d0)
                have HD1 := Lib.hid (show wo2.drew.cell? ⟨(fad.add (m * 2)).block, (fad.add (m * 2)).off + 1, none⟩ = some (.int .i64 (x : Int)) from d1)
                have HFPm := Lib.hid hfp
                have K0 := Lib.hid (show wo2.drew.cell? ⟨w.heap.size, 0, none⟩ = some (.slice (some ad0) L.length nc) ∧ wo2.drew.cell? ⟨w.heap.size, 1, none⟩ = some (.slice (some fad) fs.length fc) ∧ wo2.drew.cell? ⟨(fad.add (m * 2)).block, (fad.add (m * 2)).off + 1, none⟩ = some (.int .i64 (x : Int)) from ⟨HS.out.box.drew.cell 0, HS.out.box.drew.cell 1, HD1.out⟩)
                have HFK := Lib.hid hf
                have hxe : f.body.toNat = x := by omega
                have HXE := Lib.hid hxe
                clear hadE hfp hrg hfl hfb hf d0 d1 hbd hx hxe
                go_upto_region 25 with fail
                clear b1
                go_region_held3 (fun w' => w'.cell? ⟨w.heap.size, 0, none⟩ = some (.slice (some ad0) L.length nc) ∧ w'.cell? ⟨w.heap.size, 1, none⟩ = some (.slice (some fad) fs.length fc) ∧ w'.cell? ⟨(fad.add (m * 2)).block, (fad.add (m * 2)).off + 1, none⟩ = some (.int .i64 (x : Int))) (first | with_reducible exact K0.out | with_reducible exact K6.out)
                  (first
                    | (go_at_call 19; ((with_reducible refine (HFR.out).mono ?_); rintro e w6 ⟨lv, rfl, hlv, hb6⟩; have HLV := Lib.hid hlv; have HB6 := Lib.hid ((Below.drew (Below.refl wo2.heap.size wo2)).trans hb6); have HS6 := Lib.hid (HS.out.below HB6.out); have K6 := Lib.hid (show w6.cell? ⟨w.heap.size, 0, none⟩ = some (.slice (some ad0) L.length nc) ∧ w6.cell? ⟨w.heap.size, 1, none⟩ = some (.slice (some fad) fs.length fc) ∧ w6.cell? ⟨(fad.add (m * 2)).block, (fad.add (m * 2)).off + 1, none⟩ = some (.int .i64 (x : Int)) from ⟨HS6.out.box.cell 0, HS6.out.box.cell 1, (HB6.out.cell (p := ⟨(fad.add (m * 2)).block, (fad.add (m * 2)).off + 1, none⟩) (by show (fad.add (m * 2)).block < _; rw [block_of_add]; exact HFB.out)).trans HD1.out⟩); clear hlv hb6)))
                have HD6 := Lib.hid (show w6.cell? (fad.add (m * 2)) = some (.slice PA f.params.length pc) from (HB6.out.cell (by rw [block_of_add]; exact HFB.out)).trans HD0.out)
                have HFP6 := Lib.hid (HFPm.out.below HB6.out)
                obtain ⟨LA, lc, rfl, hl1, hl2⟩ := HLV.out.len
                have hll : (freeOfG L x).length ≤ 9223372036854775807 := by unfold maxLen at hl2; omega
                have HYF := Lib.hid (fun (h : ∀ i y, i < (freeOfG L x).length → (freeOfG L x)[i]? = some y → f.params.contains y = true) => show (freeOfG L x).all f.params.contains = true from List.all_eq_true.2 fun y hy => by
                  obtain ⟨i, hi⟩ := List.mem_iff_getElem?.1 hy
                  exact h i y (List.getElem?_eq_some_iff.1 hi).1 hi)
                have HNF := Lib.hid (fun (i : Nat) (y : Int) (h : (freeOfG L x)[i]? = some y) (hy : f.params.contains y = false) => show (freeOfG L x).all f.params.contains = false from all_false.2 ⟨y, List.mem_of_getElem? h, hy⟩)
                generalize hFR : freeOfG L x = fr at *
                have HFRE := Lib.hid hFR
                clear hFR hl1 hl2 K0 K6 HD0 HD1 HFR
                go_wp2_with fail
                obtain ⟨w7, rfl⟩ : ∃ w7, w7 = w6 := ⟨_, rfl⟩
                go_loopw [12] (fun ix wr => Hid (Only [] w7 wr) ∧ ∃ (i : Nat), i ≤ fr.length ∧ ix = .int .i64 (i : Int) ∧ Hid (∀ j y, j < i → fr[j]? = some y → f.params.contains y = true)) (fun ix _ => fr.length - (intOf ix).toNat)
                case atStart => exact ⟨Lib.hid (Only.refl _ _), 0, Nat.zero_le _, rfl, Lib.hid (fun j y h => by omega)⟩
                case round =>
                  obtain ⟨HO, i, hi, rfl, HKI⟩ := hrel
                  obtain ⟨wo3, rfl⟩ : ∃ wo3 : World, wo3 = wr := ⟨_, rfl⟩
                  have HBO := Lib.hid (below_only (Below.refl w7.heap.size _) HO.out (fun k h => by cases h) (Nat.le_refl _))
                  rcases Nat.lt_or_ge i fr.length with hilt | hige
                  · obtain ⟨y, hy⟩ : ∃ y, fr[i]? = some y := ⟨_, List.getElem?_eq_getElem hilt⟩
                    obtain ⟨la, rfl, _, cl⟩ := (HLV.out.below HBO.out).at_ hy
                    have g1 : wo3.cell? ⟨w.heap.size, 1, none⟩ = some (.slice (some fad) fs.length fc) := (HS6.out.below HBO.out).box.cell 1
                    have g2 : wo3.cell? (fad.add (m * 2)) = some (.slice PA f.params.length pc) := only_cell HO.out (by simp) HD6.out
                    have hil : (i : Int) < (fr.length : Int) := by omega
                    have HIN := Lib.hid (fun n => rin_any f.params (.slice PA f.params.length pc) y _ (wo3.drewN n) ((HFP6.out.below HBO.out).keep (fun _ _ => rfl)))
                    obtain ⟨b, hb⟩ : ∃ b, f.params.contains y = b := ⟨_, rfl⟩
                    simp only [hb] at HIN
                    cases b
                    · have HNA := Lib.hid (HNF.out i y hy hb)
                      have hr5 := HR5.out
                      rw [if_pos (HNO.out m f HFK.out (by rw [HXE.out, HFRE.out]; exact HNA.out))] at hr5
                      have HR6 := Lib.hid hr5
                      clear hy hb hr5
                      go_upto_region 29 with fail
                      go_quiet (first | (go_at_call 20; exact Calls.quiet_of_same ((HIN.out _).mono fun _ _ hh => ⟨hh.1, hh.2.symm⟩)))
                      go_wp2_with fail
                      go_ret
                      exact ⟨by rw [HR6.out]; rfl, below_drewN (HS6.out.bel.trans (HBO.out.mono HS6.out.bel.size)) _⟩
                    · have HK2 := Lib.hid (show ∀ j z, j < i + 1 → fr[j]? = some z → f.params.contains z = true from fun j z hj hz => by
                        rcases Nat.lt_or_ge j i with h3 | h3
                        · exact HKI.out j z h3 hz
                        · obtain rfl : j = i := by omega
                          rw [hy] at hz; rw [← Option.some.inj hz]; exact hb)
                      clear hy hb
                      go_upto_region 29 with fail
                      go_quiet (first | (go_at_call 20; exact Calls.quiet_of_same ((HIN.out _).mono fun _ _ hh => ⟨hh.1, hh.2.symm⟩)))
                      go_wp2_with fail
                      go_roundw
                      case rel => exact ⟨Lib.hid (HO.out.drewN _), i + 1, by omega, by go_num, HK2⟩
                      case measure => simp [intOf]; omega
                  · have q0 : (fr.length : Int) ≤ (i : Int) := by omega
                    have HNA := Lib.hid (HYF.out (fun j y hj hy => HKI.out j y (by omega) hy))
                    have HK2 := Lib.hid (show ∀ j g, j < m + 1 → fs[j]? = some g → ((freeOfG L g.body.toNat).all g.params.contains) = true from fun j g hj hg => by
                      rcases Nat.lt_or_ge j m with h3 | h3
                      · exact HK.out j g h3 hg
                      · obtain rfl : j = m := by omega
                        rw [HFK.out] at hg; rw [← Option.some.inj hg, HXE.out, HFRE.out]; exact HNA.out)
                    have HS9 := Lib.hid (HS6.out.below HBO.out)
                    clear hige hi
                    go_wp2_with fail
                    go_roundw
                    case rel => exact ⟨m + 1, by omega, by go_num, HK2, HS9⟩
                    case measure => simp [intOf]; omega
              · obtain rfl : m = fs.length := by omega
                have q0 : (fs.length : Int) ≤ (fs.length : Int) := Int.le_refl _
                have hr5 := HR5.out
                rw [if_neg (by rw [HYE.out (fun j f hj hf => HK.out j f hj hf)]; simp)] at hr5
                have HR6 := Lib.hid hr5
                clear hge hm hr5
                go_wp2_with fail
                go_ret
                exact ⟨by rw [HR6.out]; rfl, HS.out.bel⟩
  · rw [if_pos h2] at hR
    have hpos : 0 < f.params.length := List.length_pos_iff.2 h2
    obtain ⟨pl, hpl⟩ : ∃ pl, f.params.length = pl := ⟨_, rfl⟩
    rw [hpl] at d0 hpos
    have q2 := decide_eq_true (show (0 : Int) < (pl : Int) by omega)
    have q3 : (0 : Int) < (pl : Int) := by omega
    subst hR
    clear h0 h1 hf hpe h2 hfp hfb hfl hpl
    go_enter Tryz.func5, Tryz.ntmps5
    go_wp2_with fail
    go_ret
    exact ⟨rfl, HB.out⟩
end Go.Proofs.YtjhdlnllhjffkaaGreatDoor
