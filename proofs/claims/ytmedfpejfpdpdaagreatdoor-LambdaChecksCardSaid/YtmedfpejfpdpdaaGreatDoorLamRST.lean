/- Lambda: the one program as alive builds it. Lambda: alive. Lambda: the law LambdaChecks. -/
import Derived.Test.YtmedfpejfpdpdaaGreatDoorLamAPQ
import Derived.Test.YtmedfpejfpdpdaaGreatDoorLamACD
import Derived.Test.YtmedfpejfpdpdaaGreatDoorLamX
namespace Go.Proofs.YtmedfpejfpdpdaaGreatDoor
open Go.RowKit LamM Go.Maps

theorem blk_IV {w : World} {g : Nat} {l : List Int} (h : Blk w g 3 (intVals l).toArray) (hl : l.length ≤ 1000) : IV w w.heap.size (.slice (some ⟨g, 0, none⟩) l.length l.length) l :=
  ⟨_, _, rfl, Nat.le_refl _, by unfold maxLen; omega, Reads.blk' h (by simp [intVals])⟩
theorem nil_KV (w : World) (B : Nat) : KV w B (.slice none 0 0) [] := ⟨none, 0, rfl, Nat.le_refl _, Nat.zero_le _, rfl, fun h => absurd h (by decide)⟩
abbrev nilS : Value := .slice none 0 0
/-- The five nodes' cells. -/
def progVals (g0 g1 g2 : Nat) : List Value :=
  tmVals u0 nilS nilS nilS ++ tmVals u1 nilS nilS (.slice (some ⟨g0, 0, none⟩) 1 1) ++ tmVals u2 nilS nilS (.slice (some ⟨g1, 0, none⟩) 1 1) ++ tmVals u3 nilS nilS nilS ++ tmVals u4 nilS nilS (.slice (some ⟨g2, 0, none⟩) 2 2)
theorem prog_TV {w : World} {B : Nat} {t : Tm} {av : Value} (hv : t.vars = []) (hk : t.keys = []) (ha : IV w B av t.args) (h1 : 0 ≤ t.k ∧ t.k ≤ 100) (h2 : 0 ≤ t.n ∧ t.n ≤ 100) (h3 : 0 ≤ t.i ∧ t.i ≤ 100) (h4 : ∀ x ∈ t.args, 0 ≤ x ∧ x ≤ 100) (h5 : t.args.length ≤ 100) : TV w B t nilS nilS av where
  v := by rw [hv]; exact nil_IV _ _
  k := by rw [hk]; exact nil_KV _ _
  a := ha
  rk := by omega
  rn := by omega
  ri := by omega
  ra := fun x hx => by have := h4 x hx; omega
  rv := by rw [hv]; intro x hx; cases hx
  lv := by rw [hv]; decide
  lk := by rw [hk]; decide
  la := by omega
set_option maxRecDepth 10000 in
theorem prog_NV {w : World} {g0 g1 g2 g : Nat} (h0 : Blk w g0 3 #[.int .i64 0]) (h1 : Blk w g1 3 #[.int .i64 1]) (h2 : Blk w g2 3 #[.int .i64 2, .int .i64 3]) (h : Blk w g 42 (progVals g0 g1 g2).toArray) :
    NV w w.heap.size (.slice (some ⟨g, 0, none⟩) 5 5) L5 := by
  have hc : ∀ k u, (progVals g0 g1 g2)[k]? = some u → w.cell? ((⟨g, 0, none⟩ : Addr).add k) = some u := by
    intro k u hu
    rw [show (⟨g, 0, none⟩ : Addr).add k = ⟨g, k, none⟩ by unfold Addr.add; split <;> simp_all, h.cell k]
    simpa using hu
  refine ⟨_, 5, rfl, by decide, by decide, fun i t ht => ?_⟩
  match i, ht with
  | 0, ht =>
    obtain rfl := Option.some.inj ht
    refine ⟨_, nilS, nilS, nilS, rfl, h.lt, prog_TV rfl rfl (nil_IV _ _) (by decide) (by decide) (by decide) (by decide) (by decide), fun j u hu => hc _ _ ?_⟩
    rcases j with _ | _ | _ | _ | _ | _ | _ | _ | j <;> first | exact hu | exact absurd hu (by simp [tmVals])
  | 1, ht =>
    obtain rfl := Option.some.inj ht
    refine ⟨_, nilS, nilS, _, rfl, h.lt, prog_TV rfl rfl (blk_IV (l := [0]) h0 (by decide)) (by decide) (by decide) (by decide) (by decide) (by decide), fun j u hu => hc _ _ ?_⟩
    rcases j with _ | _ | _ | _ | _ | _ | _ | _ | j <;> first | exact hu | exact absurd hu (by simp [tmVals])
  | 2, ht =>
    obtain rfl := Option.some.inj ht
    refine ⟨_, nilS, nilS, _, rfl, h.lt, prog_TV rfl rfl (blk_IV (l := [1]) h1 (by decide)) (by decide) (by decide) (by decide) (by decide) (by decide), fun j u hu => hc _ _ ?_⟩
    rcases j with _ | _ | _ | _ | _ | _ | _ | _ | j <;> first | exact hu | exact absurd hu (by simp [tmVals])
  | 3, ht =>
    obtain rfl := Option.some.inj ht
    refine ⟨_, nilS, nilS, nilS, rfl, h.lt, prog_TV rfl rfl (nil_IV _ _) (by decide) (by decide) (by decide) (by decide) (by decide), fun j u hu => hc _ _ ?_⟩
    rcases j with _ | _ | _ | _ | _ | _ | _ | _ | j <;> first | exact hu | exact absurd hu (by simp [tmVals])
  | 4, ht =>
    obtain rfl := Option.some.inj ht
    refine ⟨_, nilS, nilS, _, rfl, h.lt, prog_TV rfl rfl (blk_IV (l := [2, 3]) h2 (by decide)) (by decide) (by decide) (by decide) (by decide) (by decide), fun j u hu => hc _ _ ?_⟩
    rcases j with _ | _ | _ | _ | _ | _ | _ | _ | j <;> first | exact hu | exact absurd hu (by simp [tmVals])
  | i + 5, ht => exact absurd ht (by simp [L5])
end Go.Proofs.YtmedfpejfpdpdaaGreatDoor

namespace Go.Proofs.YtmedfpejfpdpdaaGreatDoor
open Go.RowKit LamM Go.Maps
theorem blk_at {w : World} {n : Nat} (h : w.heap.size = n) (t : TypeId) (cs : Array Value) : Blk (w.alloc (.cells cs t)) n t cs := by subst h; exact Blk.new w t cs
set_option maxRecDepth 100000 in
set_option maxHeartbeats 4000000 in
theorem alive_any (w : World) : Calls Tryz.prog 8 #[] w fun e w' => e = .returned (.bool true) ∧ Below w.heap.size w w' := by
  go_enter Tryz.func8, Tryz.ntmps8
  go_upto_region 2 with (go_at_call 22; ((with_reducible refine (place_any _).mono ?_); rintro e w1 ⟨rfl, hb1⟩))
  have hz1 := hb1.size
  obtain ⟨W1, hW⟩ : ∃ W1, (((((w1.alloc (.cells #[.int .i64 0] 3)).alloc (.cells #[.int .i64 1] 3)).alloc (.cells #[.int .i64 2, .int .i64 3] 3)).alloc (.cells #[.int .i64 1, .int .i64 20, .int .i64 0, .int .u64 0, .string ⟨#[]⟩, .slice none 0 0, .slice none 0 0, .slice none 0 0, .int .i64 15, .int .i64 58, .int .i64 0, .int .u64 0, .string ⟨#[]⟩, .slice none 0 0, .slice none 0 0, .slice (some ⟨w1.heap.size, 0, none⟩) 1 1, .int .i64 8, .int .i64 20, .int .i64 0, .int .u64 0, .string ⟨#[]⟩, .slice none 0 0, .slice none 0 0, .slice (some ⟨w1.heap.size + 1, 0, none⟩) 1 1, .int .i64 4, .int .i64 0, .int .i64 0, .int .u64 0, .string ⟨#[104, 105]⟩, .slice none 0 0, .slice none 0 0, .slice none 0 0, .int .i64 9, .int .i64 0, .int .i64 0, .int .u64 0, .string ⟨#[]⟩, .slice none 0 0, .slice none 0 0, .slice (some ⟨w1.heap.size + 1 + 1, 0, none⟩) 2 2] 42)).alloc (.cells #[.slice (some ⟨w1.heap.size + 1 + 1 + 1, 0, none⟩) 5 5, .int .i64 4] 24)) = W1 := ⟨_, rfl⟩
  have HB1 := Lib.hid (show Below w.heap.size w W1 by rw [← hW]; exact ((((hb1.alloc hz1 _).alloc (by simp; omega) _).alloc (by simp; omega) _).alloc (by simp; omega) _).alloc (by simp; omega) _)
  have k0 : Blk W1 (w1.heap.size) 3 #[.int .i64 0] := by rw [← hW]; exact ((((blk_at rfl _ _).alloc _).alloc _).alloc _).alloc _
  have k1 : Blk W1 (w1.heap.size + 1) 3 #[.int .i64 1] := by rw [← hW]; exact (((blk_at (by simp) _ _).alloc _).alloc _).alloc _
  have k2 : Blk W1 (w1.heap.size + 1 + 1) 3 #[.int .i64 2, .int .i64 3] := by rw [← hW]; exact ((blk_at (by simp) _ _).alloc _).alloc _
  have k3 : Blk W1 (w1.heap.size + 1 + 1 + 1) 42 (progVals (w1.heap.size) (w1.heap.size + 1) (w1.heap.size + 1 + 1)).toArray := by rw [← hW]; exact (blk_at (by simp) _ _).alloc _
  have HBX := Lib.hid (show Blk W1 (w1.heap.size + 1 + 1 + 1 + 1) 24 #[.slice (some ⟨w1.heap.size + 1 + 1 + 1, 0, none⟩) 5 5, .int .i64 4] by rw [← hW]; exact blk_at (by simp) _ _)
  have HN1 := Lib.hid (prog_NV k0 k1 k2 k3)
  have HR1 := Lib.hid (run_100 ⟨w1.heap.size + 1 + 1 + 1, 0, none⟩ 5 W1 HN1.out)
  have b0 : W1.cell? ⟨w1.heap.size + 1 + 1 + 1 + 1, 0, none⟩ = some (.slice (some ⟨w1.heap.size + 1 + 1 + 1, 0, none⟩) 5 5) := HBX.out.cell 0
  have b1 : W1.cell? ⟨w1.heap.size + 1 + 1 + 1 + 1, 1, none⟩ = some (.int .i64 4) := HBX.out.cell 1
  rw [hW]
  clear hW k0 k1 k2 k3 hb1 hz1
  go_upto_region 3 with (go_at_call 23; ((with_reducible refine (HR1.out).mono ?_); rintro e w2 ⟨og, oc, rfl, hc2, hb2⟩))
  have HL2 := Lib.hid (cell_lt hc2)
  have HC2 := Lib.hid hc2
  have HBX2 := Lib.hid (HBX.out.below hb2 HBX.out.lt)
  have HN2 := Lib.hid (HN1.out.below hb2)
  have HB2 := Lib.hid (HB1.out.trans (hb2.mono HB1.out.size))
  clear b0 b1 hc2 hb2
  obtain ⟨W3, hW⟩ : ∃ W3, w2.alloc (.cells #[.slice (some ⟨og, 0, none⟩) 1 oc, .int .i64 1, .string ⟨#[]⟩, .int .i64 5] 59) = W3 := ⟨_, rfl⟩
  have hb3 : Below w2.heap.size w2 W3 := by rw [← hW]; exact (Below.refl _ _).alloc (Nat.le_refl _) _
  have HO3 := Lib.hid (show Blk W3 w2.heap.size 59 _ by rw [← hW]; exact Blk.new _ _ _)
  have HBX3 := Lib.hid (HBX2.out.below hb3 HBX2.out.lt)
  have HN3 := Lib.hid (HN2.out.below hb3)
  have HB3 := Lib.hid (HB2.out.trans (hb3.mono HB2.out.size))
  have HC3 := Lib.hid ((hb3.cell HL2.out).trans HC2.out)
  have HR3 := Lib.hid (run_3 ⟨w1.heap.size + 1 + 1 + 1, 0, none⟩ 5 W3 HN3.out)
  have b0 : W3.cell? ⟨w1.heap.size + 1 + 1 + 1 + 1, 0, none⟩ = some (.slice (some ⟨w1.heap.size + 1 + 1 + 1, 0, none⟩) 5 5) := HBX3.out.cell 0
  have b1 : W3.cell? ⟨w1.heap.size + 1 + 1 + 1 + 1, 1, none⟩ = some (.int .i64 4) := HBX3.out.cell 1
  rw [hW]
  clear hW hb3
  go_upto_region 4 with (go_at_call 23; ((with_reducible refine (HR3.out).mono ?_); rintro e w4 ⟨rfl, hb4⟩))
  have HO4 := Lib.hid (HO3.out.below hb4 HO3.out.lt)
  have HC4 := Lib.hid ((hb4.cell (cell_lt HC3.out)).trans HC3.out)
  have HB4 := Lib.hid (HB3.out.trans (hb4.mono HB3.out.size))
  clear b0 b1 hb4
  obtain ⟨W5, hW⟩ : ∃ W5, w4.alloc (.cells #[.slice none 0 0, .int .i64 3, .string ⟨#[]⟩, .int .i64 3] 59) = W5 := ⟨_, rfl⟩
  have hb5 : Below w4.heap.size w4 W5 := by rw [← hW]; exact (Below.refl _ _).alloc (Nat.le_refl _) _
  have HO5 := Lib.hid (HO4.out.below hb5 HO4.out.lt)
  have HP5 := Lib.hid (show Blk W5 w4.heap.size 59 _ by rw [← hW]; exact Blk.new _ _ _)
  have HB5 := Lib.hid (HB4.out.trans (hb5.mono HB4.out.size))
  have c := (hb5.cell (cell_lt HC4.out)).trans HC4.out
  have p0 := HO5.out.cell 0
  have p1 := HO5.out.cell 1
  have p3 := HO5.out.cell 3
  have q0 := HP5.out.cell 0
  have q1 := HP5.out.cell 1
  have q3 := HP5.out.cell 3
  simp at p0 p1 p3 q0 q1 q3
  rw [hW]
  clear hW hb5
  go_wp2_with fail
  go_ret
  exact ⟨rfl, HB5.out⟩
end Go.Proofs.YtmedfpejfpdpdaaGreatDoor

namespace Go.Proofs.YtmedfpejfpdpdaaGreatDoor
open Go.RowKit LamM Go.Maps
/-- Both sets of free names are had. -/
def BothF (W1 : World) (L : List Tm) (root : Int) (p3 p4 : Value) (wx : World) : Prop :=
  IV wx wx.heap.size p3 (freeRes L root) ∧ IV wx wx.heap.size p4 (freeRes L root) ∧ Below W1.heap.size W1 wx
set_option maxRecDepth 100000 in
set_option maxHeartbeats 4000000 in
theorem law_any (L : List Tm) (v : Value) (root : Int) (w : World) (hN : NV w w.heap.size v L) : Calls Tryz.prog 3 #[.agg #[v, .int .i64 root]] w fun e w' => e = .returned (.bool true) ∧ Below w.heap.size w w' := by
  obtain ⟨W1, hW⟩ : ∃ W1, w.alloc (.cells #[v, .int .i64 root] 24) = W1 := ⟨_, rfl⟩
  have hb1 : Below w.heap.size w W1 := by rw [← hW]; exact (Below.refl _ _).alloc (Nat.le_refl _) _
  have HBX := Lib.hid (show Blk W1 w.heap.size 24 #[v, .int .i64 root] by rw [← hW]; exact Blk.new _ _ _)
  have HN1 := Lib.hid (hN.below hb1)
  have HB1 := Lib.hid hb1
  have HL := Lib.hid (lfree_any L v root W1.drew (HN1.out.below (Below.drew (Below.refl _ _))))
  have HR := Lib.hid (rfree_any L v root W1.drew (HN1.out.below (Below.drew (Below.refl _ _))))
  have K0 := Lib.hid (show W1.drew.cell? ⟨w.heap.size, 0, none⟩ = some v ∧ W1.drew.cell? ⟨w.heap.size, 1, none⟩ = some (.int .i64 root) from ⟨HBX.out.cell 0, HBX.out.cell 1⟩)
  unfold GivesI at HL HR
  clear hb1 hN
  go_enter Tryz.func3, Tryz.ntmps3
  go_upto_region 1 with fail
  clear hW
  go_cut [3, 4] from 6 to 15 (fun p3 p4 wx => Hid (BothF W1 L root p3 p4 wx))
  case first =>
    go_region_held3 (fun w' => w'.cell? ⟨w.heap.size, 0, none⟩ = some v ∧ w'.cell? ⟨w.heap.size, 1, none⟩ = some (.int .i64 root)) (first | with_reducible exact K0.out | with_reducible exact K2.out | with_reducible exact K3.out)
      (first
        | (go_at_call 4; ((with_reducible refine (HL.out).mono ?_); rintro e w2 ⟨v3, rfl, hi2, hb2⟩; have HI2 := Lib.hid hi2; have HB2 := Lib.hid hb2; have HR2 := Lib.hid (rfree_any L v root w2 (HN1.out.below (Below.trans (Below.drew (Below.refl _ _)) hb2))); unfold GivesI at HR2; have K2 := Lib.hid (show w2.cell? ⟨w.heap.size, 0, none⟩ = some v ∧ w2.cell? ⟨w.heap.size, 1, none⟩ = some (.int .i64 root) from ⟨(HBX.out.drew.below hb2 HBX.out.lt).cell 0, (HBX.out.drew.below hb2 HBX.out.lt).cell 1⟩); clear hi2 hb2))
        | (go_at_call 5; ((with_reducible refine (HR.out).mono ?_); rintro e w2 ⟨v3, rfl, hi2, hb2⟩; have HI2 := Lib.hid hi2; have HB2 := Lib.hid hb2; have HL2 := Lib.hid (lfree_any L v root w2 (HN1.out.below (Below.trans (Below.drew (Below.refl _ _)) hb2))); unfold GivesI at HL2; have K2 := Lib.hid (show w2.cell? ⟨w.heap.size, 0, none⟩ = some v ∧ w2.cell? ⟨w.heap.size, 1, none⟩ = some (.int .i64 root) from ⟨(HBX.out.drew.below hb2 HBX.out.lt).cell 0, (HBX.out.drew.below hb2 HBX.out.lt).cell 1⟩); clear hi2 hb2))
        | (go_at_call 5; ((with_reducible refine (HR2.out).mono ?_); rintro e w3 ⟨v4, rfl, hi3, hb3⟩; have HI3 := Lib.hid hi3; have HB3 := Lib.hid hb3; have HX3 := Lib.hid ((HBX.out.drew.below HB2.out HBX.out.lt).below hb3 (HBX.out.drew.below HB2.out HBX.out.lt).lt); have K3 := Lib.hid (show w3.cell? ⟨w.heap.size, 0, none⟩ = some v ∧ w3.cell? ⟨w.heap.size, 1, none⟩ = some (.int .i64 root) from ⟨HX3.out.cell 0, HX3.out.cell 1⟩); clear hi3 hb3))
        | (go_at_call 4; ((with_reducible refine (HL2.out).mono ?_); rintro e w3 ⟨v4, rfl, hi3, hb3⟩; have HI3 := Lib.hid hi3; have HB3 := Lib.hid hb3; have HX3 := Lib.hid ((HBX.out.drew.below HB2.out HBX.out.lt).below hb3 (HBX.out.drew.below HB2.out HBX.out.lt).lt); have K3 := Lib.hid (show w3.cell? ⟨w.heap.size, 0, none⟩ = some v ∧ w3.cell? ⟨w.heap.size, 1, none⟩ = some (.int .i64 root) from ⟨HX3.out.cell 0, HX3.out.cell 1⟩); clear hi3 hb3)))
    all_goals
      go_wp2_with fail
      go_meet
    case rel => exact Lib.hid ⟨(HI2.out.keep (fun _ hp => HB3.out.cell hp)).more HB3.out.size, HI3.out, ((Below.drew (Below.refl _ _)).trans HB2.out).trans (HB3.out.mono HB2.out.size)⟩
  case rest =>
    have HBX2 := Lib.hid (HBX.out.below hcut.out.2.2 HBX.out.lt)
    have HN2 := Lib.hid (HN1.out.below hcut.out.2.2)
    have HB2 := Lib.hid (HB1.out.trans (hcut.out.2.2.mono HB1.out.size))
    obtain ⟨hi3, hi4, -⟩ := hcut.out
    obtain ⟨A3, c3, rfl, hc1, hc2⟩ := hi3.len
    have hlen : (freeRes L root).length ≤ 9223372036854775807 := by unfold maxLen at hc2; omega
    clear hc1 hc2
    obtain ⟨A4, c4, rfl, _, _⟩ := hi4.len
    have HI3 := Lib.hid hi3
    have HI4 := Lib.hid hi4
    clear hcut hi3 hi4 HL HR K0 HBX HN1 HB1
    generalize freeRes L root = F at *
    have hll : ((F.length : Int) != (F.length : Int)) = false := n_false rfl
    go_wp2
    go_loopw [5] (fun iv wr => Only [] wc wr ∧ ∃ k : Nat, k ≤ F.length ∧ iv = .int .i64 (k : Int)) (fun iv _ => F.length - (intOf iv).toNat)
    case atStart => exact ⟨Only.refl _ _, 0, Nat.zero_le _, rfl⟩
    case round =>
      obtain ⟨ho, k, hk, rfl⟩ := hrel
      have HO := Lib.hid ho
      clear ho
      rcases Nat.lt_or_ge k F.length with hlt | hge
      · obtain ⟨x, hx⟩ : ∃ x, F[k]? = some x := ⟨_, List.getElem?_eq_getElem hlt⟩
        obtain ⟨a3, rfl, _, ca⟩ := HI3.out.at_ hx
        obtain ⟨a4, rfl, _, cb⟩ := HI4.out.at_ hx
        have ca' := HO.out.cell (by simp) ca
        have cb' := HO.out.cell (by simp) cb
        have q : (k : Int) < (F.length : Int) := by omega
        have p : (x != x) = false := n_false rfl
        clear ca cb hx
        go_wp2
        go_quiet (fail)
        go_wp2
        go_roundw
        case rel => exact ⟨HO.out.drewN _, k + 1, by omega, by go_num⟩
        case measure => simp [intOf]; omega
      · have q : ¬ (k : Int) < (F.length : Int) := by omega
        have HX := Lib.hid (HBX2.out.only HO.out (by simp))
        have HB := Lib.hid (HB2.out.trans (show Below w.heap.size wc wr from below_only (Below.refl _ _) HO.out (fun k h => by cases h) HB2.out.size))
        go_upto_region 9 with fail
        have HNr := Lib.hid (HN2.out.below (below_only (Below.refl wc.heap.size _) HO.out (fun k h => by cases h) (Nat.le_refl _)))
        have HC1 := Lib.hid (lcheck_any L v root wr.drew (HNr.out.below (Below.drew (Below.refl _ _))))
        have K0 := Lib.hid (show wr.drew.cell? ⟨w.heap.size, 0, none⟩ = some v ∧ wr.drew.cell? ⟨w.heap.size, 1, none⟩ = some (.int .i64 root) from ⟨HX.out.cell 0, HX.out.cell 1⟩)
        have HRC := Lib.hid (fun w' h => rcheck_any L v root w' h)
        unfold CkPost at HC1 HRC
        generalize checkOf prims L root = R at *
        have hee : (R == R) = true := b_true rfl
        go_region_held3 (fun w' => w'.cell? ⟨w.heap.size, 0, none⟩ = some v ∧ w'.cell? ⟨w.heap.size, 1, none⟩ = some (.int .i64 root)) (first | with_reducible exact K0.out | with_reducible exact K2.out | with_reducible exact K3.out | with_reducible exact K4.out)
          (first
            | (go_at_call 6; ((with_reducible refine (HC1.out).mono ?_); rintro e w2 ⟨rfl, hb2⟩; have HD2 := Lib.hid ((Below.drew (Below.refl wr.heap.size wr)).trans hb2); have HX2 := Lib.hid (HX.out.below HD2.out HX.out.lt); have K2 := Lib.hid (show w2.cell? ⟨w.heap.size, 0, none⟩ = some v ∧ w2.cell? ⟨w.heap.size, 1, none⟩ = some (.int .i64 root) from ⟨HX2.out.cell 0, HX2.out.cell 1⟩); have HC2 := Lib.hid (HRC.out w2 (HNr.out.below HD2.out)); clear hb2))
            | (go_at_call 7; ((with_reducible refine (HC2.out).mono ?_); rintro e w3 ⟨rfl, hb3⟩; have HD3 := Lib.hid (HD2.out.trans (hb3.mono HD2.out.size)); have HX3 := Lib.hid (HX.out.below HD3.out HX.out.lt); have K3 := Lib.hid (show w3.cell? ⟨w.heap.size, 0, none⟩ = some v ∧ w3.cell? ⟨w.heap.size, 1, none⟩ = some (.int .i64 root) from ⟨HX3.out.cell 0, HX3.out.cell 1⟩); have HC3 := Lib.hid (alive_any w3); clear hb3))
            | (go_at_call 8; ((with_reducible refine (HC3.out).mono ?_); rintro e w4 ⟨rfl, hb4⟩; have HD4 := Lib.hid (HD3.out.trans (hb4.mono HD3.out.size)); have HX4 := Lib.hid (HX.out.below HD4.out HX.out.lt); have K4 := Lib.hid (show w4.cell? ⟨w.heap.size, 0, none⟩ = some v ∧ w4.cell? ⟨w.heap.size, 1, none⟩ = some (.int .i64 root) from ⟨HX4.out.cell 0, HX4.out.cell 1⟩); clear hb4)))
        all_goals
          go_wp2_with fail
          go_ret
          exact ⟨rfl, HB.out.trans (HD4.out.mono HB.out.size)⟩
end Go.Proofs.YtmedfpejfpdpdaaGreatDoor
