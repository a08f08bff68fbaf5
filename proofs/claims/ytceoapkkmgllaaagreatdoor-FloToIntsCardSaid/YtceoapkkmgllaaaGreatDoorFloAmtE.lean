/- Amounts: divD. -/
import Derived.Test.YtceoapkkmgllaaaGreatDoorFloAmtD
namespace Go.Proofs.YtceoapkkmgllaaaGreatDoor
open Go.RowKit FloM

/-- The quotient's digits from k on; noughts below. -/
def qs (n k Q : Nat) : List Nat := (List.range n).map fun j => if j < k then 0 else dg Q j
theorem qs_len (n k Q : Nat) : (qs n k Q).length = n := by unfold qs; simp
theorem qs_get {n k Q j : Nat} (h : j < n) : (qs n k Q)[j]? = some (if j < k then 0 else dg Q j) := by unfold qs; simp [h]
theorem qs_top (n Q : Nat) : qs n n Q = List.replicate n 0 := by
  apply List.ext_getElem?
  intro i
  rcases Nat.lt_or_ge i n with h | h
  · rw [qs_get h, if_pos h, List.getElem?_replicate, if_pos h]
  · rw [List.getElem?_eq_none (by rw [qs_len]; exact h), List.getElem?_eq_none (by simpa using h)]
theorem qs_zero (n Q : Nat) : qs n 0 Q = fd n Q := by
  apply List.ext_getElem?
  intro i
  rcases Nat.lt_or_ge i n with h | h
  · rw [qs_get h, if_neg (by omega), fd_get h]
  · rw [List.getElem?_eq_none (by rw [qs_len]; exact h), List.getElem?_eq_none (by rw [fd_len]; exact h)]
theorem qs_set {n k Q : Nat} (h : k < n) : (qs n (k + 1) Q).set k (dg Q k) = qs n k Q := by
  apply List.ext_getElem?
  intro i
  rw [List.getElem?_set]
  rcases Nat.lt_or_ge i n with hi | hi
  · by_cases e : k = i
    · subst e
      rw [if_pos rfl, qs_len, if_pos hi, qs_get hi, if_neg (by omega)]
    · rw [if_neg e, qs_get hi, qs_get hi]
      by_cases h2 : i < k
      · rw [if_pos h2, if_pos (by omega)]
      · rw [if_neg h2, if_neg (by omega)]
  · rw [if_neg (by omega), List.getElem?_eq_none (by rw [qs_len]; exact hi), List.getElem?_eq_none (by rw [qs_len]; exact hi)]
theorem vals_set (ds : List Nat) (k d : Nat) : (vals ds).set k (.int .u16 (d : Int)) = vals (ds.set k d) := by
  unfold vals; rw [List.map_set]
theorem vals_made (n : Nat) : (madeCells #[Value.int .u16 0] n).toList = vals (List.replicate n 0) := by
  rw [toList_madeCells_one]
  unfold vals; rw [List.map_replicate]; rfl

theorem nd_room {r b : Nat} (h : r < 65536 * b) : nd r ≤ nd b + 1 := by
  rw [nd_le, Nat.pow_succ]
  have := lt_nd b
  have : 65536 * (b + 1) ≤ 65536 * 65536 ^ nd b := Nat.mul_le_mul_left _ this
  rw [Nat.mul_comm (65536 ^ nd b)]
  omega

def GivesDD (w : World) (q r : Nat) (e : Ending) (w' : World) : Prop := ∃ v u, e = .returned (.tuple #[v, u]) ∧ D w' v q ∧ D w' u r ∧ Fr w.heap.size v ∧ Fr w.heap.size u ∧ Below w.heap.size w w'

/-- The round's number of what is still to come: -1, or j. -/
def AtI (k : Nat) (v : Value) : Prop := (k = 0 ∧ v = .int .i64 (-1)) ∨ (∃ j : Nat, k = j + 1 ∧ v = .int .i64 (j : Int))
theorem AtI.start (n : Nat) : AtI n (.int .i64 ((n : Int) - 1)) := by
  rcases n with _ | n
  · exact .inl ⟨rfl, rfl⟩
  · exact .inr ⟨n, rfl, by go_num⟩

theorem D.set_ {w : World} {v : Value} {N g j : Nat} (h : D w v N) (hg : v.ownBlock ≠ some g) (u : Value) : D (w.setCell ⟨g, j, none⟩ u) v N := by
  obtain ⟨A, c, rfl, hc, hm, hN, hl, hr⟩ := h
  refine ⟨A, c, rfl, hc, hm, hN, hl, fun hn => ?_⟩
  obtain ⟨ad, rfl, hb, hcell⟩ := hr hn
  refine ⟨ad, rfl, by simpa [World.setCell] using hb, fun i x hx => ?_⟩
  rw [World.cell?_setCell_other]
  · exact hcell i x hx
  · intro e
    have := congrArg Addr.block e
    rw [block_of_add] at this
    exact hg (congrArg some this.symm)

theorem own_ge {B n c : Nat} : ∀ k, (Value.slice (some ⟨B, 0, none⟩) n c).ownBlock = some k → B ≤ k := fun _ h => Nat.le_of_eq (Option.some.inj h)

/-- The rest with a digit more: what is appended. -/
theorem cons_own {wr w3 : World} {v' : Value} {x R : Nat} (hx : x < 65536) (h : w3.ownsRow wr.heap.size 102 1 v' (1 + nd R) ([.int .u16 (x : Int)] ++ vals (fd (nd R) R))) :
    Own wr.heap.size w3 v' (nd R + 1) (R * 65536 + x) := by
  have e : [Value.int .u16 (x : Int)] ++ vals (fd (nd R) R) = vals (fd (nd R + 1) (R * 65536 + x)) := by
    rw [fd_cons _ _ _ hx]; rfl
  rw [e, Nat.add_comm] at h
  exact h

set_option maxRecDepth 100000 in
set_option maxHeartbeats 1600000 in
theorem div_any' (A : Option Addr) (c n : Nat) (vb : Value) (a b : Nat) (w : World) (hn : n = nd a) (hb1 : n ≤ 80000) (hb2 : nd b ≤ 80000) (hb0 : 0 < b) (hr : Reads w w.heap.size 1 A n (vals (fd n a))) (hb : D w vb b) :
    Calls Tryz.prog 71 #[.slice A n c, vb] w (GivesDD w (a / b) (a % b)) := by
  obtain ⟨i0, hi0, hz0, hz1, hz2⟩ := info_parts info16
  have hR := Lib.hid hr
  have HB := Lib.hid hb
  have HN := Lib.hid (show a < 65536 ^ n by rw [hn]; exact lt_nd a)
  clear hr hb hn
  go_enter Tryz.func71, Tryz.ntmps71
  go_wp2_with (refine wpList_make_full _ rfl _ _ _ rfl w.heap.size 102 i0 (.int .u16 0) 1 und16 hi0 hz0 hz1 _ _ _ _ n rfl rfl rfl rfl (by rw [hz2]; omega) (by unfold maxLen; omega) (Nat.le_refl _) ?_)
  intro w1 hown1 hgrow1
  rw [vals_made, ← qs_top n (a / b)] at hown1
  have hbel1 : Below w.heap.size w w1 := (Below.refl _ _).grown hgrow1 (Nat.le_refl _) (fun k hk => by cases hk)
  obtain ⟨g, hg⟩ : ∃ g, g = w.heap.size := ⟨_, rfl⟩
  rw [← hg] at hown1 ⊢
  have hgl : g < w1.heap.size := (World.ownsRow.lt hown1 g rfl).2
  have HO1 := Lib.hid hown1
  have HBE1 := Lib.hid hbel1
  have HG := Lib.hid hg
  clear hown1 hgrow1 hbel1 hg
  go_wp2
  go_loopw [7, 8] (fun rest i wr => ∃ k : Nat, k ≤ n ∧ AtI k i ∧ wr.ownsRow g 102 1 (.slice (some ⟨g, 0, none⟩) n n) n (vals (qs n k (a / b))) ∧ D wr rest (a / 65536 ^ k % b) ∧ Fr g rest ∧ rest.ownBlock ≠ some g ∧ Below w.heap.size w wr) (fun _ i _ => (intOf i + 1).toNat)
  case atStart =>
    refine ⟨n, Nat.le_refl _, AtI.start n, HO1.out, ?_, ?_, ?_, HBE1.out⟩
    · rw [Nat.div_eq_of_lt HN.out, Nat.zero_mod]
      show DS w1 (.slice none 0 0) (nd 0) 0
      rw [nd_zero]
      exact ⟨none, 0, rfl, Nat.le_refl _, by unfold maxLen; omega, by simp, Reads.none_⟩
    · intro x hx; cases hx
    · intro hx; cases hx
  case round =>
    obtain ⟨k, hk, hi, hown, hrest, hfr, hne, hbel⟩ := hrel
    have hg1 : g ≤ w.heap.size := by have := HG.out; omega
    have hg2 : w.heap.size ≤ g := by have := HG.out; omega
    have hsz := hbel.size
    rcases hi with ⟨rfl, rfl⟩ | ⟨j, rfl, rfl⟩
    · rw [qs_zero] at hown
      have hlt : a / b < 65536 ^ n := Nat.lt_of_le_of_lt (Nat.div_le_self _ _) HN.out
      have hT := Lib.hid (trim_D _ n (a / b) wr (Own.DS hown hlt))
      have HF := Lib.hid (show Fr w.heap.size (.slice (some ⟨g, 0, none⟩) n n) from fun x hx => by have := own_ge x hx; omega)
      rw [Nat.pow_zero, Nat.div_one] at hrest
      have HR2 := Lib.hid hrest
      have HFR := Lib.hid (show Fr w.heap.size u7 from fun x hx => by have := hfr x hx; omega)
      have HBE := Lib.hid hbel
      clear hown hlt hrest hfr hbel hne
      go_wp2_with (go_at_call 102; refine hT.out.mono ?_; rintro e w' ⟨⟨v', rfl, hv', ho'⟩, rfl⟩; have HV := Lib.hid hv'; have HO := Lib.hid ho'; clear hv' ho')
      go_ret2
      exact ⟨_, _, rfl, HV.out, HR2.out, Fr.of HF.out HO.out, HFR.out, HBE.out⟩
    · obtain ⟨ad, rfl, ha, hcell⟩ := DS.at_ hR.out (show j < n by omega)
      rw [← hbel.cell (by rw [block_of_add]; exact ha)] at hcell
      have hx := dg_lt a j
      have DSTEP := Lib.hid (div_step a b j hb0)
      have DROOM := Lib.hid (div_room a b j hb0)
      have hR0 : a / 65536 ^ (j + 1) % b < b := Nat.mod_lt _ hb0
      have hndR := nd_mono (Nat.le_of_lt hR0)
      clear hR0
      generalize a / 65536 ^ (j + 1) % b = R at *
      obtain ⟨A', c', rfl, _, _, _, hrd⟩ := hrest
      have HX := Lib.hid (show dg a j < 65536 from hx)
      generalize dg a j = x at *
      have HRD := Lib.hid hrd
      have HOW := Lib.hid hown
      have HBE := Lib.hid hbel
      have hglt : g < wr.heap.size := (World.ownsRow.lt hown g rfl).2
      clear hrd hown hbel hfr hne
      go_wp2_with (at_builtin; refine wpList_append_any _ rfl _ _ _ rfl wr.heap.size 102 i0 _ 1 2 und16 hi0 hz0 hz1 hz2 rfl (by omega) _ 1 [.int .u16 (x : Int)] rfl (World.ownsRow_lit wr #[.int .u16 (x : Int)] 1 (Nat.le_refl _) (by unfold maxLen; omega) rfl) wr.heap.size A' (nd R) c' (vals (fd (nd R) R)) rfl (HRD.out.alloc (Nat.le_refl _) _) (vals_one _) (by unfold maxLen; omega) (by omega) (by simp) ?_)
      intro v2 w2 hown2 hgrow2 _
      have hco := cons_own HX.out hown2
      have hds := Own.DS hco (cons_lt _ _ _ HX.out (lt_nd R))
      have hbel2 : Below wr.heap.size wr w2 := ((Below.refl _ _).alloc (Nat.le_refl _) _).grown hgrow2 (by simp) own_ge
      have hT := Lib.hid (trim_D v2 _ _ w2 hds)
      have HF2 := Lib.hid (Own.fr hco)
      have HB2 := Lib.hid hbel2
      clear hown2 hgrow2 hds hbel2 hco
      go_wp2_with (go_at_call 102; refine hT.out.mono ?_; rintro e w' ⟨⟨v3, rfl, hv3, ho3⟩, rfl⟩; have HV3 := Lib.hid hv3; have HO3 := Lib.hid ho3; clear hv3 ho3)
      have hroom := nd_room DROOM.out
      refine (digit_D v3 vb (R * 65536 + x) b _ (by omega) (by omega) hb0 DROOM.out HV3.out (HB.out.below (HBE.out.trans (HB2.out.mono hsz)))).mono ?_
      rintro e w4 ⟨v4, rfl, hv4, hf4, hbel4⟩
      rw [DSTEP.out.2] at hv4
      rw [DSTEP.out.1]
      have hs2 := HB2.out.size
      have hbt : Below wr.heap.size wr w4 := HB2.out.trans (hbel4.mono hs2)
      have hown4 := World.ownsRow.kept HOW.out (only_of_below hbt none) (.inr (by simp [Value.ownBlock]))
      have hcq : w4.cell? ⟨g, j, none⟩ = some (.int .u16 0) := by
        rw [World.ownsRow.cellAt hown4 j (by omega), vals, List.getElem?_map, qs_get (by omega), if_pos (by omega)]; rfl
      have hfq : w4.frozen? ⟨g, j, none⟩ = false := World.ownsRow.frozenAt hown4 j
      have hst := (World.ownsRow.stored hown4 j (.int .u16 (dg (a / b) j : Nat))).1
      rw [vals_set, qs_set (by omega)] at hst
      have hne4 : v4.ownBlock ≠ some g := fun h => by have := hf4 g h; omega
      have hv5 := hv4.set_ (j := j) hne4 (.int .u16 (dg (a / b) j : Nat))
      have hbe5 : Below w.heap.size w (w4.setCell ⟨g, j, none⟩ (.int .u16 (dg (a / b) j : Nat))) := (HBE.out.trans (hbt.mono hsz)).setCell (by show w.heap.size ≤ g; omega) _
      have hj : j < n := by omega
      have ST := Lib.hid hst
      have V5 := Lib.hid hv5
      have B5 := Lib.hid hbe5
      have F5 := Lib.hid (show Fr g v4 from fun x hx => by have := hf4 x hx; omega)
      have N5 := Lib.hid hne4
      clear hst hv5 hbe5 hne4 hown4 hbt hbel4 hv4 hf4 hroom hs2
      generalize dg (a / b) j = y at *
      go_wp2
      go_roundw
      case rel =>
        refine ⟨j, by omega, ?_, ST.out, V5.out, F5.out, N5.out, B5.out⟩
        have := AtI.start j
        exact this
      case measure => simp [intOf]

theorem div_D (va vb : Value) (a b : Nat) (w : World) (hb1 : nd a ≤ 80000) (hb2 : nd b ≤ 80000) (hb0 : 0 < b) (ha : D w va a) (hb : D w vb b) :
    Calls Tryz.prog 71 #[va, vb] w (GivesDD w (a / b) (a % b)) := by
  obtain ⟨A, c, rfl, _, _, _, hr⟩ := ha
  exact div_any' A c (nd a) vb a b w rfl hb1 hb2 hb0 hr hb
end Go.Proofs.YtceoapkkmgllaaaGreatDoor
