/- Amounts: divD. Amounts: small, shl, lenB, value, ten. Amounts: mulD. -/
import Derived.Test.YtijncfidjjfmiaaGreatDoorFloSumA
namespace Go.Proofs.YtijncfidjjfmiaaGreatDoor
open Go.RowKit FloM

/-- The quotient's digits from k on; noughts below. -/
def qs (n k Q : Nat) : List Nat := (List.range n).map fun j => if j < k then 0 else dg Q j
theorem qs_len (n k Q : Nat) : (qs n k Q).length = n := by unfold qs; simp
theorem qs_get {n k Q j : Nat} (h : j < n) : (qs n k Q)[j]? = some (if j < k then 0 else dg Q j) := by unfold qs; simp [h]
theorem qs_top (n Q : Nat) : qs n n Q = List.replicate n 0 := by
  apply List.ext_getElem?
  intro i
  rcases Nat.lt_or_ge i n with h | h
  · rw [qs_get h, if_pos h, List.getElem?_replicate, if_pos h]
  · rw [List.getElem?_eq_none (by rw [qs_len]; exact h), List.getElem?_eq_none (by simpa using h)]
theorem qs_zero (n Q : Nat) : qs n 0 Q = fd n Q := by
  apply List.ext_getElem?
  intro i
  rcases Nat.lt_or_ge i n with h | h
  · rw [qs_get h, if_neg (by omega), fd_get h]
  · rw [List.getElem?_eq_none (by rw [qs_len]; exact h), List.getElem?_eq_none (by rw [fd_len]; exact h)]
theorem qs_set {n k Q : Nat} (h : k < n) : (qs n (k + 1) Q).set k (dg Q k) = qs n k Q := by
  apply List.ext_getElem?
  intro i
  rw [List.getElem?_set]
  rcases Nat.lt_or_ge i n with hi | hi
  · by_cases e : k = i
    · subst e
      rw [if_pos rfl, qs_len, if_pos hi, qs_get hi, if_neg (by omega)]
    · rw [if_neg e, qs_get hi, qs_get hi]
      by_cases h2 : i < k
      · rw [if_pos h2, if_pos (by omega)]
      · rw [if_neg h2, if_neg (by omega)]
  · rw [if_neg (by omega), List.getElem?_eq_none (by rw [qs_len]; exact hi), List.getElem?_eq_none (by rw [qs_len]; exact hi)]
theorem vals_set (ds : List Nat) (k d : Nat) : (vals ds).set k (.int .u16 (d : Int)) = vals (ds.set k d) := by
  unfold vals; rw [List.map_set]
theorem vals_made (n : Nat) : (madeCells #[Value.int .u16 0] n).toList = vals (List.replicate n 0) := by
  rw [toList_madeCells_one]
  unfold vals; rw [List.map_replicate]; rfl

theorem nd_room {r b : Nat} (h : r < 65536 * b) : nd r ≤ nd b + 1 := by
  rw [nd_le, Nat.pow_succ]
  have := lt_nd b
  have : 65536 * (b + 1) ≤ 65536 * 65536 ^ nd b := Nat.mul_le_mul_left _ this
  rw [Nat.mul_comm (65536 ^ nd b)]
  omega

def GivesDD (w : World) (q r : Nat) (e : Ending) (w' : World) : Prop := ∃ v u, e = .returned (.tuple #[v, u]) ∧ D w' v q ∧ D w' u r ∧ Fr w.heap.size v ∧ Fr w.heap.size u ∧ Below w.heap.size w w'

/-- The round's number of what is still to come: -1, or j. -/
def AtI (k : Nat) (v : Value) : Prop := (k = 0 ∧ v = .int .i64 (-1)) ∨ (∃ j : Nat, k = j + 1 ∧ v = .int .i64 (j : Int))
theorem AtI.start (n : Nat) : AtI n (.int .i64 ((n : Int) - 1)) := by
  rcases n with _ | n
  · exact .inl ⟨rfl, rfl⟩
  · exact .inr ⟨n, rfl, by go_num⟩

theorem D.set_ {w : World} {v : Value} {N g j : Nat} (h : D w v N) (hg : v.ownBlock ≠ some g) (u : Value) : D (w.setCell ⟨g, j, none⟩ u) v N := by
  obtain ⟨A, c, rfl, hc, hm, hN, hl, hr⟩ := h
  refine ⟨A, c, rfl, hc, hm, hN, hl, fun hn => ?_⟩
  obtain ⟨ad, rfl, hb, hcell⟩ := hr hn
  refine ⟨ad, rfl, by simpa [World.setCell] using hb, fun i x hx => ?_⟩
  rw [World.cell?_setCell_other]
  · exact hcell i x hx
  · intro e
    have := congrArg Addr.block e
    rw [block_of_add] at this
    exact hg (congrArg some this.symm)

theorem own_ge {B n c : Nat} : ∀ k, (Value.slice (some ⟨B, 0, none⟩) n c).ownBlock = some k → B ≤ k := fun _ h => Nat.le_of_eq (Option.some.inj h)

/-- The rest with a digit more: what is appended. -/
theorem cons_own {wr w3 : World} {v' : Value} {x R : Nat} (hx : x < 65536) (h : w3.ownsRow wr.heap.size 81 1 v' (1 + nd R) ([.int .u16 (x : Int)] ++ vals (fd (nd R) R))) :
    Own wr.heap.size w3 v' (nd R + 1) (R * 65536 + x) := by
  have e : [Value.int .u16 (x : Int)] ++ vals (fd (nd R) R) = vals (fd (nd R + 1) (R * 65536 + x)) := by
    rw [fd_cons _ _ _ hx]; rfl
  rw [e, Nat.add_comm] at h
  exact h

set_option maxRecDepth 100000 in
set_option maxHeartbeats 1600000 in
theorem div_any' (A : Option Addr) (c n : Nat) (vb : Value) (a b : Nat) (w : World) (hn : n = nd a) (hb1 : n ≤ 80000) (hb2 : nd b ≤ 80000) (hb0 : 0 < b) (hr : Reads w w.heap.size 1 A n (vals (fd n a))) (hb : D w vb b) :
    Calls Tryz.prog 56 #[.slice A n c, vb] w (GivesDD w (a / b) (a % b)) := by
  obtain ⟨i0, hi0, hz0, hz1, hz2⟩ := info_parts info16
  have hR := Lib.hid hr
  have HB := Lib.hid hb
  have HN := Lib.hid (show a < 65536 ^ n by rw [hn]; exact lt_nd a)
  clear hr hb hn
  go_enter Tryz.func56, Tryz.ntmps56
  go_wp2_with (refine wpList_make_full _ rfl _ _ _ rfl w.heap.size 81 i0 (.int .u16 0) 1 und16 hi0 hz0 hz1 _ _ _ _ n rfl rfl rfl rfl (by rw [hz2]; omega) (by unfold maxLen; omega) (Nat.le_refl _) ?_)
  intro w1 hown1 hgrow1
  rw [vals_made, ← qs_top n (a / b)] at hown1
  have hbel1 : Below w.heap.size w w1 := (Below.refl _ _).grown hgrow1 (Nat.le_refl _) (fun k hk => by cases hk)
  obtain ⟨g, hg⟩ : ∃ g, g = w.heap.size := ⟨_, rfl⟩
  rw [← hg] at hown1 ⊢
  have hgl : g < w1.heap.size := (World.ownsRow.lt hown1 g rfl).2
  have HO1 := Lib.hid hown1
  have HBE1 := Lib.hid hbel1
  have HG := Lib.hid hg
  clear hown1 hgrow1 hbel1 hg
  go_wp2
  go_loopw [7, 8] (fun rest i wr => ∃ k : Nat, k ≤ n ∧ AtI k i ∧ wr.ownsRow g 81 1 (.slice (some ⟨g, 0, none⟩) n n) n (vals (qs n k (a / b))) ∧ D wr rest (a / 65536 ^ k % b) ∧ Fr g rest ∧ rest.ownBlock ≠ some g ∧ Below w.heap.size w wr) (fun _ i _ => (intOf i + 1).toNat)
  case atStart =>
    refine ⟨n, Nat.le_refl _, AtI.start n, HO1.out, ?_, ?_, ?_, HBE1.out⟩
    · rw [Nat.div_eq_of_lt HN.out, Nat.zero_mod]
      show DS w1 (.slice none 0 0) (nd 0) 0
      rw [nd_zero]
      exact ⟨none, 0, rfl, Nat.le_refl _, by unfold maxLen; omega, by simp, Reads.none_⟩
    · intro x hx; cases hx
    · intro hx; cases hx
  case round =>
    obtain ⟨k, hk, hi, hown, hrest, hfr, hne, hbel⟩ := hrel
    have hg1 : g ≤ w.heap.size := by have := HG.out; omega
    have hg2 : w.heap.size ≤ g := by have := HG.out; omega
    have hsz := hbel.size
    rcases hi with ⟨rfl, rfl⟩ | ⟨j, rfl, rfl⟩
    · rw [qs_zero] at hown
      have hlt : a / b < 65536 ^ n := Nat.lt_of_le_of_lt (Nat.div_le_self _ _) HN.out
      have hT := Lib.hid (trim_D _ n (a / b) wr (Own.DS hown hlt))
      have HF := Lib.hid (show Fr w.heap.size (.slice (some ⟨g, 0, none⟩) n n) from fun x hx => by have := own_ge x hx; omega)
      rw [Nat.pow_zero, Nat.div_one] at hrest
      have HR2 := Lib.hid hrest
      have HFR := Lib.hid (show Fr w.heap.size u7 from fun x hx => by have := hfr x hx; omega)
      have HBE := Lib.hid hbel
      clear hown hlt hrest hfr hbel hne
      go_wp2_with (go_at_call 58; refine hT.out.mono ?_; rintro e w' ⟨⟨v', rfl, hv', ho'⟩, rfl⟩; have HV := Lib.hid hv'; have HO := Lib.hid ho'; clear hv' ho')
      go_ret2
      exact ⟨_, _, rfl, HV.out, HR2.out, Fr.of HF.out HO.out, HFR.out, HBE.out⟩
    · obtain ⟨ad, rfl, ha, hcell⟩ := DS.at_ hR.out (show j < n by omega)
      rw [← hbel.cell (by rw [block_of_add]; exact ha)] at hcell
      have hx := dg_lt a j
      have DSTEP := Lib.hid (div_step a b j hb0)
      have DROOM := Lib.hid (div_room a b j hb0)
      have hR0 : a / 65536 ^ (j + 1) % b < b := Nat.mod_lt _ hb0
      have hndR := nd_mono (Nat.le_of_lt hR0)
      clear hR0
      generalize a / 65536 ^ (j + 1) % b = R at *
      obtain ⟨A', c', rfl, _, _, _, hrd⟩ := hrest
      have HX := Lib.hid (show dg a j < 65536 from hx)
      generalize dg a j = x at *
      have HRD := Lib.hid hrd
      have HOW := Lib.hid hown
      have HBE := Lib.hid hbel
      have hglt : g < wr.heap.size := (World.ownsRow.lt hown g rfl).2
      clear hrd hown hbel hfr hne
      go_wp2_with (at_builtin; refine wpList_append_any _ rfl _ _ _ rfl wr.heap.size 81 i0 _ 1 2 und16 hi0 hz0 hz1 hz2 rfl (by omega) _ 1 [.int .u16 (x : Int)] rfl (World.ownsRow_lit wr #[.int .u16 (x : Int)] 1 (Nat.le_refl _) (by unfold maxLen; omega) rfl) wr.heap.size A' (nd R) c' (vals (fd (nd R) R)) rfl (HRD.out.alloc (Nat.le_refl _) _) (vals_one _) (by unfold maxLen; omega) (by omega) (by simp) ?_)
      intro v2 w2 hown2 hgrow2 _
      have hco := cons_own HX.out hown2
      have hds := Own.DS hco (cons_lt _ _ _ HX.out (lt_nd R))
      have hbel2 : Below wr.heap.size wr w2 := ((Below.refl _ _).alloc (Nat.le_refl _) _).grown hgrow2 (by simp) own_ge
      have hT := Lib.hid (trim_D v2 _ _ w2 hds)
      have HF2 := Lib.hid (Own.fr hco)
      have HB2 := Lib.hid hbel2
      clear hown2 hgrow2 hds hbel2 hco
      go_wp2_with (go_at_call 58; refine hT.out.mono ?_; rintro e w' ⟨⟨v3, rfl, hv3, ho3⟩, rfl⟩; have HV3 := Lib.hid hv3; have HO3 := Lib.hid ho3; clear hv3 ho3)
      have hroom := nd_room DROOM.out
      refine (digit_D v3 vb (R * 65536 + x) b _ (by omega) (by omega) hb0 DROOM.out HV3.out (HB.out.below (HBE.out.trans (HB2.out.mono hsz)))).mono ?_
      rintro e w4 ⟨v4, rfl, hv4, hf4, hbel4⟩
      rw [DSTEP.out.2] at hv4
      rw [DSTEP.out.1]
      have hs2 := HB2.out.size
      have hbt : Below wr.heap.size wr w4 := HB2.out.trans (hbel4.mono hs2)
      have hown4 := World.ownsRow.kept HOW.out (only_of_below hbt none) (.inr (by simp [Value.ownBlock]))
      have hcq : w4.cell? ⟨g, j, none⟩ = some (.int .u16 0) := by
        rw [World.ownsRow.cellAt hown4 j (by omega), vals, List.getElem?_map, qs_get (by omega), if_pos (by omega)]; rfl
      have hfq : w4.frozen? ⟨g, j, none⟩ = false := World.ownsRow.frozenAt hown4 j
      have hst := (World.ownsRow.stored hown4 j (.int .u16 (dg (a / b) j : Nat))).1
      rw [vals_set, qs_set (by omega)] at hst
      have hne4 : v4.ownBlock ≠ some g := fun h => by have := hf4 g h; omega
      have hv5 := hv4.set_ (j := j) hne4 (.int .u16 (dg (a / b) j : Nat))
      have hbe5 : Below w.heap.size w (w4.setCell ⟨g, j, none⟩ (.int .u16 (dg (a / b) j : Nat))) := (HBE.out.trans (hbt.mono hsz)).setCell (by show w.heap.size ≤ g; omega) _
      have hj : j < n := by omega
      have ST := Lib.hid hst
      have V5 := Lib.hid hv5
      have B5 := Lib.hid hbe5
      have F5 := Lib.hid (show Fr g v4 from fun x hx => by have := hf4 x hx; omega)
      have N5 := Lib.hid hne4
      clear hst hv5 hbe5 hne4 hown4 hbt hbel4 hv4 hf4 hroom hs2
      generalize dg (a / b) j = y at *
      go_wp2
      go_roundw
      case rel =>
        refine ⟨j, by omega, ?_, ST.out, V5.out, F5.out, N5.out, B5.out⟩
        have := AtI.start j
        exact this
      case measure => simp [intOf]

theorem div_D (va vb : Value) (a b : Nat) (w : World) (hb1 : nd a ≤ 80000) (hb2 : nd b ≤ 80000) (hb0 : 0 < b) (ha : D w va a) (hb : D w vb b) :
    Calls Tryz.prog 56 #[va, vb] w (GivesDD w (a / b) (a % b)) := by
  obtain ⟨A, c, rfl, _, _, _, hr⟩ := ha
  exact div_any' A c (nd a) vb a b w rfl hb1 hb2 hb0 hr hb
end Go.Proofs.YtijncfidjjfmiaaGreatDoor

namespace Go.Proofs.YtijncfidjjfmiaaGreatDoor
open Go.RowKit FloM

theorem small_own (w : World) (x : Nat) (A B C E : Int) (hA : A = (dg x 0 : Nat)) (hB : B = (dg x 1 : Nat)) (hC : C = (dg x 2 : Nat)) (hE : E = (dg x 3 : Nat)) :
    Own w.heap.size (w.alloc (.cells #[.int .u16 A, .int .u16 B, .int .u16 C, .int .u16 E] 81)) (.slice (some ⟨w.heap.size, 0, none⟩) 4 4) 4 x := by
  subst hA hB hC hE
  exact World.ownsRow_lit w #[.int .u16 (dg x 0 : Nat), .int .u16 (dg x 1 : Nat), .int .u16 (dg x 2 : Nat), .int .u16 (dg x 3 : Nat)] 4 (Nat.le_refl _) (by unfold maxLen; omega) rfl
theorem p64 : (65536 : Nat) ^ 4 = 2 ^ 64 := by decide
theorem small_dgs (x : Nat) (hx : x ≤ 18446744073709551615) : IntKind.u16.wrap (x : Int) = (dg x 0 : Nat) ∧ IntKind.u16.wrap ((x : Int) / 65536) = (dg x 1 : Nat) ∧ IntKind.u16.wrap ((x : Int) / 4294967296) = (dg x 2 : Nat) ∧ (x : Int) / 281474976710656 = (dg x 3 : Nat) := by
  have e2 : (65536 : Nat) ^ 2 = 4294967296 := by decide
  have e3 : (65536 : Nat) ^ 3 = 281474976710656 := by decide
  unfold dg
  rw [IntKind.wrap_u16, IntKind.wrap_u16, IntKind.wrap_u16, e2, e3, Nat.pow_zero, Nat.pow_one]
  omega

set_option maxRecDepth 100000 in
set_option maxHeartbeats 400000 in
theorem small_D (x : Nat) (w : World) (hx : x < 2 ^ 64) : Calls Tryz.prog 27 #[.int .u64 x] w (GivesD w x) := by
  have hx0 : x ≤ 18446744073709551615 := by omega
  have HX := Lib.hid hx
  have HS := Lib.hid (small_dgs x hx0)
  clear hx
  go_enter Tryz.func27, Tryz.ntmps27
  go_wp2_with fail
  refine (trim_D _ 4 x _ (Own.DS (small_own w x _ _ _ _ HS.out.1 HS.out.2.1 HS.out.2.2.1 HS.out.2.2.2) (by rw [p64]; exact HX.out))).mono ?_
  rintro e w' ⟨⟨v', rfl, hv', ho'⟩, rfl⟩
  have HV := Lib.hid hv'
  have HO := Lib.hid ho'
  clear hv' ho'
  go_wp2_with fail
  go_ret
  exact ⟨_, rfl, HV.out, Fr.of (v := .slice (some ⟨w.heap.size, 0, none⟩) 4 4) own_ge HO.out, (Below.refl _ _).alloc (Nat.le_refl _) _⟩

/-! shl. -/
theorem nd_pos {a : Nat} (h : a ≠ 0) : 0 < nd a := by have := @nd_eq_zero a; omega
theorem shl_eq (a n : Nat) : a * 2 ^ n = a * 2 ^ (n % 16) * 65536 ^ (n / 16) := by
  rw [pow_two, Nat.mul_assoc, ← Nat.pow_add]; congr 2; omega
theorem nd_shl (a n : Nat) : nd (a * 2 ^ n) ≤ nd a + n / 16 + 1 := by
  rw [nd_le]
  have h := lt_nd a
  calc a * 2 ^ n < 65536 ^ nd a * 2 ^ n := (Nat.mul_lt_mul_right (Nat.two_pow_pos _)).2 h
    _ ≤ 65536 ^ nd a * 2 ^ (16 * (n / 16 + 1)) := Nat.mul_le_mul_left _ (Nat.pow_le_pow_right (by decide) (by omega))
    _ = 65536 ^ (nd a + n / 16 + 1) := by rw [← pow_two, ← Nat.pow_add, Nat.add_assoc]
theorem pow_arg (k : Nat) (h : 2 ^ k < 65536) : (2 : Int) ^ k % 4294967296 = ((2 ^ k : Nat) : Int) := by
  have e : ((2 : Int) ^ k) = ((2 ^ k : Nat) : Int) := by rw [Int.natCast_pow]; rfl
  rw [e]
  generalize 2 ^ k = q at *
  omega
theorem pow15 (n : Nat) : 2 ^ (n % 16) < 65536 := by
  have : (2 : Nat) ^ (n % 16) ≤ 2 ^ 15 := Nat.pow_le_pow_right (by decide) (by omega)
  omega

set_option maxRecDepth 100000 in
set_option maxHeartbeats 400000 in
theorem shl_zero (va : Value) (n : Nat) (w : World) (ha : D w va 0) : Calls Tryz.prog 72 #[va, .int .i64 n] w (GivesD w 0) := by
  obtain ⟨A, c, rfl, _⟩ := ha
  rw [nd_zero]
  go_enter Tryz.func72, Tryz.ntmps72
  go_wp2_with fail
  go_ret
  refine ⟨_, rfl, ⟨none, 0, ?_, ?_, ?_, ?_, ?_⟩, ?_, Below.refl _ _⟩
  · rw [nd_zero]; rfl
  · rw [nd_zero]; exact Nat.le_refl _
  · unfold maxLen; omega
  · exact lt_nd 0
  · rw [nd_zero]; exact Reads.none_
  · intro g hg; cases hg

set_option maxRecDepth 100000 in
set_option maxHeartbeats 1000000 in
theorem shl_pos (va : Value) (a n : Nat) (w : World) (h0 : a ≠ 0) (hb1 : nd a ≤ 50000) (hn : n ≤ 400000) (ha : D w va a) : Calls Tryz.prog 72 #[va, .int .i64 n] w (GivesD w (a * 2 ^ n)) := by
  obtain ⟨i0, hi0, hz0, hz1, hz2⟩ := info_parts info16
  have hp := nd_pos h0
  have HA := Lib.hid ha
  obtain ⟨A, c, rfl, _⟩ := ha
  have hm := pow15 n
  have HE := Lib.hid (shl_eq a n)
  have hnt := nd_times a (2 ^ (n % 16)) hm
  have HM := Lib.hid hm
  clear h0 hm
  have hl0 : ((nd a : Int) == 0) = false := by rw [beq_eq_false_iff_ne]; omega
  generalize hnd : nd a = m at *
  have HND := Lib.hid hnd
  clear hnd
  go_enter Tryz.func72, Tryz.ntmps72
  go_wp2_with (refine wpList_make_full _ rfl _ _ _ rfl w.heap.size 81 i0 (.int .u16 0) 1 und16 hi0 hz0 hz1 _ _ _ _ (n / 16) rfl rfl (by go_num) (by go_num) (by rw [hz2]; omega) (by unfold maxLen; omega) (Nat.le_refl _) ?_)
  intro w1 hown1 hgrow1
  rw [vals_made] at hown1
  have hbel1 : Below w.heap.size w w1 := (Below.refl _ _).grown hgrow1 (Nat.le_refl _) (fun k hk => by cases hk)
  have HOW := Lib.hid hown1
  have HB1 := Lib.hid hbel1
  have hs1 := hbel1.size
  have hgl : w.heap.size < w1.heap.size := (World.ownsRow.lt hown1 w.heap.size rfl).2
  clear hown1 hgrow1 hbel1
  go_wp2_with fail
  refine (times_I _ a (2 ^ (n % 16)) _ _ (by have := HND.out; omega) HM.out (HA.out.below HB1.out) (pow_arg _ HM.out)).mono ?_
  rintro e w2 ⟨v2, rfl, hv2, hf2, hbel2⟩
  have HB2 := Lib.hid hbel2
  have hs2 := hbel2.size
  have hown2 := World.ownsRow.kept HOW.out (only_of_below hbel2 none) (.inr (by simp [Value.ownBlock]))
  obtain ⟨A2, c2, rfl, _, _, hl2, hr2⟩ := hv2
  have HR2 := Lib.hid hr2
  have HL2 := Lib.hid hl2
  have HOW2 := Lib.hid hown2
  clear hf2 hbel2 hr2 hl2 hown2
  obtain ⟨M, hM⟩ : ∃ M, M = a * 2 ^ (n % 16) := ⟨_, rfl⟩
  rw [← hM] at HR2 HL2 hnt HE ⊢
  have hMb : nd M ≤ 50001 := by have := HND.out; omega
  clear hM hnt
  go_wp2_with (at_builtin; refine wpList_append_any _ rfl _ _ _ rfl w.heap.size 81 i0 _ 1 2 und16 hi0 hz0 hz1 hz2 rfl (by omega) _ (n / 16) _ rfl HOW2.out w2.heap.size A2 (nd M) c2 (vals (fd (nd M) M)) rfl HR2.out (vals_one _) (by unfold maxLen; omega) (by omega) (by omega) ?_)
  intro v3 w3 hown3 hgrow3 _
  rw [← vals_app, ← fd_shift] at hown3
  have hbel3 : Below w.heap.size w w3 := (HB1.out.trans (HB2.out.mono hs1)).grown hgrow3 (by omega) own_ge
  have HO3 := Lib.hid (show Own w.heap.size w3 v3 (n / 16 + nd M) (M * 65536 ^ (n / 16)) from hown3)
  have HB3 := Lib.hid hbel3
  have HLT := Lib.hid (show M * 65536 ^ (n / 16) < 65536 ^ (n / 16 + nd M) from by
    rw [Nat.pow_add, Nat.mul_comm]; exact (Nat.mul_lt_mul_left (pow_pos _)).2 HL2.out)
  clear hown3 hgrow3 hbel3
  go_wp2_with fail
  refine (trim_D v3 _ _ w3 (HO3.out.DS HLT.out)).mono ?_
  rintro e w' ⟨⟨v', rfl, hv', ho'⟩, rfl⟩
  have HV := Lib.hid hv'
  have HO := Lib.hid ho'
  clear hv' ho'
  go_wp2_with fail
  go_ret
  exact ⟨_, rfl, by rw [HE.out]; exact HV.out, Fr.of (Own.fr HO3.out) HO.out, HB3.out⟩

theorem shl_D (va : Value) (a n : Nat) (x : Int) (w : World) (hb1 : nd a ≤ 50000) (hn : n ≤ 400000) (hx : x = (n : Int)) (ha : D w va a) : Calls Tryz.prog 72 #[va, .int .i64 x] w (GivesD w (a * 2 ^ n)) := by
  subst hx
  by_cases h0 : a = 0
  · subst h0
    rw [Nat.zero_mul]
    exact shl_zero va n w ha
  · exact shl_pos va a n w h0 hb1 hn ha

/-! lenB. -/
set_option maxRecDepth 100000 in
set_option maxHeartbeats 1000000 in
theorem lenB_D (va : Value) (a : Nat) (w : World) (hb1 : nd a ≤ 100000) (ha : D w va a) : Calls Tryz.prog 71 #[va] w fun e w' => e = .returned (.int .i64 (bl a : Nat)) ∧ w = w' := by
  obtain ⟨A, c, rfl, _, _, _, hr⟩ := ha
  by_cases h0 : a = 0
  · subst h0
    rw [nd_zero, bl_zero]
    clear hr hb1
    go_enter Tryz.func71, Tryz.ntmps71
    go_wp2_with fail
    go_ret
    exact ⟨rfl, rfl⟩
  · have hp := nd_pos h0
    obtain ⟨ad, rfl, _, hcell⟩ := DS.at_ hr (show nd a - 1 < nd a by omega)
    have HT := Lib.hid (bl_top h0)
    have hba := Lib.hid (show bl a ≤ 1600000 from Nat.le_trans ((bl_le a (16 * nd a)).2 (by rw [← pow_two]; exact lt_nd a)) (by omega))
    have hx := dg_lt a (nd a - 1)
    have hl0 : ((nd a : Int) == 0) = false := by rw [beq_eq_false_iff_ne]; omega
    generalize dg a (nd a - 1) = x at *
    generalize nd a = m at *
    clear hr h0
    go_enter Tryz.func71, Tryz.ntmps71
    go_wp2
    go_loop [3, 4] (fun n t => ∃ (y k : Nat), y < 65536 ∧ k + bl y = bl a ∧ k ≤ 3000000 ∧ n = .int .i64 k ∧ t = .int .u16 y) (fun _ t => (intOf t).toNat)
    case atStart => exact ⟨x, 16 * (m - 1), hx, HT.out.symm, by omega, by go_num, rfl⟩
    case round =>
      obtain ⟨y, k, hy, hk, hk2, rfl, rfl⟩ := hrel
      have hby : bl y ≤ 16 := (bl_le y 16).2 hy
      have HK := Lib.hid hk
      by_cases hy0 : 0 < y
      · have HH := Lib.hid (bl_half (N := y) (by omega))
        have hkk : k ≤ 2999999 := by have := HH.out; have := hba.out; omega
        clear hk
        go_wp2
        go_round
        case rel => exact ⟨y / 2, k + 1, by omega, by have := HH.out; have := HK.out; omega, by omega, by go_num, by go_num⟩
        case measure => simp [intOf]; omega
      · have e : y = 0 := by omega
        subst e
        rw [bl_zero, Nat.add_zero] at HK
        clear hk hby hy0
        go_wp2
        go_ret
        exact ⟨ret_int (by rw [HK.out]), rfl⟩

/-! value. -/
theorem or16 (x d : Nat) (hd : d < 65536) : x * 65536 ||| d = x * 65536 + d := by
  have := Nat.shiftLeft_add_eq_or_of_lt (i := 16) (b := d) (by simpa using hd) x
  rw [Nat.shiftLeft_eq] at this
  exact this.symm
theorem ofInt_u64 (a : Nat) (ha : a < 18446744073709551616) : (BitVec.ofInt 64 (a : Int)).toNat = a := by
  rw [BitVec.ofInt_natCast, BitVec.toNat_ofNat]; exact Nat.mod_eq_of_lt (by omega)
theorem u64_or_nat (a b : Nat) (ha : a < 18446744073709551616) (hb : b < 18446744073709551616) : bits .or .u64 (a : Int) (b : Int) = ((a ||| b : Nat) : Int) := by
  have hx : a ||| b < 2 ^ 64 := Nat.or_lt_two_pow (by omega) (by omega)
  show IntKind.u64.wrap ((BitVec.ofInt 64 (a : Int) ||| BitVec.ofInt 64 (b : Int)).toNat : Int) = _
  rw [BitVec.toNat_or, ofInt_u64 a ha, ofInt_u64 b hb, IntKind.wrap_u64]
  omega
theorem u64_and_nat (a b : Nat) (ha : a < 18446744073709551616) (hb : b < 18446744073709551616) : bits .and .u64 (a : Int) (b : Int) = ((a &&& b : Nat) : Int) := by
  have hx : a &&& b < 2 ^ 64 := Nat.and_lt_two_pow _ (by omega)
  show IntKind.u64.wrap ((BitVec.ofInt 64 (a : Int) &&& BitVec.ofInt 64 (b : Int)).toNat : Int) = _
  rw [BitVec.toNat_and, ofInt_u64 a ha, ofInt_u64 b hb, IntKind.wrap_u64]
  omega
theorem or16_int (y d z : Nat) (hy : y ≤ 281474976710655) (hd : d < 65536) (hz : z = 65536 * y + d) : bits .or .u64 ((y : Int) * 65536) (d : Int) = (z : Int) := by
  have := u64_or_nat (y * 65536) d (by omega) (by omega)
  rw [or16 y d hd] at this
  rw [Int.natCast_mul] at this
  rw [hz, Nat.mul_comm 65536]
  exact this
set_option maxRecDepth 100000 in
set_option maxHeartbeats 1000000 in
theorem value_D (va : Value) (a : Nat) (w : World) (hb : a < 2 ^ 64) (ha : D w va a) : Calls Tryz.prog 57 #[va] w fun e w' => e = .returned (.int .u64 (a : Nat)) ∧ w = w' := by
  obtain ⟨A, c, rfl, _, _, _, hr⟩ := ha
  have hb1 : nd a ≤ 4 := nd_bound hb
  have HL := Lib.hid (lt_nd a)
  have HR := Lib.hid hr
  have HB := Lib.hid hb
  clear hr hb
  generalize nd a = n at *
  go_enter Tryz.func57, Tryz.ntmps57
  go_wp2
  go_loop [3, 4] (fun x i => ∃ k : Nat, k ≤ n ∧ AtI k i ∧ x = .int .u64 (a / 65536 ^ k : Nat)) (fun _ i => (intOf i + 1).toNat)
  case atStart => exact ⟨n, Nat.le_refl _, AtI.start n, by rw [Nat.div_eq_of_lt HL.out]; rfl⟩
  case round =>
    obtain ⟨k, hk, hi, rfl⟩ := hrel
    rcases hi with ⟨rfl, rfl⟩ | ⟨j, rfl, rfl⟩
    · rw [Nat.pow_zero, Nat.div_one]
      go_wp2
      go_ret
      exact ⟨rfl, rfl⟩
    · obtain ⟨ad, rfl, _, hcell⟩ := DS.at_ HR.out (show j < n by omega)
      have HS := Lib.hid (div_succ a j)
      have hlt : a / 65536 ^ j < 2 ^ 64 := Nat.lt_of_le_of_lt (Nat.div_le_self _ _) HB.out
      have HLT := Lib.hid hlt
      have hx := dg_lt a j
      generalize dg a j = d at *
      have hy : a / 65536 ^ (j + 1) ≤ 281474976710655 := by have := HS.out; omega
      generalize a / 65536 ^ (j + 1) = y at *
      clear hlt
      go_wp2
      go_round
      case rel =>
        refine ⟨j, by omega, AtI.start j, ?_⟩
        rw [or16_int y d _ hy hx HS.out]
      case measure => simp [intOf]

/-! ten. -/
theorem nd_ten (k : Nat) : nd (10 ^ k) ≤ k + 1 := by
  rw [nd_le]
  calc 10 ^ k ≤ 65536 ^ k := Nat.pow_le_pow_left (by decide) k
    _ < 65536 ^ (k + 1) := Nat.pow_lt_pow_right (by decide) (by omega)

theorem one_D (w : World) : D (w.alloc (.cells #[.int .u16 1] 81)) (.slice (some ⟨w.heap.size, 0, none⟩) 1 1) 1 := by
  have h : Own w.heap.size (w.alloc (.cells #[.int .u16 1] 81)) (.slice (some ⟨w.heap.size, 0, none⟩) 1 1) 1 1 :=
    World.ownsRow_lit w #[.int .u16 1] 1 (Nat.le_refl _) (by unfold maxLen; omega) rfl
  have e : nd 1 = 1 := by decide
  unfold D
  rw [e]
  exact Own.DS h (by decide)

set_option maxRecDepth 100000 in
set_option maxHeartbeats 1000000 in
theorem ten_D (n : Nat) (w : World) (hn : n ≤ 50000) : Calls Tryz.prog 70 #[.int .i64 n] w (GivesD w (10 ^ n)) := by
  go_enter Tryz.func70, Tryz.ntmps70
  go_wp2
  go_loopw [3, 4] (fun v i wr => ∃ k : Nat, k ≤ n ∧ i = .int .i64 k ∧ D wr v (10 ^ k) ∧ Fr w.heap.size v ∧ Below w.heap.size w wr) (fun _ i _ => n - (intOf i).toNat)
  case atStart => exact ⟨0, Nat.zero_le _, rfl, one_D w, own_ge, (Below.refl _ _).alloc (Nat.le_refl _) _⟩
  case round =>
    obtain ⟨k, hk, rfl, hv, hf, hbel⟩ := hrel
    have hsz := hbel.size
    have HV := Lib.hid hv
    have HF := Lib.hid hf
    have HB := Lib.hid hbel
    have hnt := nd_ten k
    clear hv hf hbel
    by_cases hlt : k < n
    · go_wp2_with fail
      refine (times_D _ (10 ^ k) 10 _ (by omega) (by decide) HV.out).mono ?_
      rintro e w2 ⟨v2, rfl, hv2, hf2, hbel2⟩
      rw [← Nat.pow_succ] at hv2
      have HV2 := Lib.hid hv2
      have HF2 := Lib.hid hf2
      have HB2 := Lib.hid hbel2
      clear hv2 hf2 hbel2 hnt
      go_wp2_with fail
      go_roundw
      case rel => exact ⟨k + 1, by omega, by go_num, HV2.out, fun g hg => Nat.le_trans hsz (HF2.out g hg), HB.out.trans (HB2.out.mono hsz)⟩
      case measure => simp [intOf]; omega
    · have e : k = n := by omega
      subst e
      go_wp2_with fail
      go_ret
      exact ⟨_, rfl, HV.out, HF.out, HB.out⟩
end Go.Proofs.YtijncfidjjfmiaaGreatDoor

namespace FloM
/-- Digits of T below place p, of N from there on. -/
def mx (L p T N : Nat) : List Nat := (List.range L).map fun j => if j < p then dg T j else dg N j
theorem mx_len (L p T N : Nat) : (mx L p T N).length = L := by unfold mx; simp
theorem mx_get {L p T N j : Nat} (h : j < L) : (mx L p T N)[j]? = some (if j < p then dg T j else dg N j) := by unfold mx; simp [h]
theorem mx_start (L p N : Nat) : mx L p N N = fd L N := by
  unfold mx fd; congr 1; funext j; simp
theorem mx_set {L p T T' N : Nat} (hp : p < L) (h : ∀ j, j < p → dg T' j = dg T j) : (mx L p T N).set p (dg T' p) = mx L (p + 1) T' N := by
  apply List.ext_getElem?
  intro i
  rw [List.getElem?_set]
  rcases Nat.lt_or_ge i L with hi | hi
  · by_cases e : p = i
    · subst e
      rw [if_pos rfl, mx_len, if_pos hi, mx_get hi, if_pos (by omega)]
    · rw [if_neg e, mx_get hi, mx_get hi]
      by_cases h2 : i < p
      · rw [if_pos h2, if_pos (by omega), h i h2]
      · rw [if_neg h2, if_neg (by omega)]
  · rw [if_neg (by omega), List.getElem?_eq_none (by rw [mx_len]; exact hi), List.getElem?_eq_none (by rw [mx_len]; exact hi)]
theorem mx_end {L p T N : Nat} (hT : T < 65536 ^ p) (hN : N < 65536 ^ p) : mx L p T N = fd L T := by
  apply List.ext_getElem?
  intro i
  rcases Nat.lt_or_ge i L with hi | hi
  · rw [mx_get hi, fd_get hi]
    by_cases h : i < p
    · rw [if_pos h]
    · rw [if_neg h, dg_zero (Nat.lt_of_lt_of_le hN (pow_le (by omega))), dg_zero (Nat.lt_of_lt_of_le hT (pow_le (by omega)))]
  · rw [List.getElem?_eq_none (by rw [mx_len]; exact hi), List.getElem?_eq_none (by rw [fd_len]; exact hi)]

/-- A digit's product added at place p. -/
theorem mul_step (T N p x y cy : Nat) (h : T / 65536 ^ p = N / 65536 ^ p + cy) :
    (∀ j, j < p → dg (T + 65536 ^ p * (x * y)) j = dg T j) ∧ dg (T + 65536 ^ p * (x * y)) p = (cy + dg N p + x * y) % 65536 ∧
    (T + 65536 ^ p * (x * y)) / 65536 ^ (p + 1) = N / 65536 ^ (p + 1) + (cy + dg N p + x * y) / 65536 := by
  have hP := pow_pos p
  have e : (T + 65536 ^ p * (x * y)) / 65536 ^ p = 65536 * (N / 65536 ^ (p + 1)) + (cy + dg N p + x * y) := by
    rw [Nat.add_mul_div_left _ _ hP, h, div_succ N p]; omega
  refine ⟨fun j hj => ?_, ?_, ?_⟩
  · unfold dg
    obtain ⟨k, rfl⟩ : ∃ k, p = j + 1 + k := ⟨p - j - 1, by omega⟩
    have : 65536 ^ (j + 1 + k) * (x * y) = 65536 ^ j * (65536 * (65536 ^ k * (x * y))) := by
      rw [Nat.pow_add, Nat.pow_succ]; simp only [Nat.mul_assoc]
    rw [this, Nat.add_mul_div_left _ _ (pow_pos j), Nat.add_mul_mod_self_left]
  · unfold dg at e ⊢
    rw [e]; omega
  · have e3 : (T + 65536 ^ p * (x * y)) / 65536 ^ (p + 1) = (T + 65536 ^ p * (x * y)) / 65536 ^ p / 65536 := by rw [Nat.div_div_eq_div_mul, ← Nat.pow_succ]
    rw [e3, e]; omega

/-- a's lowest i + 1 digits times b, out of i's. -/
theorem mul_row (a b i : Nat) : a % 65536 ^ (i + 1) * b = a % 65536 ^ i * b + 65536 ^ i * (dg a i * b) := by
  rw [mod_succ, Nat.add_mul, Nat.mul_assoc]
theorem mul_col (b i m x : Nat) : 65536 ^ i * (x * (b % 65536 ^ (m + 1))) = 65536 ^ i * (x * (b % 65536 ^ m)) + 65536 ^ (i + m) * (x * dg b m) := by
  rw [mod_succ, Nat.mul_add, Nat.mul_add, Nat.pow_add]
  congr 1
  generalize 65536 ^ i = p
  generalize 65536 ^ m = q
  simp only [Nat.mul_comm, Nat.mul_left_comm]
theorem mul_low (a b i n : Nat) (h : b < 65536 ^ n) : a % 65536 ^ i * b < 65536 ^ (i + n) := by
  rw [Nat.pow_add]
  have h1 := Nat.mod_lt a (pow_pos i)
  rcases Nat.eq_zero_or_pos b with rfl | hb
  · rw [Nat.mul_zero]; exact Nat.mul_pos (pow_pos i) (pow_pos n)
  · exact Nat.lt_of_lt_of_le ((Nat.mul_lt_mul_right hb).2 h1) (Nat.mul_le_mul_left _ (Nat.le_of_lt h))
end FloM
namespace Go.Proofs.YtijncfidjjfmiaaGreatDoor
open Go.RowKit FloM

theorem prod16 (x y : Nat) (hx : x < 65536) (hy : y < 65536) : 0 ≤ (x : Int) * (y : Int) ∧ (x : Int) * (y : Int) ≤ 4294836225 ∧ ((x * y : Nat) : Int) = (x : Int) * (y : Int) := by
  have : x * y ≤ 65535 * 65535 := Nat.mul_le_mul (by omega) (by omega)
  have h2 : ((x * y : Nat) : Int) ≤ 4294836225 := by omega
  rw [Int.natCast_mul] at h2
  exact ⟨Int.mul_nonneg (by omega) (by omega), h2, Int.natCast_mul _ _⟩

set_option maxRecDepth 100000 in
set_option maxHeartbeats 2000000 in
theorem mul_any' (A B : Option Addr) (c d la lb a b : Nat) (w : World) (hla : la = nd a) (hlb : lb = nd b) (hb1 : la ≤ 50000) (hb2 : lb ≤ 50000) (hr : Reads w w.heap.size 1 A la (vals (fd la a))) (hs : Reads w w.heap.size 1 B lb (vals (fd lb b))) :
    Calls Tryz.prog 69 #[.slice A la c, .slice B lb d] w (GivesD w (a * b)) := by
  obtain ⟨i0, hi0, hz0, hz1, hz2⟩ := info_parts info16
  have hR := Lib.hid hr
  have hS := Lib.hid hs
  have HA := Lib.hid (show a < 65536 ^ la by rw [hla]; exact lt_nd a)
  have HB := Lib.hid (show b < 65536 ^ lb by rw [hlb]; exact lt_nd b)
  clear hr hs hla hlb
  go_enter Tryz.func69, Tryz.ntmps69
  go_wp2_with (refine wpList_make_full _ rfl _ _ _ rfl w.heap.size 81 i0 (.int .u16 0) 1 und16 hi0 hz0 hz1 _ _ _ _ (la + lb) rfl rfl (by go_num) (by go_num) (by rw [hz2]; omega) (by unfold maxLen; omega) (Nat.le_refl _) ?_)
  intro w1 hown1 hgrow1
  have e0 : List.replicate (la + lb) 0 = fd (la + lb) (a % 65536 ^ 0 * b) := by
    rw [Nat.pow_zero, Nat.mod_one, Nat.zero_mul]
    apply List.ext_getElem?
    intro i
    rcases Nat.lt_or_ge i (la + lb) with h | h
    · rw [fd_get h, List.getElem?_replicate, if_pos h, dg_zero (pow_pos i)]
    · rw [List.getElem?_eq_none (by simpa using h), List.getElem?_eq_none (by rw [fd_len]; exact h)]
  rw [vals_made, e0] at hown1
  have hbel1 : Below w.heap.size w w1 := (Below.refl _ _).grown hgrow1 (Nat.le_refl _) (fun k hk => by cases hk)
  obtain ⟨g, hg⟩ : ∃ g, g = w.heap.size := ⟨_, rfl⟩
  rw [← hg] at hown1 ⊢
  have HO1 := Lib.hid hown1
  have HBE1 := Lib.hid hbel1
  have hg1 : g ≤ w.heap.size := by omega
  have hg2 : w.heap.size ≤ g := by omega
  clear hown1 hgrow1 hbel1 hg e0
  go_wp2
  go_loopw [6] (fun i wr => ∃ k : Nat, k ≤ la ∧ i = .int .i64 k ∧ wr.ownsRow g 81 1 (.slice (some ⟨g, 0, none⟩) (la + lb) (la + lb)) (la + lb) (vals (fd (la + lb) (a % 65536 ^ k * b))) ∧ Below w.heap.size w wr) (fun i _ => la - (intOf i).toNat)
  case atStart => exact ⟨0, Nat.zero_le _, rfl, HO1.out, HBE1.out⟩
  case round =>
    obtain ⟨i, hi, rfl, hown, hbel⟩ := hrel
    have hsz := hbel.size
    obtain ⟨wo, rfl⟩ : ∃ wo : World, wo = wr := ⟨_, rfl⟩
    by_cases hlt : i < la
    · obtain ⟨ad, rfl, ha, hcell0⟩ := DS.at_ hR.out hlt
      have HCA := Lib.hid hcell0
      have hx := dg_lt a i
      obtain ⟨N, hN⟩ : ∃ N, N = a % 65536 ^ i * b := ⟨_, rfl⟩
      rw [← hN] at hown
      have HROW := Lib.hid (mul_row a b i)
      rw [← hN] at HROW
      have HLOW := Lib.hid (show N < 65536 ^ (i + lb) by rw [hN]; exact mul_low a b i lb HB.out)
      have HLOW2 := Lib.hid (mul_low a b (i + 1) lb HB.out)
      have HHA := Lib.hid ha
      clear hN hcell0 ha
      generalize dg a i = x at *
      have HOWN := Lib.hid hown
      have HBEL := Lib.hid hbel
      clear hown hbel
      go_wp2
      go_loopw [7, 8] (fun cy m wr => ∃ k cn T : Nat, k ≤ lb ∧ cn ≤ 65535 ∧ cy = .int .u32 cn ∧ m = .int .i64 k ∧ T = N + 65536 ^ i * (x * (b % 65536 ^ k)) ∧ T / 65536 ^ (i + k) = N / 65536 ^ (i + k) + cn ∧ wr.ownsRow g 81 1 (.slice (some ⟨g, 0, none⟩) (la + lb) (la + lb)) (la + lb) (vals (mx (la + lb) (i + k) T N)) ∧ Below w.heap.size w wr) (fun _ m _ => lb - (intOf m).toNat)
      case atStart =>
        refine ⟨0, 0, N, Nat.zero_le _, by omega, rfl, rfl, ?_, rfl, ?_, HBEL.out⟩
        · rw [Nat.pow_zero, Nat.mod_one, Nat.mul_zero, Nat.mul_zero, Nat.add_zero]
        · rw [mx_start]; exact HOWN.out
      case round =>
        obtain ⟨k, cn, T, hk, hcn, rfl, rfl, hT, hdiv, hown, hbel⟩ := hrel
        by_cases hlk : k < lb
        · obtain ⟨bd, rfl, hb, hcell2⟩ := DS.at_ hS.out hlk
          rw [← hbel.cell (by rw [block_of_add]; exact hb)] at hcell2
          have hcell1 := HCA.out
          rw [← hbel.cell (by rw [block_of_add]; exact HHA.out)] at hcell1
          have hcell3 : wr.cell? ⟨g, i + k, none⟩ = some (.int .u16 (dg N (i + k) : Nat)) := by
            rw [World.ownsRow.cellAt hown (i + k) (by omega), vals, List.getElem?_map, mx_get (by omega), if_neg (by omega)]; rfl
          have hy := dg_lt b k
          have hn := dg_lt N (i + k)
          have HCOL := Lib.hid (mul_col b i k x)
          generalize dg b k = y at *
          have HST := Lib.hid (mul_step T N (i + k) x y cn hdiv)
          generalize dg N (i + k) = z at *
          obtain ⟨p0, p1, p2⟩ := prod16 x y hx hy
          have HP2 := Lib.hid p2
          have HT := Lib.hid hT
          have HOW := Lib.hid hown
          have HBE := Lib.hid hbel
          clear hT hdiv hown hbel p2
          go_wp2
          go_quiet (fail)
          have hfz : wr.frozen? ⟨g, i + k, none⟩ = false := World.ownsRow.frozenAt HOW.out (i + k)
          have HSTO := Lib.hid (fun u => (World.ownsRow.stored HOW.out (i + k) u).1)
          go_wp2
          go_roundw
          case rel =>
            have hst := HST.out
            have hp2 := HP2.out
            refine ⟨k + 1, (cn + z + x * y) / 65536, T + 65536 ^ (i + k) * (x * y), by omega, ?_, by go_num, by go_num, ?_, hst.2.2, ?_, ?_⟩
            · have : cn + z + x * y ≤ 4294967295 := by omega
              omega
            · rw [HT.out, Nat.add_assoc, ← HCOL.out]
            · have h1 := HSTO.out (.int .u16 (dg (T + 65536 ^ (i + k) * (x * y)) (i + k) : Nat))
              rw [vals_set, mx_set (by omega) hst.1] at h1
              rw [hst.2.1] at h1
              have e1 : (((cn + z + x * y) % 65536 : Nat) : Int) = IntKind.u16.wrap (cn + z + x * y) := by rw [IntKind.wrap_u16]; omega
              rw [e1] at h1
              exact h1
            · exact below_drewN (HBE.out.setCell (by show w.heap.size ≤ g; omega) _) _
          case measure => simp [intOf]; omega
        · have e : k = lb := by omega
          subst e
          rw [Nat.mod_eq_of_lt HB.out, ← HROW.out] at hT
          rw [Nat.div_eq_of_lt HLOW.out, Nat.zero_add] at hdiv
          have hp : i + k < la + k := by omega
          have hTl : T < 65536 ^ (i + k + 1) := by
            rw [Nat.pow_succ]
            have h1 := Nat.div_add_mod T (65536 ^ (i + k))
            have h2 := Nat.mod_lt T (pow_pos (i + k))
            rw [hdiv] at h1
            have h3 : 65536 ^ (i + k) * cn ≤ 65536 ^ (i + k) * 65535 := Nat.mul_le_mul_left _ hcn
            omega
          have hdT : dg T (i + k) = cn := by unfold dg; rw [hdiv]; omega
          have hcell3 : wr.cell? ⟨g, i + k, none⟩ = some (.int .u16 0) := by
            rw [World.ownsRow.cellAt hown (i + k) (by omega), vals, List.getElem?_map, mx_get (by omega), if_neg (by omega), dg_zero HLOW.out]; rfl
          have hfz : wr.frozen? ⟨g, i + k, none⟩ = false := World.ownsRow.frozenAt hown (i + k)
          have h1 := (World.ownsRow.stored hown (i + k) (.int .u16 (dg T (i + k) : Nat))).1
          rw [vals_set, mx_set (T' := T) (by omega) (fun _ _ => rfl), mx_end hTl (Nat.lt_of_lt_of_le HLOW.out (pow_le (by omega))), hdT, hT] at h1
          have hb5 : Below w.heap.size w (wr.setCell ⟨g, i + k, none⟩ (.int .u16 (cn : Int))) := hbel.setCell (by show w.heap.size ≤ g; omega) _
          have H1 := Lib.hid h1
          have HB5 := Lib.hid hb5
          clear hT hdiv hown hbel hTl hdT h1 hb5
          go_wp2
          go_roundw
          case rel => exact ⟨i + 1, by omega, by go_num, H1.out, HB5.out⟩
          case measure => simp [intOf]; omega
    · have e : i = la := by omega
      subst e
      have hlt2 : a * b < 65536 ^ (i + lb) := by
        have := mul_low a b i lb HB.out
        rwa [Nat.mod_eq_of_lt HA.out] at this
      rw [Nat.mod_eq_of_lt HA.out] at hown
      have hT := Lib.hid (trim_D _ (i + lb) (a * b) wo (Own.DS hown hlt2))
      have HF := Lib.hid (show Fr w.heap.size (.slice (some ⟨g, 0, none⟩) (i + lb) (i + lb)) from fun x hx => by have := own_ge x hx; omega)
      have HBE := Lib.hid hbel
      clear hown hlt2 hbel
      go_wp2_with (go_at_call 58; refine hT.out.mono ?_; rintro e w' ⟨⟨v', rfl, hv', ho'⟩, rfl⟩; have HV := Lib.hid hv'; have HO := Lib.hid ho'; clear hv' ho')
      go_ret
      exact ⟨_, rfl, HV.out, Fr.of HF.out HO.out, HBE.out⟩

theorem mul_D (va vb : Value) (a b : Nat) (w : World) (hb1 : nd a ≤ 50000) (hb2 : nd b ≤ 50000) (ha : D w va a) (hb : D w vb b) :
    Calls Tryz.prog 69 #[va, vb] w (GivesD w (a * b)) := by
  obtain ⟨A, c, rfl, _, _, _, hr⟩ := ha
  obtain ⟨B, d, rfl, _, _, _, hs⟩ := hb
  exact mul_any' A B c d _ _ a b w rfl rfl hb1 hb2 hr hs
end Go.Proofs.YtijncfidjjfmiaaGreatDoor
