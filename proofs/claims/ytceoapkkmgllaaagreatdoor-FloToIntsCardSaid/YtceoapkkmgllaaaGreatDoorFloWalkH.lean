/- Walks of the library's shortest decimal: the digits written into a buffer. -/
import Derived.Test.YtceoapkkmgllaaaGreatDoorFloWalkF
import Derived.Lib.ItoaMem
import Derived.Lib.ItoaLen
namespace Go.Proofs.YtceoapkkmgllaaaGreatDoor
open Go.RowKit FloM Go.Lib

/-- Without the noughts at the end. -/
def stripZ (l : List UInt8) : List UInt8 := (l.reverse.dropWhile (· == 48)).reverse
theorem stripZ_nil : stripZ [] = [] := rfl
theorem stripZ_snoc (l : List UInt8) (c : UInt8) : stripZ (l ++ [c]) = if c = 48 then stripZ l else l ++ [c] := by
  unfold stripZ
  rw [List.reverse_append, List.reverse_singleton, List.singleton_append, List.dropWhile_cons]
  by_cases h : c = 48
  · rw [if_pos (by simp [h]), if_pos h]
  · rw [if_neg (by simp [h]), if_neg h, List.reverse_cons, List.reverse_reverse]

theorem take_succ_snoc (l : List UInt8) (k : Nat) (h : k < l.length) : l.take (k + 1) = l.take k ++ [l[k]] := by
  rw [List.take_succ_eq_append_getElem h]

abbrev encB : UInt8 → Value := fun b => Value.int .u8 (b.toNat : Int)

theorem putRow_grown (enc : UInt8 → Value) (w : World) (blk off : Nat) (d : Array UInt8) : w.grownBy (Sort.putRow enc w blk off d) (some blk) :=
  ⟨rfl, rfl, rfl, by rw [Sort.size_putRow]; exact Nat.le_refl _, fun i _ hne => by
    have hn : blk ≠ i := fun h => hne (by rw [h])
    show (w.heap.modify blk _)[i]? = _
    rw [Array.getElem?_modify, if_neg hn]⟩

theorem fb10_any (u : Nat) (hu : u < 18446744073709551616) (B cap : Nat) (w : World) (t : TypeId) (cs : Array Value) (hb : Blk w B t cs) (hz : ∀ j, j < nDigits u → cs[j]? = some (.int .u8 0)) :
    Calls Tryz.prog 199 #[.slice (some ⟨B, 0, none⟩) (nDigits u) cap, .int .u64 u] w fun e w' =>
      e = .returned (.tuple #[]) ∧ w.grownBy w' (some B) ∧ ∃ cs', Blk w' B t cs' ∧ ∀ j (hj : j < (decDigits u).length), cs'[j]? = some (.int .u8 ((decDigits u)[j].toNat : Int)) := by
  have hsz : (Array.replicate (nDigits u) (0 : UInt8)).size = nDigits u := by simp
  have hH : Sort.Holds encB w B 0 (Array.replicate (nDigits u) (0 : UInt8)) := by
    intro j hj
    rw [hsz] at hj
    refine ⟨?_, ?_⟩
    · rw [Nat.zero_add, hb.cell j, hz j hj]
      simp [encB, hj]
    · rw [Nat.zero_add]; exact hb.frozen j
  have hd : u < 10 ^ (Array.replicate (nDigits u) (0 : UInt8)).size := by rw [hsz]; exact lt_pow_nDigits u
  have hn20 : nDigits u ≤ 20 := by exact nDigits_le20 u hu
  have := Tryz.internal_strconv_formatBase10 B 0 cap u (Array.replicate (nDigits u) (0 : UInt8)) w hH hd hu (by rw [hsz]; omega)
  rw [hsz] at this
  refine this.mono ?_
  rintro e w' ⟨rfl, n, v', dk, rfl, hF⟩
  have hblk : Blk ((Sort.putRow encB w B 0 dk).drewN n) B t (Sort.putCells encB 0 dk cs) := by
    show (w.heap.modify B _)[B]? = _
    unfold Blk at hb
    rw [Array.getElem?_modify, if_pos rfl, hb]
    rfl
  refine ⟨rfl, only_drewN (putRow_grown _ w B 0 dk) n, _, hblk, fun j hj => ?_⟩
  have hr := row_is_numeral hF j hj
  have hp := Sort.holds_putRow encB w B 0 _ dk hH (by rw [hF.size, hsz])
  have hl := decDigits_length u
  have := (hp j (by rw [hF.size]; omega)).1
  rw [Nat.zero_add] at this
  rw [hr, ← hblk.cell j]
  exact this

theorem dec_getD (u j : Nat) (hj : j < nDigits u) : ∃ c : UInt8, (decDigits u)[j]? = some c ∧ 48 ≤ c.toNat ∧ c.toNat ≤ 57 := by
  rw [decDigits_eq]
  refine ⟨dg u (nDigits u - 1 - j), by simp [hj], ?_⟩
  unfold dg
  have : u / 10 ^ (nDigits u - 1 - j) % 10 < 10 := Nat.mod_lt _ (by decide)
  rw [UInt8.toNat_ofNat']
  omega

set_option maxRecDepth 100000 in
set_option maxHeartbeats 800000 in
theorem setDigits_any (u : Nat) (hu : u < 18446744073709551616) (p : Int) (hp : -100000 ≤ p ∧ p ≤ 100000) (B : Nat) (w : World) (t : TypeId) (cs : Array Value) (hb : Blk w B t cs) (hz : ∀ j, j < 32 → cs[j]? = some (.int .u8 0)) :
    Calls Tryz.prog 164 #[.slice (some ⟨B, 0, none⟩) 32 32, .int .u64 u, .int .i64 p, .int .i64 (nDigits u)] w fun e w' =>
      e = .returned (.tuple #[.int .i64 ((nDigits u : Nat) + p), .int .i64 ((stripZ (decDigits u)).length : Nat)]) ∧ w.grownBy w' (some B) ∧ ∃ cs', Blk w' B t cs' ∧ ∀ j (hj : j < (decDigits u).length), cs'[j]? = some (.int .u8 ((decDigits u)[j].toNat : Int)) := by
  have hn20 := nDigits_le20 u hu
  have hpos := nDigits_pos u
  have hl := decDigits_length u
  have hc := Lib.hid (fb10_any u hu B 32 w t cs hb (fun j hj => hz j (by omega)))
  generalize decDigits u = L at *
  generalize nDigits u = nd at *
  have HL := Lib.hid hl
  clear hl hb hz
  go_enter Tryz.func164, Tryz.ntmps164
  go_wp2_with fail
  refine hc.out.mono ?_
  rintro e w1 ⟨rfl, hg, cs', hblk', hcell⟩
  have HG := Lib.hid hg
  have HC := Lib.hid hcell
  have HK := Lib.hid hblk'
  clear hg hcell hblk'
  go_wp2
  go_loop [3] (fun v => ∃ k : Nat, k ≤ nd ∧ v = .int .i64 k ∧ Hid (stripZ (L.take k) = stripZ L)) (fun v => (RowKit.intOf v).toNat)
  case atStart => exact ⟨nd, Nat.le_refl _, rfl, by rw [List.take_of_length_le (by rw [HL.out]; exact Nat.le_refl _)]; rfl⟩
  case round =>
    obtain ⟨k, hk, rfl, hr⟩ := hrel
    rcases Nat.eq_zero_or_pos k with h0 | h0
    · subst h0
      have hfin : Hid ((stripZ L).length = 0) := by
        have := hr.out; rw [List.take_zero, stripZ_nil] at this; rw [← this]; rfl
      go_wp2
      go_ret2
      rw [hfin.out]
      exact ⟨rfl, HG.out, cs', HK.out, HC.out⟩
    · obtain ⟨k', rfl⟩ : ∃ k', k = k' + 1 := ⟨k - 1, by omega⟩
      have hlt : k' < L.length := by rw [HL.out]; omega
      have hcell : w1.cell? ⟨B, k', none⟩ = some (.int .u8 (L[k'].toNat : Int)) := (HK.out.cell k').trans (HC.out k' hlt)
      have hsn := take_succ_snoc L k' hlt
      have hst := stripZ_snoc (L.take k') L[k']
      rw [← hsn] at hst
      clear hsn
      have hcb : ((L[k'].toNat : Int) == 48) = decide (L[k'] = 48) := by
        have h48 : (L[k'] = 48) ↔ L[k'].toNat = 48 := by rw [← UInt8.toNat_inj]; rfl
        rw [Bool.eq_iff_iff, beq_iff_eq, decide_eq_true_eq, h48]
        omega
      generalize L[k'] = c at *
      by_cases hc48 : c = 48
      · rw [if_pos hc48] at hst
        have ht : ((c.toNat : Int) == 48) = true := by rw [hcb]; exact decide_eq_true hc48
        have hst' : Hid (stripZ (L.take k') = stripZ L) := by rw [← hst]; exact hr.out
        clear hst hcb hc48 hr
        go_wp2
        go_round
        case rel => exact ⟨k', by omega, by go_num, hst'⟩
        case measure => simp [RowKit.intOf]
      · rw [if_neg hc48] at hst
        have ht : ((c.toNat : Int) == 48) = false := by rw [hcb]; exact decide_eq_false hc48
        have hfin : Hid ((stripZ L).length = k' + 1) := by
          have h2 := hr.out
          have h3 := HL.out
          show (stripZ L).length = k' + 1
          rw [← h2, hst, List.length_take]
          omega
        clear hst hcb hc48 hr
        go_wp2
        go_ret2
        rw [hfin.out]
        exact ⟨rfl, HG.out, cs', HK.out, HC.out⟩

end Go.Proofs.YtceoapkkmgllaaaGreatDoor
