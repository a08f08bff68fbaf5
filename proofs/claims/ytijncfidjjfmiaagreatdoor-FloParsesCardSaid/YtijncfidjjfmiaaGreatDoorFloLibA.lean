/- Walks of the library's shortest decimal: shortFloat. Walks of the library's shortest decimal: the digits written into a buffer. A buffer of bytes that the call itself made, and what is appended to it. -/
import Derived.Test.YtijncfidjjfmiaaGreatDoorFloWalkE
import Derived.Test.YtijncfidjjfmiaaGreatDoorFloMem
import Derived.Lib.ItoaMem
import Derived.Lib.ItoaLen
namespace Go.Proofs.YtijncfidjjfmiaaGreatDoor
open Go.RowKit FloM

theorem pre_world (w : World) (b : Nat) (t : TypeId) (v0 v1 v2 x0 x1 x2 : Value) (hb : Blk w b t #[v0, v1, v2]) :
    Blk (((w.setCell ⟨b, 0, none⟩ x0).setCell ⟨b, 1, none⟩ x1).setCell ⟨b, 2, none⟩ x2) b t #[x0, x1, x2] ∧
    w.grownBy (((w.setCell ⟨b, 0, none⟩ x0).setCell ⟨b, 1, none⟩ x1).setCell ⟨b, 2, none⟩ x2) (some b) := by
  have g1 : w.grownBy (w.setCell ⟨b, 0, none⟩ x0) (some b) := only_setCell (p := ⟨b, 0, none⟩) (World.grownBy.refl w _) (.inl rfl) x0
  have g2 := only_setCell (p := ⟨b, 1, none⟩) g1 (.inl rfl) x1
  have g3 := only_setCell (p := ⟨b, 2, none⟩) g2 (.inl rfl) x2
  refine ⟨?_, g3⟩
  have h := ((hb.set_ 0 x0).set_ 1 x1).set_ 2 x2
  have e : ((#[v0, v1, v2].setIfInBounds 0 x0).setIfInBounds 1 x1).setIfInBounds 2 x2 = #[x0, x1, x2] := by simp
  rw [e] at h
  exact h

set_option maxRecDepth 100000 in
set_option maxHeartbeats 400000 in
theorem pre_any (e p lp : Int) (b : Nat) (w : World) (v0 v1 v2 : Value) (hb : Blk w b 173 #[v0, v1, v2]) (i : Nat) (hp : p = (i : Int) - 348) (hi : i < 696) (hi1 lo1 : Nat) (s : Nat)
   (c1 : w.cell? ⟨8, i * 2, none⟩ = some (.int .u64 (hi1 : Int))) (c2 : w.cell? ⟨8, i * 2 + 1, none⟩ = some (.int .u64 (lo1 : Int)))
   (he : -100000 ≤ e ∧ e ≤ 100000) (hl : -100000 ≤ lp ∧ lp ≤ 100000) (hs : (s : Int) = -(e + lp + 3)) :
    Calls Tryz.prog 140 #[.pointer (some ⟨b, 0, none⟩), .int .i64 e, .int .i64 p, .int .i64 lp] w fun e w' => e = .returned (.tuple #[]) ∧ Blk w' b 173 #[.int .u64 (hi1 : Int), .int .u64 (lo1 : Int), .int .i64 (s : Int)] ∧ w.grownBy w' (some b) := by
  have k0 : w.cell? ⟨b, 0, none⟩ = some v0 := hb.cell 0
  have k1 : w.cell? ⟨b, 1, none⟩ = some v1 := hb.cell 1
  have k2 : w.cell? ⟨b, 2, none⟩ = some v2 := hb.cell 2
  have f0 : w.frozen? ⟨b, 0, none⟩ = false := hb.frozen 0
  have f1 : w.frozen? ⟨b, 1, none⟩ = false := hb.frozen 1
  have f2 : w.frozen? ⟨b, 2, none⟩ = false := hb.frozen 2
  have hw := Lib.hid (pre_world w b _ v0 v1 v2 (.int .u64 (hi1 : Int)) (.int .u64 (lo1 : Int)) (.int .i64 (s : Int)) hb)
  rw [hs] at hw
  subst hp
  have hs' := Lib.hid hs
  clear hb hs
  go_enter Tryz.func140, Tryz.ntmps140
  go_wp2
  go_end0
  rw [hs'.out]
  exact ⟨rfl, hw.out⟩

theorem M64_eq : M64 = 18446744073709551616 := by decide

set_option maxRecDepth 100000 in
set_option maxHeartbeats 400000 in
theorem nudge_any0 (u : Nat) (d : Int) (w : World) :
    Calls Tryz.prog 143 #[.int .u64 u, .int .i64 d] w fun e w' => e = .returned (.int .u64 (IntKind.u64.wrap (u + IntKind.u64.wrap d))) ∧ w = w' := by
  go_enter Tryz.func143, Tryz.ntmps143
  go_wp2
  go_ret
  exact ⟨rfl, rfl⟩
theorem nudge_up (u : Nat) (d : Nat) (w : World) :
    Calls Tryz.prog 143 #[.int .u64 u, .int .i64 (d : Int)] w fun e w' => e = .returned (.int .u64 (nudgeP u d : Nat)) ∧ w = w' :=
  (nudge_any0 u d w).mono fun _ _ ⟨h1, h2⟩ => ⟨h1.trans (ret_int (by rw [IntKind.wrap_u64, IntKind.wrap_u64]; unfold nudgeP; rw [M64_eq]; omega)), h2⟩
theorem nudge_dn (u : Nat) (d : Nat) (hd : d ≤ 1) (w : World) :
    Calls Tryz.prog 143 #[.int .u64 u, .int .i64 (-(d : Int))] w fun e w' => e = .returned (.int .u64 (nudgeM u d : Nat)) ∧ w = w' :=
  (nudge_any0 u (-(d : Int)) w).mono fun _ _ ⟨h1, h2⟩ => ⟨h1.trans (ret_int (by rw [IntKind.wrap_u64, IntKind.wrap_u64]; unfold nudgeM; rw [M64_eq]; omega)), h2⟩

set_option maxRecDepth 100000 in
set_option maxHeartbeats 400000 in
theorem ceil_u (u : Nat) (w : World) :
    Calls Tryz.prog 144 #[.int .u64 u] w fun e w' => e = .returned (.int .u64 (uceil u : Nat)) ∧ w = w' := by
  have he : IntKind.u64.wrap (↑u + 3) / 4 = ((uceil u : Nat) : Int) := by rw [IntKind.wrap_u64]; unfold uceil; rw [M64_eq]; omega
  rw [← he]
  clear he
  go_enter Tryz.func144, Tryz.ntmps144
  go_wp2
  go_ret
  exact ⟨rfl, rfl⟩
set_option maxRecDepth 100000 in
set_option maxHeartbeats 400000 in
theorem floor_u (u : Nat) (hu : u < M64) (w : World) :
    Calls Tryz.prog 145 #[.int .u64 u] w fun e w' => e = .returned (.int .u64 (ufloor u : Nat)) ∧ w = w' := by
  have he : IntKind.u64.wrap ↑u / 4 = ((ufloor u : Nat) : Int) := by rw [M64_eq] at hu; rw [IntKind.wrap_u64]; unfold ufloor; omega
  rw [← he]
  clear he hu
  go_enter Tryz.func145, Tryz.ntmps145
  go_wp2
  go_ret
  exact ⟨rfl, rfl⟩
theorem and1 (k : Nat) (hk : k < 18446744073709551616) : bits .and .u64 (k : Int) 1 = ((k % 2 : Nat) : Int) := by
  have h := u64_and_nat k 1 hk (by decide)
  rw [Nat.and_one_is_mod] at h
  exact h
set_option maxRecDepth 100000 in
set_option maxHeartbeats 400000 in
theorem round_u (u : Nat) (hu : u < M64) (w : World) :
    Calls Tryz.prog 146 #[.int .u64 u] w fun e w' => e = .returned (.int .u64 (uround u : Nat)) ∧ w = w' := by
  have he : IntKind.u64.wrap (IntKind.u64.wrap (↑u + 1) + bits BinOp.and IntKind.u64 (↑u / 4) 1) / 4 = ((uround u : Nat) : Int) := by
    rw [M64_eq] at hu
    have := and1 (u / 4) (by omega)
    have e : ((u / 4 : Nat) : Int) = (u : Int) / 4 := by omega
    rw [e] at this
    rw [this, IntKind.wrap_u64, IntKind.wrap_u64]; unfold uround; rw [M64_eq]; omega
  rw [← he]
  clear he hu
  go_enter Tryz.func146, Tryz.ntmps146
  go_wp2
  go_ret
  exact ⟨rfl, rfl⟩
set_option maxRecDepth 100000 in
set_option maxHeartbeats 400000 in
theorem l10_any (x : Int) (w : World) (hx : -5000 ≤ x ∧ x ≤ 5000) :
    Calls Tryz.prog 113 #[.int .i64 x] w fun e w' => e = .returned (.int .i64 (l10p2 x)) ∧ w = w' := by
  go_enter Tryz.func113, Tryz.ntmps113
  go_wp2
  go_ret
  exact ⟨rfl, rfl⟩
set_option maxRecDepth 100000 in
set_option maxHeartbeats 400000 in
theorem l2_any (x : Int) (w : World) (hx : -5000 ≤ x ∧ x ≤ 5000) :
    Calls Tryz.prog 141 #[.int .i64 x] w fun e w' => e = .returned (.int .i64 (l2p10 x)) ∧ w = w' := by
  go_enter Tryz.func141, Tryz.ntmps141
  go_wp2
  go_ret
  exact ⟨rfl, rfl⟩
set_option maxRecDepth 100000 in
set_option maxHeartbeats 400000 in
theorem skw_any (x : Int) (w : World) (hx : -5000 ≤ x ∧ x ≤ 5000) :
    Calls Tryz.prog 139 #[.int .i64 x] w fun e w' => e = .returned (.int .i64 (skw x)) ∧ w = w' := by
  go_enter Tryz.func139, Tryz.ntmps139
  go_wp2
  go_ret
  exact ⟨rfl, rfl⟩
end Go.Proofs.YtijncfidjjfmiaaGreatDoor

namespace Go.Proofs.YtijncfidjjfmiaaGreatDoor
open Go.RowKit FloM Go.Lib

/-- Without the noughts at the end. -/
def stripZ (l : List UInt8) : List UInt8 := (l.reverse.dropWhile (· == 48)).reverse
theorem stripZ_nil : stripZ [] = [] := rfl
theorem stripZ_snoc (l : List UInt8) (c : UInt8) : stripZ (l ++ [c]) = if c = 48 then stripZ l else l ++ [c] := by
  unfold stripZ
  rw [List.reverse_append, List.reverse_singleton, List.singleton_append, List.dropWhile_cons]
  by_cases h : c = 48
  · rw [if_pos (by simp [h]), if_pos h]
  · rw [if_neg (by simp [h]), if_neg h, List.reverse_cons, List.reverse_reverse]

theorem take_succ_snoc (l : List UInt8) (k : Nat) (h : k < l.length) : l.take (k + 1) = l.take k ++ [l[k]] := by
  rw [List.take_succ_eq_append_getElem h]

abbrev encB : UInt8 → Value := fun b => Value.int .u8 (b.toNat : Int)

theorem putRow_grown (enc : UInt8 → Value) (w : World) (blk off : Nat) (d : Array UInt8) : w.grownBy (Sort.putRow enc w blk off d) (some blk) :=
  ⟨rfl, rfl, rfl, by rw [Sort.size_putRow]; exact Nat.le_refl _, fun i _ hne => by
    have hn : blk ≠ i := fun h => hne (by rw [h])
    show (w.heap.modify blk _)[i]? = _
    rw [Array.getElem?_modify, if_neg hn]⟩

theorem fb10_any (u : Nat) (hu : u < 18446744073709551616) (B cap : Nat) (w : World) (t : TypeId) (cs : Array Value) (hb : Blk w B t cs) (hz : ∀ j, j < nDigits u → cs[j]? = some (.int .u8 0)) :
    Calls Tryz.prog 147 #[.slice (some ⟨B, 0, none⟩) (nDigits u) cap, .int .u64 u] w fun e w' =>
      e = .returned (.tuple #[]) ∧ w.grownBy w' (some B) ∧ ∃ cs', Blk w' B t cs' ∧ ∀ j (hj : j < (decDigits u).length), cs'[j]? = some (.int .u8 ((decDigits u)[j].toNat : Int)) := by
  have hsz : (Array.replicate (nDigits u) (0 : UInt8)).size = nDigits u := by simp
  have hH : Sort.Holds encB w B 0 (Array.replicate (nDigits u) (0 : UInt8)) := by
    intro j hj
    rw [hsz] at hj
    refine ⟨?_, ?_⟩
    · rw [Nat.zero_add, hb.cell j, hz j hj]
      simp [encB, hj]
    · rw [Nat.zero_add]; exact hb.frozen j
  have hd : u < 10 ^ (Array.replicate (nDigits u) (0 : UInt8)).size := by rw [hsz]; exact lt_pow_nDigits u
  have hn20 : nDigits u ≤ 20 := by exact nDigits_le20 u hu
  have := Tryz.internal_strconv_formatBase10 B 0 cap u (Array.replicate (nDigits u) (0 : UInt8)) w hH hd hu (by rw [hsz]; omega)
  rw [hsz] at this
  refine this.mono ?_
  rintro e w' ⟨rfl, n, v', dk, rfl, hF⟩
  have hblk : Blk ((Sort.putRow encB w B 0 dk).drewN n) B t (Sort.putCells encB 0 dk cs) := by
    show (w.heap.modify B _)[B]? = _
    unfold Blk at hb
    rw [Array.getElem?_modify, if_pos rfl, hb]
    rfl
  refine ⟨rfl, only_drewN (putRow_grown _ w B 0 dk) n, _, hblk, fun j hj => ?_⟩
  have hr := row_is_numeral hF j hj
  have hp := Sort.holds_putRow encB w B 0 _ dk hH (by rw [hF.size, hsz])
  have hl := decDigits_length u
  have := (hp j (by rw [hF.size]; omega)).1
  rw [Nat.zero_add] at this
  rw [hr, ← hblk.cell j]
  exact this

theorem dec_getD (u j : Nat) (hj : j < nDigits u) : ∃ c : UInt8, (decDigits u)[j]? = some c ∧ 48 ≤ c.toNat ∧ c.toNat ≤ 57 := by
  rw [decDigits_eq]
  refine ⟨Lib.dg u (nDigits u - 1 - j), by simp [hj], ?_⟩
  unfold Lib.dg
  have : u / 10 ^ (nDigits u - 1 - j) % 10 < 10 := Nat.mod_lt _ (by decide)
  rw [UInt8.toNat_ofNat']
  omega

set_option maxRecDepth 100000 in
set_option maxHeartbeats 800000 in
theorem setDigits_any (u : Nat) (hu : u < 18446744073709551616) (p : Int) (hp : -100000 ≤ p ∧ p ≤ 100000) (B : Nat) (w : World) (t : TypeId) (cs : Array Value) (hb : Blk w B t cs) (hz : ∀ j, j < 32 → cs[j]? = some (.int .u8 0)) :
    Calls Tryz.prog 111 #[.slice (some ⟨B, 0, none⟩) 32 32, .int .u64 u, .int .i64 p, .int .i64 (nDigits u)] w fun e w' =>
      e = .returned (.tuple #[.int .i64 ((nDigits u : Nat) + p), .int .i64 ((stripZ (decDigits u)).length : Nat)]) ∧ w.grownBy w' (some B) ∧ ∃ cs', Blk w' B t cs' ∧ ∀ j (hj : j < (decDigits u).length), cs'[j]? = some (.int .u8 ((decDigits u)[j].toNat : Int)) := by
  have hn20 := nDigits_le20 u hu
  have hpos := nDigits_pos u
  have hl := decDigits_length u
  have hc := Lib.hid (fb10_any u hu B 32 w t cs hb (fun j hj => hz j (by omega)))
  generalize decDigits u = L at *
  generalize nDigits u = nd at *
  have HL := Lib.hid hl
  clear hl hb hz
  go_enter Tryz.func111, Tryz.ntmps111
  go_wp2_with fail
  refine hc.out.mono ?_
  rintro e w1 ⟨rfl, hg, cs', hblk', hcell⟩
  have HG := Lib.hid hg
  have HC := Lib.hid hcell
  have HK := Lib.hid hblk'
  clear hg hcell hblk'
  go_wp2
  go_loop [3] (fun v => ∃ k : Nat, k ≤ nd ∧ v = .int .i64 k ∧ Hid (stripZ (L.take k) = stripZ L)) (fun v => (RowKit.intOf v).toNat)
  case atStart => exact ⟨nd, Nat.le_refl _, rfl, by rw [List.take_of_length_le (by rw [HL.out]; exact Nat.le_refl _)]; rfl⟩
  case round =>
    obtain ⟨k, hk, rfl, hr⟩ := hrel
    rcases Nat.eq_zero_or_pos k with h0 | h0
    · subst h0
      have hfin : Hid ((stripZ L).length = 0) := by
        have := hr.out; rw [List.take_zero, stripZ_nil] at this; rw [← this]; rfl
      go_wp2
      go_ret2
      rw [hfin.out]
      exact ⟨rfl, HG.out, cs', HK.out, HC.out⟩
    · obtain ⟨k', rfl⟩ : ∃ k', k = k' + 1 := ⟨k - 1, by omega⟩
      have hlt : k' < L.length := by rw [HL.out]; omega
      have hcell : w1.cell? ⟨B, k', none⟩ = some (.int .u8 (L[k'].toNat : Int)) := (HK.out.cell k').trans (HC.out k' hlt)
      have hsn := take_succ_snoc L k' hlt
      have hst := stripZ_snoc (L.take k') L[k']
      rw [← hsn] at hst
      clear hsn
      have hcb : ((L[k'].toNat : Int) == 48) = decide (L[k'] = 48) := by
        have h48 : (L[k'] = 48) ↔ L[k'].toNat = 48 := by rw [← UInt8.toNat_inj]; rfl
        rw [Bool.eq_iff_iff, beq_iff_eq, decide_eq_true_eq, h48]
        omega
      generalize L[k'] = c at *
      by_cases hc48 : c = 48
      · rw [if_pos hc48] at hst
        have ht : ((c.toNat : Int) == 48) = true := by rw [hcb]; exact decide_eq_true hc48
        have hst' : Hid (stripZ (L.take k') = stripZ L) := by rw [← hst]; exact hr.out
        clear hst hcb hc48 hr
        go_wp2
        go_round
        case rel => exact ⟨k', by omega, by go_num, hst'⟩
        case measure => simp [RowKit.intOf]
      · rw [if_neg hc48] at hst
        have ht : ((c.toNat : Int) == 48) = false := by rw [hcb]; exact decide_eq_false hc48
        have hfin : Hid ((stripZ L).length = k' + 1) := by
          have h2 := hr.out
          have h3 := HL.out
          show (stripZ L).length = k' + 1
          rw [← h2, hst, List.length_take]
          omega
        clear hst hcb hc48 hr
        go_wp2
        go_ret2
        rw [hfin.out]
        exact ⟨rfl, HG.out, cs', HK.out, HC.out⟩

end Go.Proofs.YtijncfidjjfmiaaGreatDoor

namespace Go.Proofs.YtijncfidjjfmiaaGreatDoor
open Go.RowKit FloM

theorem u8_info : (Tryz.prog.info? 5).map (fun i => (i.zero, i.size, i.bytes)) = some (some (.int .u8 0), 1, 1) := by kernel_rfl

/-- The buffer holds these bytes; below B0 all is as it was in w0. -/
def Buf (B0 : Nat) (w0 W : World) (v : Value) (xs : List UInt8) : Prop := W.ownsRow B0 5 1 v xs.length (xs.map encB) ∧ Below B0 w0 W ∧ B0 ≤ W.heap.size

theorem Buf.more {B0 : Nat} {w0 W w' : World} {v v' : Value} {xs bs : List UInt8} {o : Obj} (hb : Below B0 w0 W) (hB : B0 ≤ W.heap.size)
    (hown : W.ownsRow B0 5 1 v xs.length (xs.map encB))
    (hown' : w'.ownsRow B0 5 1 v' (xs.length + bs.length) (xs.map encB ++ bs.map encB)) (hg : (W.alloc o).grownBy w' v.ownBlock) : Buf B0 w0 w' v' (xs ++ bs) := by
  refine ⟨by rw [List.length_append, List.map_append]; exact hown', ?_, Nat.le_trans (by simp; omega) hg.size⟩
  refine (hb.alloc hB o).grown hg (by simp; omega) (fun k hk => ?_)
  rcases hown.2 with ⟨rfl, _⟩ | ⟨g, cap, cur, rfl, hge, _⟩
  · simp [Value.ownBlock] at hk
  · have : g = k := by simpa [Value.ownBlock] using hk
    omega

/-- append of bytes that stand in a new block. -/
theorem Buf.step {B0 : Nat} {w0 W : World} {v : Value} {xs : List UInt8} (h : Buf B0 w0 W v xs) {B : Nat} {t : TypeId} {cs : Array Value} (hB : Blk W B t cs) (ht : 5 ≠ t)
    (vs : List Value) (bs : List UInt8) (hv : vs = bs.map encB) (hlen : xs.length + bs.length ≤ 4096) {ops : Array Oper} {rest : List Oper} {a : Act} {Q : Exit → Act → World → Prop} {dst : Option Tmp} {s x : Operand} {ty : TypeId} {ps : String} {af : Array Edge}
   
    (hs : a.eval s = v) (hx : a.eval x = .slice (some ⟨W.heap.size, 0, none⟩) bs.length bs.length)
    (k : ∀ v' w', Buf B0 w0 w' v' (xs ++ bs) → Blk w' B t cs → wpList Tryz.prog ops Q rest (a.put dst v') w') : wpList Tryz.prog ops Q ({ dst := dst, op := .call { callee := .builtin .append, args := #[s, x], argTypes := #[67, 67] }, type := ty, pos := ps, after := af, guard := none } :: rest) a (W.alloc (.cells vs.toArray 5)) := by
  obtain ⟨i0, hi0, hz0, hz1, hz2⟩ := info_parts u8_info
  obtain ⟨hown, hb, hBs⟩ := h
  subst hv
  have hr : Reads (W.alloc (.cells (bs.map encB).toArray 5)) (W.heap.size + 1) 1 (some ⟨W.heap.size, 0, none⟩) bs.length (bs.map encB) := by
    refine ⟨by simp, fun _ => ⟨_, rfl, by simp, fun j u hu => ?_⟩⟩
    have hbk := Blk.new W 5 (bs.map encB).toArray
    have hadd : (⟨W.heap.size, 0, none⟩ : Addr).add j = ⟨W.heap.size, j, none⟩ := by
      unfold Addr.add; split <;> simp_all
    rw [hadd, hbk.cell j]
    simpa using hu
  refine wpList_append_any (W.alloc (.cells (bs.map encB).toArray 5)) rfl s x 67 rfl B0 5 i0 _ 1 1 Tryz.underlying67 hi0 hz0 hz1 hz2 rfl (by omega) v xs.length (xs.map encB) hs
    (hown.alloc _) _ _ bs.length _ (bs.map encB) hx hr (fun u hu => ?_) (by simp only [maxLen]; omega) (by omega) (by simp; omega) (fun v' w' hown' hg _ => ?_)
  · obtain ⟨b, _, rfl⟩ := List.mem_map.1 hu; rfl
  · refine k v' w' (Buf.more hb hBs hown hown' hg) ((hB.alloc _).grown hg ?_)
    intro he
    exact own_blk_ne hown hB ht he.symm

/-- append of a part of another block. -/
theorem Buf.stepOf {B0 : Nat} {w0 W : World} {v : Value} {xs : List UInt8} (h : Buf B0 w0 W v xs) {B : Nat} {t : TypeId} {cs : Array Value} (hB : Blk W B t cs) (ht : 5 ≠ t)
    (off cap : Nat) (bs : List UInt8) (hbs : ∀ j u, bs[j]? = some u → cs[off + j]? = some (encB u)) (hlen : xs.length + bs.length ≤ 4096) {ops : Array Oper} {rest : List Oper} {a : Act} {Q : Exit → Act → World → Prop} {dst : Option Tmp} {s x : Operand} {ty : TypeId} {ps : String} {af : Array Edge}
   
    (hs : a.eval s = v) (hx : a.eval x = .slice (some ⟨B, off, none⟩) bs.length cap)
    (k : ∀ v' w', Buf B0 w0 w' v' (xs ++ bs) → Blk w' B t cs → wpList Tryz.prog ops Q rest (a.put dst v') w') : wpList Tryz.prog ops Q ({ dst := dst, op := .call { callee := .builtin .append, args := #[s, x], argTypes := #[67, 67] }, type := ty, pos := ps, after := af, guard := none } :: rest) a W := by
  obtain ⟨i0, hi0, hz0, hz1, hz2⟩ := info_parts u8_info
  obtain ⟨hown, hb, hBs⟩ := h
  have hr : Reads W W.heap.size 1 (some ⟨B, off, none⟩) bs.length (bs.map encB) := by
    refine ⟨by simp, fun _ => ⟨_, rfl, hB.lt, fun j u hu => ?_⟩⟩
    have hadd : (⟨B, off, none⟩ : Addr).add j = ⟨B, off + j, none⟩ := by
      unfold Addr.add
      split
      · next h => rw [h, Nat.add_zero]
      · rfl
    rw [hadd, hB.cell]
    rw [List.getElem?_map] at hu
    rcases hj : bs[j]? with _ | b
    · rw [hj] at hu; cases hu
    · rw [hj, Option.map_some] at hu
      rw [← hu]
      exact hbs j b hj
  refine wpList_append_any W rfl s x 67 rfl B0 5 i0 _ 1 1 Tryz.underlying67 hi0 hz0 hz1 hz2 rfl (by omega) v xs.length (xs.map encB) hs
    hown _ _ bs.length _ (bs.map encB) hx hr (fun u hu => ?_) (by simp only [maxLen]; omega) (by omega) hBs (fun v' w' hown' hg _ => ?_)
  · obtain ⟨b, _, rfl⟩ := List.mem_map.1 hu; rfl
  · refine k v' w' ⟨by rw [List.length_append, List.map_append]; exact hown', hb.grown hg hBs (fun k hk => ?_), Nat.le_trans hBs hg.size⟩ (hB.grown hg ?_)
    · rcases hown.2 with ⟨rfl, _⟩ | ⟨g, cap, cur, rfl, hge, _⟩
      · simp [Value.ownBlock] at hk
      · have : g = k := by simpa [Value.ownBlock] using hk
        omega
    · intro he
      exact own_blk_ne hown hB ht he.symm

end Go.Proofs.YtijncfidjjfmiaaGreatDoor
