/- Lambda: a machine is made: key, NewMachine. -/
import Derived.Test.YtmedfpejfpdpdaaGreatDoorLamRW
import Derived.Test.YtmedfpejfpdpdaaGreatDoorLamZ
import Derived.Deep.RegionLaw
namespace LamM
/-- A primitive's key. -/
def keyOf (p : Pr) : List UInt8 := if p.con = 1 then 114 :: p.nm else if p.con = 3 then 115 :: p.nm else p.nm
theorem key_len : ∀ p ∈ primTab, (keyOf p).length ≤ 100 := by decide
theorem nm_len : ∀ p ∈ primTab, p.nm.length ≤ 100 := by decide
theorem key_print : (primTab[58]?).map keyOf = some [112, 114, 105, 110, 116] := rfl
end LamM
namespace Go.Proofs.YtmedfpejfpdpdaaGreatDoor
open Go.RowKit LamM Go.Maps

set_option maxRecDepth 100000 in
set_option maxHeartbeats 2000000 in
theorem key_any (p : Pr) (ty : ByteArray) (rv : Value) (w : World) (hl : p.nm.length ≤ 100) : Calls Tryz.prog 54 #[.agg #[.string ⟨p.nm.toArray⟩, .int .i64 p.con, .int .i64 p.args, .string ty, rv]] w
    fun e w' => e = .returned (.string ⟨(LamM.keyOf p).toArray⟩) ∧ Below w.heap.size w w' := by
  have HB := Lib.hid ((Below.refl w.heap.size w).alloc (Nat.le_refl _) (.cells #[.string ⟨p.nm.toArray⟩, .int .i64 p.con, .int .i64 p.args, .string ty, rv] 45))
  have HBL := Blk.new w 45 #[.string ⟨p.nm.toArray⟩, .int .i64 p.con, .int .i64 p.args, .string ty, rv]
  have c0 := HBL.cell 0
  have c1 := HBL.cell 1
  have hs := size_mk p.nm
  have e1 := bytes_cons 114 p.nm
  have e2 := bytes_cons 115 p.nm
  obtain ⟨r, hr⟩ : ∃ r, LamM.keyOf p = r := ⟨_, rfl⟩
  rw [hr]
  unfold LamM.keyOf at hr
  clear HBL
  generalize p.con = con at *
  generalize p.nm = nm at *
  by_cases k0 : con = 0
  · have q0 := b_true k0
    rw [if_neg (by omega), if_neg (by omega)] at hr
    subst hr
    clear k0
    go_enter Tryz.func54, Tryz.ntmps54
    go_wp2_with fail
    go_ret
    exact ⟨rfl, HB.out⟩
  · have q0 := b_false k0
    by_cases k1 : con = 1
    · have q1 := b_true k1
      have q2 := b_false (show con ≠ 2 by omega)
      rw [if_pos k1] at hr
      subst hr
      clear k0 k1
      go_enter Tryz.func54, Tryz.ntmps54
      go_wp2_with fail
      go_ret
      exact ⟨rfl, HB.out⟩
    · have q1 := b_false k1
      rw [if_neg k1] at hr
      by_cases k2 : con = 2
      · have q2 := b_true k2
        rw [if_neg (by omega)] at hr
        subst hr
        clear k0 k1 k2
        go_enter Tryz.func54, Tryz.ntmps54
        go_wp2_with fail
        go_ret
        exact ⟨rfl, HB.out⟩
      · have q2 := b_false k2
        by_cases k3 : con = 3
        · have q3 := b_true k3
          rw [if_pos k3] at hr
          subst hr
          clear k0 k1 k2 k3
          go_enter Tryz.func54, Tryz.ntmps54
          go_wp2_with fail
          go_ret
          exact ⟨rfl, HB.out⟩
        · have q3 := b_false k3
          rw [if_neg k3] at hr
          subst hr
          clear k0 k1 k2 k3
          go_enter Tryz.func54, Tryz.ntmps54
          go_wp2_with fail
          go_ret
          exact ⟨rfl, HB.out⟩

theorem infoF : (Tryz.prog.info? FT).map (fun i => (i.zero, i.size, i.bytes)) = some (some .nilFunc, 1, 8) := by kernel_rfl
theorem undFs : Tryz.prog.underlying 95 = some (.slice FT) := by kernel_rfl
theorem spell5 {w : World} {ad : Addr} {i j : Nat} {v : Value} (h : w.cell? (ad.add (i + (j + 1))) = some v) : w.cell? ⟨(ad.add i).block, (ad.add i).off + (j + 1), none⟩ = some v := by
  rw [← add_of_add] at h; exact h
abbrev printF : Value := .func (.func 170) #[] #[]
theorem cell_plain {w : World} {a : Addr} {v : Value} (h : w.cell? a = some v) : w.cell? ⟨a.block, a.off, none⟩ = some v := by
  unfold World.cell? at h ⊢
  split at h
  · next c _ _ hc =>
    split at h
    · cases h
    · simp only [hc]; exact h
  · cases h
/-- The table of primitives, but for what they raise. -/
def PN (w : World) (P0 : Nat) (ad : Addr) : Prop :=
  ad.block < P0 ∧ ∀ i p, primTab[i]? = some p → ∃ ty RA rn rc, w.cell? (ad.add (i * 5)) = some (.string ⟨p.nm.toArray⟩) ∧ w.cell? (ad.add (i * 5 + 1)) = some (.int .i64 p.con) ∧ w.cell? (ad.add (i * 5 + 2)) = some (.int .i64 p.args) ∧
    w.cell? (ad.add (i * 5 + 3)) = some (.string ty) ∧ w.cell? (ad.add (i * 5 + 4)) = some (.slice RA rn rc)
theorem PN.of {w : World} {B n c : Nat} {ad : Addr} (h : PV w B (.slice (some ad) n c) primTab) : PN w B ad := by
  have hb : ad.block < B := by
    obtain ⟨ad', xs, c', e, _, _, h3, _⟩ := h
    injection e with e1 e2 e3
    injection e1 with e1
    rw [e1]; exact h3
  refine ⟨hb, fun i p hp => ?_⟩
  obtain ⟨ty, rv, _, hrv, h0, h1, h2, h3, h4⟩ := h.at_ hp
  obtain ⟨a, c, rfl, _⟩ := hrv
  exact ⟨ty, a, _, c, h0, h1, h2, h3, h4⟩
theorem PN.keep {w w' : World} {P0 : Nat} {ad : Addr} (h : PN w P0 ad) (hk : ∀ p : Addr, p.block = ad.block → w'.cell? p = w.cell? p) : PN w' P0 ad := by
  refine ⟨h.1, fun i p hp => ?_⟩
  obtain ⟨ty, RA, rn, rc, h0, h1, h2, h3, h4⟩ := h.2 i p hp
  exact ⟨ty, RA, rn, rc, (hk _ (block_of_add _ _)).trans h0, (hk _ (block_of_add _ _)).trans h1, (hk _ (block_of_add _ _)).trans h2, (hk _ (block_of_add _ _)).trans h3, (hk _ (block_of_add _ _)).trans h4⟩
/-- A machine while its table grows. -/
structure NmS (w0 : World) (B M P0 : Nat) (fuel : Int) (ad : Addr) (dv : Value) (vs : List Value) (k : Nat) (wr : World) : Prop where
  own : wr.ownsRow P0 FT 1 dv k vs
  tab : Tab wr B 100 (some printF)
  prv : PN wr P0 ad
  box : Blk wr M 97 #[.slice none 0 0, .int .i64 0, .int .i64 fuel, .slice none 0 0, dv]
  bel : Below w0.heap.size w0 wr
  hM : w0.heap.size ≤ M
  hMB : M < B
  hBP : B < P0
  hP : P0 ≤ wr.heap.size
  prt : ∀ u, vs[58]? = some u → u = printF
section
variable {w0 wr w' : World} {B M P0 k : Nat} {fuel : Int} {ad : Addr} {dv : Value} {vs : List Value}
theorem NmS.below (H : NmS w0 B M P0 fuel ad dv vs k wr) (hb : Below wr.heap.size wr w') : NmS w0 B M P0 fuel ad dv vs k w' :=
  ⟨ownsRow_below H.own hb, H.tab.below hb, H.prv.keep (fun p hp => hb.cell (by rw [hp]; exact Nat.lt_of_lt_of_le H.prv.1 H.hP)), H.box.below hb H.box.lt, H.bel.trans (hb.mono H.bel.size), H.hM, H.hMB, H.hBP, Nat.le_trans H.hP hb.size, H.prt⟩
theorem NmS.ne (H : NmS w0 B M P0 fuel ad dv vs k wr) : ad.block ≠ M := fun h => by
  obtain ⟨ty, RA, rn, rc, h0, _⟩ := H.prv.2 0 _ rfl
  have h1 : wr.cell? ⟨M, ad.off, none⟩ = some (.string ⟨[43].toArray⟩) := by
    rw [show ad.add (0 * 5) = ad by unfold Addr.add; simp] at h0
    rw [← h]; exact cell_plain h0
  rw [H.box.cell ad.off] at h1
  generalize ad.off = off at h1
  rcases (by omega : off = 0 ∨ off = 1 ∨ off = 2 ∨ off = 3 ∨ off = 4 ∨ 5 ≤ off) with rfl | rfl | rfl | rfl | rfl | h5
  · simp at h1
  · simp at h1
  · simp at h1
  · simp at h1
  · simp at h1
    rcases H.own.2 with ⟨e, _⟩ | ⟨_, _, _, e, _⟩ <;> (rw [e] at h1; cases h1)
  · rw [Array.getElem?_eq_none (by simp; omega)] at h1; cases h1
theorem fun_one {v : Value} (h : (∃ f a b, v = .func f a b) ∨ v = .nilFunc) : ∀ u ∈ [v], u.oneCell' = true := by
  intro u hu
  rw [List.mem_singleton.1 hu]
  rcases h with ⟨f, a, b, rfl⟩ | rfl <;> rfl
theorem fun_cells {v : Value} (h : (∃ f a b, v = .func f a b) ∨ v = .nilFunc) : v.cells = #[v] := by
  rcases h with ⟨f, a, b, rfl⟩ | rfl <;> rfl
/-- One function more. -/
theorem NmS.grow {v e : Value} {o : Obj} (H : NmS w0 B M P0 fuel ad dv vs k wr) (ho : w'.ownsRow P0 FT 1 e (k + 1) (vs ++ [v])) (hg : (wr.alloc o).grownBy w' dv.ownBlock) (hv : k = 58 → v = printF) :
    NmS w0 B M P0 fuel ad e (vs ++ [v]) (k + 1) (w'.setCell ⟨M, 4, none⟩ e) ∧ w'.cell? ⟨M, 4, none⟩ = some dv ∧ w'.frozen? ⟨M, 4, none⟩ = false := by
  have hdv : ∀ j, dv.ownBlock = some j → P0 ≤ j := fun j hj => (World.ownsRow.lt H.own j hj).1
  have h1 := H.hMB
  have h2 := H.hBP
  have h3 := H.hP
  have hb : Below P0 wr w' := ((Below.refl P0 wr).alloc h3 o).grown hg (by simp; omega) hdv
  have hx : Blk w' M 97 #[.slice none 0 0, .int .i64 0, .int .i64 fuel, .slice none 0 0, dv] := H.box.below hb (by omega)
  have hsz := hb.size
  have hs : (w'.setCell ⟨M, 4, none⟩ e).heap.size = w'.heap.size := by simp [World.setCell]
  have hlen : vs.length = k := by have := H.own.1; omega
  refine ⟨⟨?_, ?_, ?_, hx.set_ 4 e, (H.bel.trans (hb.mono (by have := H.hM; omega))).setCell (by exact H.hM) e, H.hM, H.hMB, H.hBP, by rw [hs]; omega, fun u hu => ?_⟩, hx.cell 4, hx.frozen 4⟩
  · refine ho.kept (row := some M) ⟨rfl, rfl, rfl, by simp [World.setCell], fun j _ hj => Below.heap_setCell w' _ e j (fun h => hj (by rw [h]))⟩ ?_
    cases hob : e.ownBlock with
    | none => exact .inl rfl
    | some j => refine .inr fun h => ?_; have := (World.ownsRow.lt ho j hob).1; have := Option.some.inj h; omega
  · obtain ⟨D, hD, hxx⟩ := H.tab
    have : w'.ownsMap Tryz.prog 9 funE B 100 D := by
      obtain ⟨es, clock, hbk, F, hz, hDD⟩ := hD
      exact ⟨es, clock, (hb.block B h2).trans hbk, F, hz, hDD⟩
    exact Tab.setCell ⟨D, this, hxx⟩ (by show M ≠ B; omega) e
  · refine H.prv.keep fun p hp => ?_
    have hpb : p.block < P0 := by rw [hp]; exact H.prv.1
    rw [World.cell?_setCell_other w' _ p e (fun h => H.ne (by have := congrArg Addr.block h; rw [← hp]; first | exact this | exact this.symm))]
    exact hb.cell hpb
  · rcases Nat.lt_or_ge 58 k with h | h
    · rw [List.getElem?_append_left (by omega)] at hu
      exact H.prt u hu
    · rcases Nat.eq_or_lt_of_le h with h | h
      · subst h
        rw [List.getElem?_append_right (by omega), hlen, Nat.sub_self] at hu
        have : v = u := by simpa using hu
        rw [← this]; exact hv rfl
      · rw [List.getElem?_eq_none (by simp; omega)] at hu; cases hu
end
end Go.Proofs.YtmedfpejfpdpdaaGreatDoor
