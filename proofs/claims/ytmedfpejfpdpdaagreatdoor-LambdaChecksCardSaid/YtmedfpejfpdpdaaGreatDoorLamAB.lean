/- Lambda: NewMachine. -/
import Derived.Test.YtmedfpejfpdpdaaGreatDoorLamAA
import Derived.Deep.DeepFit
namespace Go.Proofs.YtmedfpejfpdpdaaGreatDoor
open Go.RowKit LamM Go.Maps

/-- A machine that is new. -/
def NewPost (w : World) (fuel : Int) (e : Ending) (w' : World) : Prop :=
  ∃ M P0 ad dv B vs, e = .returned (.pointer (some ⟨M, 0, none⟩)) ∧ NmS w B M P0 fuel ad dv vs 61 w'
set_option maxRecDepth 100000 in
set_option maxHeartbeats 8000000 in
theorem new_any (fuel : Int) (w : World) : Calls Tryz.prog 40 #[.slice none 0 0, .int .i64 fuel] w (NewPost w fuel) := by
  obtain ⟨i0, hi0, hz0, hz1, hz2⟩ := info_parts infoF
  obtain ⟨W1, hW⟩ : ∃ W1, w.alloc (.cells #[.slice none 0 0, .int .i64 0, .int .i64 fuel, .slice none 0 0, .slice none 0 0] 97) = W1 := ⟨_, rfl⟩
  have hbw : Below w.heap.size w W1 := by rw [← hW]; exact (Below.refl _ _).alloc (Nat.le_refl _) _
  have HBX := Lib.hid (show Blk W1 w.heap.size 97 #[.slice none 0 0, .int .i64 0, .int .i64 fuel, .slice none 0 0, .slice none 0 0] by rw [← hW]; exact Blk.new _ _ _)
  have HB0 := Lib.hid hbw
  unfold NewPost
  clear hbw
  go_enter Tryz.func40, Tryz.ntmps40
  go_wp2_with fail
  go_at_call 53
  (with_reducible refine (table_any _).mono ?_)
  rintro e w2 ⟨B, rfl, hB, ht, hb2⟩
  have HT2 := Lib.hid ht
  have HX2 := Lib.hid (HBX.out.below hb2 HBX.out.lt)
  have HB2 := Lib.hid (HB0.out.trans (hb2.mono HB0.out.size))
  clear ht hb2
  go_wp2_with fail
  go_at_call 10
  (with_reducible refine (prims_any _).mono ?_)
  rintro e w3 ⟨pv, rfl, hpv, hb3⟩
  have hBM : w.heap.size < B := Nat.lt_of_lt_of_le HBX.out.lt hB
  obtain ⟨M, hM⟩ : ∃ M, w.heap.size = M := ⟨_, rfl⟩
  obtain ⟨PA, pc, hpe, hpc1, hpc2⟩ := hpv.len
  rw [primTab_len] at hpe
  subst hpe
  have HS0 := Lib.hid (show NmS w B M w3.heap.size fuel PA (.slice none 0 0) [] 0 w3 from ⟨World.ownsRow_nil _ _ _ _, HT2.out.below hb3, PN.of hpv, by rw [← hM]; exact HX2.out.below hb3 HX2.out.lt, HB2.out.trans (hb3.mono HB2.out.size), Nat.le_of_eq hM, by omega, Nat.lt_of_lt_of_le HT2.out.lt hb3.size, Nat.le_refl _, fun u h => by simp at h⟩)
  obtain ⟨P0, hP0⟩ : ∃ P, w3.heap.size = P := ⟨_, rfl⟩
  rw [hP0] at HS0
  rw [hM] at ⊢
  clear hpv hb3 HT2 HX2 HB2 HBX HB0 hW hB hM hBM hP0
  go_wp2_with fail
  go_loopw [16] (fun ix wr => ∃ (k : Nat) (dv : Value) (vs : List Value), k ≤ 61 ∧ ix = .int .i64 (k : Int) ∧ Hid (NmS w B M P0 fuel PA dv vs k wr)) (fun ix _ => 61 - (intOf ix).toNat)
  case atStart => exact ⟨0, .slice none 0 0, [], Nat.zero_le _, rfl, HS0⟩
  case round =>
    obtain ⟨k, dv, vs, hk, rfl, HS⟩ := hrel
    obtain ⟨wo, rfl⟩ : ∃ wo : World, wo = wr := ⟨_, rfl⟩
    rcases Nat.lt_or_ge k 61 with hlt | hge
    · obtain ⟨p, hp⟩ : ∃ p, primTab[k]? = some p := ⟨_, List.getElem?_eq_getElem (by rw [primTab_len]; omega)⟩
      obtain ⟨ty, RA, rn, rc, p0, p1, p2, p3, p4⟩ := HS.out.prv.2 k p hp
      replace p1 := spell5 (j := 0) p1
      replace p2 := spell5 (j := 1) p2
      replace p3 := spell5 (j := 2) p3
      replace p4 := spell5 (j := 3) p4
      have hpm := List.mem_of_getElem? hp
      have hnl := nm_len p hpm
      have hkl := key_len p hpm
      obtain ⟨W1, hW⟩ : ∃ W1, wo.alloc (.cells #[.string ⟨p.nm.toArray⟩, .int .i64 p.con, .int .i64 p.args, .string ty, .slice RA rn rc] 45) = W1 := ⟨_, rfl⟩
      have hbw : Below wo.heap.size wo W1 := by rw [← hW]; exact (Below.refl _ _).alloc (Nat.le_refl _) _
      have HPX := Lib.hid (show Blk W1 wo.heap.size 45 #[.string ⟨p.nm.toArray⟩, .int .i64 p.con, .int .i64 p.args, .string ty, .slice RA rn rc] by rw [← hW]; exact Blk.new _ _ _)
      have HS1 := Lib.hid ((HS.out.below hbw).below (Below.drew (Below.refl _ _)))
      obtain ⟨DA, dn, dc, rfl⟩ : ∃ a n c, dv = .slice a n c := by obtain ⟨a, c, e⟩ := ownsRow_slice HS1.out.own; exact ⟨_, _, _, e⟩
      have c4 : W1.drew.cell? ⟨M, 4, none⟩ = some (.slice DA dn dc) := HS1.out.box.cell 4
      have d0 : W1.drew.cell? ⟨wo.heap.size, 0, none⟩ = some (.string ⟨p.nm.toArray⟩) := HPX.out.drew.cell 0
      have d1 : W1.drew.cell? ⟨wo.heap.size, 1, none⟩ = some (.int .i64 p.con) := HPX.out.drew.cell 1
      have d2 : W1.drew.cell? ⟨wo.heap.size, 2, none⟩ = some (.int .i64 p.args) := HPX.out.drew.cell 2
      have d3 : W1.drew.cell? ⟨wo.heap.size, 3, none⟩ = some (.string ty) := HPX.out.drew.cell 3
      have d4 : W1.drew.cell? ⟨wo.heap.size, 4, none⟩ = some (.slice RA rn rc) := HPX.out.drew.cell 4
      have HKY := Lib.hid (key_any p ty (.slice RA rn rc) W1.drew hnl)
      have HKL := Lib.hid hkl
      have HPE : Hid (k = 58 → LamM.keyOf p = [112, 114, 105, 110, 116]) := Lib.hid (fun h => by subst h; have := key_print; rw [hp] at this; exact Option.some.inj this)
      have hkn : (k : Int) < 61 := by omega
      clear hp hpm hnl hkl hbw
      go_upto_region 6 with fail
      go_region_law (first
        | (refine step_append_any _ rfl _ _ 95 rfl P0 FT i0 .nilFunc 1 8 undFs hi0 hz0 hz1 hz2 rfl (by decide) _ _ _ rfl (HS4.out.own.alloc _) _ _ _ _ [_] rfl (Reads.blk' (Blk.new _ _ _) rfl) HON.out (by unfold maxLen; omega) (by omega) (by have := HS4.out.hP; simp; omega) ?_; intro v2 w5 hown5 hgrow5 hor5; obtain ⟨ea, ec, rfl⟩ := ownsRow_slice hown5; obtain ⟨hs5, c5, f5⟩ := HS4.out.grow hown5 hgrow5 HVP.out; have HS5 := Lib.hid hs5; clear hs5; clear hown5 hgrow5 hor5)
        | (go_simp; go_at_call 54; (with_reducible refine (HKY.out).mono ?_); rintro e w4 ⟨rfl, hb4⟩; have HS4 := Lib.hid (HS1.out.below hb4); obtain ⟨v, hlk, hvf, hvp⟩ := HS4.out.tab.look HKL.out; have HON := Lib.hid (fun_one hvf); have hvc := fun_cells hvf; unfold Value.cells at hvc; have HVP := Lib.hid (show k = 58 → v = printF from fun h => hvp (HPE.out h) _ rfl); have c4' : w4.cell? ⟨M, 4, none⟩ = some (.slice DA dn dc) := HS4.out.box.cell 4; have c4'' : (w4.alloc (.cells #[v] FT)).cell? ⟨M, 4, none⟩ = some (.slice DA dn dc) := (HS4.out.box.alloc _).cell 4; clear hb4 hvf hvp))
      all_goals
        go_wp2_with fail
        go_roundw
        case rel => exact ⟨k + 1, _, _, by omega, by go_num, HS5⟩
        case measure => simp [intOf]; omega
    · obtain rfl : k = 61 := by omega
      have q0 : (61 : Int) ≤ ((61 : Nat) : Int) := by decide
      clear hge hk
      go_wp2_with fail
      go_ret
      exact ⟨M, P0, PA, dv, B, vs, rfl, HS.out⟩
end Go.Proofs.YtmedfpejfpdpdaaGreatDoor
