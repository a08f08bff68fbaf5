/- The reference's Int. -/
import Derived.Test.YtceoapkkmgllaaaGreatDoorFloAmtI
import Derived.Test.YtceoapkkmgllaaaGreatDoorFloSigns
namespace Go.Proofs.YtceoapkkmgllaaaGreatDoor
open Go.RowKit FloM

theorem D.shape {w : World} {v : Value} {N : Nat} (h : D w v N) : ∃ A c, v = .slice A (nd N) c := by
  obtain ⟨A, c, e, _⟩ := h; exact ⟨A, c, e⟩
theorem nd_64 {x : Nat} (h : x < 2 ^ 64) : nd x ≤ 4 := nd_bound h

set_option maxRecDepth 100000 in
set_option maxHeartbeats 400000 in
theorem rint_pos (x : Nat) (hx : x < 2 ^ 63) (w : World) : Calls Tryz.prog 36 #[.int .i64 (x : Int)] w (RetU w (ofI x)) := by
  have hx0 : (x : Int) ≤ 9223372036854775807 := by omega
  have HX := Lib.hid hx
  have d1 : decide ((x : Int) < 0) = false := decide_eq_false (by omega)
  have HE := Lib.hid (rint_all (x : Int))
  clear hx
  go_enter Tryz.func36, Tryz.ntmps36
  go_wp2_with fail
  refine (small_D x _ (by have := HX.out; omega)).mono ?_
  rintro e w2 ⟨v2, rfl, hv2, _, hbel2⟩
  obtain ⟨A2, c2, rfl⟩ := hv2.shape
  have HV2 := Lib.hid hv2
  have HB2 := Lib.hid hbel2
  have hs2 := hbel2.size
  clear hv2 hbel2
  go_wp2_with fail
  refine (near_any false false _ x 0 _ (by have := nd_64 (x := x) (by have := HX.out; omega); omega) (by omega) (by omega) HV2.out).mono ?_
  rintro e w3 ⟨rfl, hbel3⟩
  have HB3 := Lib.hid hbel3
  clear hbel3
  go_wp2_with fail
  go_ret
  refine ⟨?_, HB2.out.trans (HB3.out.mono hs2)⟩
  rw [HE.out]
  rfl

set_option maxRecDepth 100000 in
set_option maxHeartbeats 400000 in
theorem rint_neg (x : Nat) (hx0 : 0 < x) (hx : x ≤ 2 ^ 63) (w : World) : Calls Tryz.prog 36 #[.int .i64 (-(x : Int))] w (RetU w (ofI (-(x : Int)))) := by
  have HX := Lib.hid hx
  have d1 : decide (-(x : Int) < 0) = true := decide_eq_true (by omega)
  have HE := Lib.hid (rint_all (-(x : Int)))
  have hneg : IntKind.u64.wrap (-(IntKind.u64.wrap (-(x : Int)))) = (x : Int) := by rw [IntKind.wrap_u64, IntKind.wrap_u64]; omega
  clear hx
  go_enter Tryz.func36, Tryz.ntmps36
  go_wp2_with fail
  refine (small_D x _ (by have := HX.out; omega)).mono ?_
  rintro e w2 ⟨v2, rfl, hv2, _, hbel2⟩
  obtain ⟨A2, c2, rfl⟩ := hv2.shape
  have HV2 := Lib.hid hv2
  have HB2 := Lib.hid hbel2
  have hs2 := hbel2.size
  clear hv2 hbel2
  go_wp2_with fail
  refine (near_any true false _ x 0 _ (by have := nd_64 (x := x) (by have := HX.out; omega); omega) (by omega) (by omega) HV2.out).mono ?_
  rintro e w3 ⟨rfl, hbel3⟩
  have HB3 := Lib.hid hbel3
  clear hbel3
  go_wp2_with fail
  go_ret
  refine ⟨?_, HB2.out.trans (HB3.out.mono hs2)⟩
  rw [HE.out, Int.natAbs_neg, Int.natAbs_natCast, d1]
  rfl

theorem rint_any (n : Int) (h1 : -9223372036854775808 ≤ n) (h2 : n ≤ 9223372036854775807) (w : World) : Calls Tryz.prog 36 #[.int .i64 n] w (RetU w (ofI n)) := by
  rcases Int.lt_or_le n 0 with h | h
  · obtain ⟨x, rfl⟩ : ∃ x : Nat, n = -(x : Int) := ⟨n.natAbs, by omega⟩
    exact rint_neg x (by omega) (by omega) w
  · obtain ⟨x, rfl⟩ : ∃ x : Nat, n = (x : Int) := ⟨n.toNat, by omega⟩
    exact rint_pos x (by omega) w
end Go.Proofs.YtceoapkkmgllaaaGreatDoor
