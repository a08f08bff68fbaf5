/- Close: two equal numbers are sorted; a number that is none of them. -/
import Derived.Test.YtjhdlnllhjffkaaGreatDoorCloMe
import Derived.Test.YtjhdlnllhjffkaaGreatDoorCpsD
import Derived.Test.YtjhdlnllhjffkaaGreatDoorCloUn
namespace Go.Proofs.YtjhdlnllhjffkaaGreatDoor
open Go.RowKit LamM CpsM CloM

theorem less_same (w : World) : Calls Tryz.prog 84 #[.int .i64 0, .int .i64 0] w fun e w' => e = .returned (.bool false) ∧ w = w' :=
  less_any 0 0 w
set_option maxRecDepth 100000 in
set_option maxHeartbeats 4000000 in
theorem isort_two (g c : Nat) (w : World) (h0 : w.cell? ⟨g, 0, none⟩ = some (.int .i64 0)) (h1 : w.cell? ⟨g, 1, none⟩ = some (.int .i64 0)) :
    Calls Tryz.prog 214 #[.slice (some ⟨g, 0, none⟩) 2 c, .int .i64 0, .int .i64 2] w fun e w' => e = .returned (.tuple #[]) ∧ Only [] w w' := by
  have HL := Lib.hid (fun n => less_same (w.drewN n))
  go_enter Tryz.func214, Tryz.ntmps214
  go_wp2_with fail
  refine wp_loop_rounds 2 ?_
  rw [rounds_succ]
  go_wp2_with fail
  refine wp_loop_rounds 1 ?_
  rw [rounds_succ]
  go_upto_region 4 with fail
  go_quiet (first | (go_at_call 84; exact Calls.quiet_of_same ((HL.out _).mono fun _ _ hh => ⟨hh.1, hh.2.symm⟩)))
  go_wp2_with fail
  rw [rounds_succ]
  go_wp2_with fail
  go_end0
  exact ⟨rfl, (Only.refl _ _).drewN _⟩
set_option maxRecDepth 100000 in
set_option maxHeartbeats 4000000 in
theorem len64_two (w : World) : Calls Tryz.prog 223 #[.int .u64 2] w fun e w' => e = .returned (.int .i64 2) ∧ w = w' := by
  go_enter Tryz.func223, Tryz.ntmps223
  go_wp2_with fail
  go_ret
  exact ⟨by kernel_rfl, rfl⟩
theorem len_two (w : World) : Calls Tryz.prog 138 #[.int .u64 2] w fun e w' => e = .returned (.int .i64 2) ∧ w = w' := by
  have H := Lib.hid (fun w => len64_two w)
  go_enter Tryz.func138, Tryz.ntmps138
  go_wp2_with (go_at_call 223; ((with_reducible refine (H.out _).mono ?_); rintro e w' ⟨rfl, rfl⟩))
  go_ret
  exact ⟨rfl, rfl⟩
set_option maxRecDepth 100000 in
set_option maxHeartbeats 4000000 in
theorem pdq_two (g c : Nat) (w : World) (h0 : w.cell? ⟨g, 0, none⟩ = some (.int .i64 0)) (h1 : w.cell? ⟨g, 1, none⟩ = some (.int .i64 0)) :
    Calls Tryz.prog 137 #[.slice (some ⟨g, 0, none⟩) 2 c, .int .i64 0, .int .i64 2, .int .i64 2] w fun e w' => e = .returned (.tuple #[]) ∧ Only [] w w' := by
  have HI := Lib.hid (isort_two g c w h0 h1)
  clear h0 h1
  go_enter Tryz.func137, Tryz.ntmps137
  go_wp2_with fail
  refine wp_loop_rounds 1 ?_
  rw [rounds_succ]
  go_wp2_with (go_at_call 214; ((with_reducible refine (HI.out).mono ?_); rintro e w' ⟨rfl, ho⟩; have HO := Lib.hid ho; clear ho))
  exact bodyPost_ret (v := .tuple #[]) (by simp [results, Tryz.results137, go_sem]) rfl ⟨rfl, HO.out⟩
set_option maxRecDepth 100000 in
set_option maxHeartbeats 4000000 in
theorem sort_two (g c : Nat) (w : World) (h0 : w.cell? ⟨g, 0, none⟩ = some (.int .i64 0)) (h1 : w.cell? ⟨g, 1, none⟩ = some (.int .i64 0)) :
    Calls Tryz.prog 76 #[.slice (some ⟨g, 0, none⟩) 2 c] w fun e w' => e = .returned (.tuple #[]) ∧ Only [] w w' := by
  have HP := Lib.hid (pdq_two g c w h0 h1)
  have HL := Lib.hid (fun w => len_two w)
  clear h0 h1
  go_enter Tryz.func76, Tryz.ntmps76
  go_wp2_with (first
    | (go_at_call 138; ((with_reducible refine (HL.out _).mono ?_); rintro e w' ⟨rfl, rfl⟩))
    | (go_at_call 137; ((with_reducible refine (HP.out).mono ?_); rintro e w' ⟨rfl, ho⟩; have HO := Lib.hid ho; clear ho)))
  go_end0
  exact ⟨rfl, HO.out⟩
set_option maxRecDepth 100000 in
set_option maxHeartbeats 4000000 in
theorem unused_two (g c : Nat) (w : World) (h0 : w.cell? ⟨g, 0, none⟩ = some (.int .i64 0)) (h1 : w.cell? ⟨g, 1, none⟩ = some (.int .i64 0)) :
    Calls Tryz.prog 50 #[.slice (some ⟨g, 0, none⟩) 2 c] w fun e w' => e = .returned (.int .i64 1) ∧ Only [] w w' := by
  have HS := Lib.hid (sort_two g c w h0 h1)
  have H0 := Lib.hid h0
  have H1 := Lib.hid h1
  clear h0 h1
  go_enter Tryz.func50, Tryz.ntmps50
  go_wp2_with (go_at_call 76; ((with_reducible refine (HS.out).mono ?_); rintro e w' ⟨rfl, ho⟩; have HO := Lib.hid ho; have c0 : w'.cell? ⟨g, 0, none⟩ = some (.int .i64 0) := only_cell ho (by simp) H0.out; have c1 : w'.cell? ⟨g, 1, none⟩ = some (.int .i64 0) := only_cell ho (by simp) H1.out; clear ho))
  refine wp_loop_rounds 3 ?_
  rw [rounds_succ]
  go_wp2_with fail
  rw [rounds_succ]
  go_wp2_with fail
  rw [rounds_succ]
  go_wp2_with fail
  go_ret
  exact ⟨rfl, HO.out⟩
end Go.Proofs.YtjhdlnllhjffkaaGreatDoor
