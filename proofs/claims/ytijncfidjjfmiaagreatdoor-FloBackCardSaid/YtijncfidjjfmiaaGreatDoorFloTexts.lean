/- The law FloTexts: the program writes every real as the reference does. -/
import Derived.Test.YtijncfidjjfmiaaGreatDoorFloTxtV
namespace Go.Proofs.YtijncfidjjfmiaaGreatDoor
open Go.RowKit FloM

/-- What every law returns. -/
def LawPost (w : World) (e : Ending) (w' : World) : Prop := e = .returned (.bool true) ∧ Below w.heap.size w w'

set_option maxRecDepth 100000 in
set_option maxHeartbeats 1000000 in
theorem law_texts (u : Nat) (hu : u < 2 ^ 64) (w : World) (ht : Env w) :
    Calls Tryz.prog 3 #[.int .u64 u] w (LawPost w) := by
  have H1 := Lib.hid (fun w ht => text_any u hu w ht)
  have H2 := Lib.hid (fun w => rtext_any u hu w)
  have H3 := Lib.hid (fun w ht => awake_true w ht)
  have HT := Lib.hid ht
  clear hu ht
  generalize txtU u = T at *
  go_enter Tryz.func3, Tryz.ntmps3
  go_wp2_with (first
    | (go_at_call 7; refine (of_any _ _).mono ?_; rintro e w' ⟨rfl, rfl⟩)
    | (go_at_call 6; refine (H1.out _ HT.out).mono ?_; rintro e w1 ⟨rfl, hb1⟩; have HB1 := Lib.hid hb1; have HT1 := Lib.hid (HT.out.below hb1 (Nat.le_refl _)); clear hb1)
    | (go_at_call 8; refine (H2.out _).mono ?_; rintro e w2 ⟨rfl, hb2⟩; have HB2 := Lib.hid (HB1.out.trans (hb2.mono HB1.out.size)); have HT2 := Lib.hid (HT1.out.below hb2 (Nat.le_refl _)); clear hb2)
    | (go_at_call 9; refine (H3.out _ HT2.out).mono ?_; rintro e w3 ⟨rfl, hb3⟩; have HB3 := Lib.hid (HB2.out.trans (hb3.mono HB2.out.size)); clear hb3))
  go_ret
  exact ⟨rfl, HB3.out⟩
end Go.Proofs.YtijncfidjjfmiaaGreatDoor
