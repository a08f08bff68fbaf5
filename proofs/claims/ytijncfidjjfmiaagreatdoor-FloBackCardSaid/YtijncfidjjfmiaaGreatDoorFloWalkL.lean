/- Walks: FormatFloat(x, 'e', -1, 64) at a positive normal real. -/
import Derived.Test.YtijncfidjjfmiaaGreatDoorFloWalkK
import Derived.Laws.IdiomStrings
import Derived.Laws.MakeOwn
import Derived.Lib.BufferRead
namespace Go.Proofs.YtijncfidjjfmiaaGreatDoor
open Go.RowKit FloM

theorem madeZ : (madeCells #[Value.int .u8 0] 24).size = 24 := by simp [madeCells]
def Z24 : Array Value := madeCells #[Value.int .u8 0] 24

theorem make24 (w : World) : (Instr.makeSlice 67 (Value.int .i64 0) (Value.int .i64 (max 3 24))).run Tryz.prog w = .ok (.slice (some ⟨w.heap.size, 0, none⟩) 0 24) (w.alloc (.cells Z24 5)) := by
  obtain ⟨i0, hi0, hz0, hz1, hz2⟩ := info_parts u8_info
  rw [show (max 3 24 : Int) = 24 by decide]
  have h := run_make (P := Tryz.prog) w 67 5 i0 _ Tryz.underlying67 hi0 hz0 .i64 .i64 0 24 (by decide) (by decide) (by rw [hz2]; decide) (by decide)
  rw [hz1] at h
  exact h

theorem Buf.new (w : World) : Buf w.heap.size w (w.alloc (.cells Z24 5)) (.slice (some ⟨w.heap.size, 0, none⟩) 0 24) [] := by
  refine ⟨⟨rfl, .inr ⟨w.heap.size, 24, Z24, rfl, Nat.le_refl _, heap_alloc_new w _, by decide, by decide, madeZ, rfl⟩⟩, (Below.refl _ _).alloc (Nat.le_refl _) _, by simp⟩

theorem Buf.string {B0 : Nat} {w0 W : World} {v : Value} {xs : List UInt8} (h : Buf B0 w0 W v xs) :
    (convert 67 9 v).run Tryz.prog W = .ok (.string ⟨xs.toArray⟩) W := by
  rcases h.1.2 with ⟨rfl, h0⟩ | ⟨g, cap, cur, rfl, _, hh, _⟩
  · have : xs = [] := List.eq_nil_of_length_eq_zero h0
    subst this
    exact Lib.run_convert_nil_bytes W 67 9 5 0 Tryz.underlying67 Tryz.underlying5 Tryz.underlying9
  · refine run_convert_bytes_back W 67 9 5 ⟨g, 0, none⟩ cap xs Tryz.underlying67 Tryz.underlying5 Tryz.underlying9 (fun j hj => ?_)
    refine h.1.cells (g := g) rfl j _ ?_
    rw [List.getElem?_map, List.getElem?_eq_getElem hj]
    rfl

def LPost (w : World) (X : List UInt8) (e : Ending) (w' : World) : Prop := e = .returned (.string ⟨X.toArray⟩) ∧ Below w.heap.size w w'

set_option maxRecDepth 100000 in
set_option maxHeartbeats 800000 in
theorem fmt_norm (u : Nat) (w : World) (hu : u < 9218868437227405312) (ex fr : Nat) (hex : u = ex * 4503599627370496 + fr) (hfr : fr < 4503599627370496) (h1 : 1 ≤ ex) (hx2 : ex ≤ 2046) (ht : Env w)
    (hgood : Good (shortBits u)) :
    Calls Tryz.prog 38 #[.float .f64 u, .int .u8 101, .int .i64 (-1), .int .i64 64] w (LPost w (eOfQ (shortBits u))) := by
  have HC := Lib.hid (fun B0 w0 v w hbuf ht => ftoa_norm B0 w0 v u w hbuf hu ex fr hex hfr h1 hx2 ht hgood)
  have HT := Lib.hid ht
  clear hex hfr h1 hx2 hgood hu ht
  generalize eOfQ (shortBits u) = X at *
  have hmk := make24
  go_enter Tryz.func38, Tryz.ntmps38
  go_wp2_with fail
  refine (HC.out w.heap.size w _ _ (Buf.new w) (HT.out.alloc _)).mono ?_
  rintro e w3 ⟨v', rfl, hb'⟩
  have hst := hb'.string
  have HB := Lib.hid hb'
  clear hb'
  go_wp2
  go_ret
  exact ⟨rfl, HB.out.2.1⟩

set_option maxRecDepth 100000 in
set_option maxHeartbeats 800000 in
theorem fmtS_norm (u : Nat) (w : World) (hu : u < 9218868437227405312) (ex fr : Nat) (hex : u = ex * 4503599627370496 + fr) (hfr : fr < 4503599627370496) (h1 : 1 ≤ ex) (hx2 : ex ≤ 2046) (ht : Env w)
    (hgood : Good (shortBits u)) :
    Calls Tryz.prog 17 #[.float .f64 u, .int .u8 101, .int .i64 (-1), .int .i64 64] w (LPost w (eOfQ (shortBits u))) := by
  have HC := Lib.hid (fmt_norm u w hu ex fr hex hfr h1 hx2 ht hgood)
  clear hex hfr h1 hx2 hgood hu ht
  generalize eOfQ (shortBits u) = X at *
  go_enter Tryz.func17, Tryz.ntmps17
  go_wp2_with fail
  refine HC.out.mono ?_
  rintro e w3 ⟨rfl, hb'⟩
  have HB := Lib.hid hb'
  clear hb'
  go_wp2
  go_ret
  exact ⟨rfl, HB.out⟩
end Go.Proofs.YtijncfidjjfmiaaGreatDoor
