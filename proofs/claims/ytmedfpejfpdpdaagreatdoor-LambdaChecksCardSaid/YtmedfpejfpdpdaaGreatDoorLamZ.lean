/- Lambda: the table is made: orders, more, table. -/
import Derived.Test.YtmedfpejfpdpdaaGreatDoorLamY
namespace Go.Proofs.YtmedfpejfpdpdaaGreatDoor
open Go.RowKit LamM Go.Maps

theorem grown_refl (w : World) (r : Option Nat) : w.grownBy w r := ⟨rfl, rfl, rfl, Nat.le_refl _, fun _ _ _ => rfl⟩
theorem bytes_cons (c : UInt8) (s : List UInt8) : ByteArray.mk #[c] ++ ByteArray.mk s.toArray = ByteArray.mk (c :: s).toArray := by
  apply ByteArray.ext
  simp
/-- What a filler of the map does. -/
def Fills (w : World) (B n : Nat) (x : Option Value) (e : Ending) (w' : World) : Prop := e = .returned (.tuple #[]) ∧ Tab w' B n x ∧ w.grownBy w' (some B)
set_option maxRecDepth 100000 in
set_option maxHeartbeats 2000000 in
theorem orders_any (nm : List UInt8) (ra : Option Addr) (rn rc : Nat) (B n : Nat) (x : Option Value) (w : World) (hT : Tab w B n x) (hn : n < 900) (hl : nm.length ≤ 10) (hp : nm ≠ [112, 114, 105, 110, 116]) :
    Calls Tryz.prog 110 #[.map (some B), .string ⟨nm.toArray⟩, .slice ra rn rc] w (Fills w B (n + 1 + 1 + 1) x) := by
  have hmf := mk_func
  have e1 := bytes_cons 114 nm
  have e2 := bytes_cons 115 nm
  have HT := Lib.hid (hT.alloc (.cells #[.slice ra rn rc] 25))
  have HG := Lib.hid (World.grownBy_alloc w (.cells #[.slice ra rn rc] 25) (some B))
  clear hT
  go_enter Tryz.func110, Tryz.ntmps110
  go_wp2_with (refine wpList_tab _ rfl _ _ _ (.inr rfl) B n x rfl HT.out (by omega) nm (by omega) rfl _ _ _ rfl ?_)
  intro w1 ht1 hg1
  have HT1 := Lib.hid ht1
  have HG1 := Lib.hid (World.grownBy.trans HG.out hg1)
  clear ht1 hg1
  go_wp2_with (refine wpList_tab _ rfl _ _ _ (.inr rfl) B (n + 1) x rfl HT1.out (by omega) (114 :: nm) (by simp; omega) rfl _ _ _ rfl ?_)
  intro w2 ht2 hg2
  have HT2 := Lib.hid ht2
  have HG2 := Lib.hid (World.grownBy.trans HG1.out hg2)
  clear ht2 hg2
  go_wp2_with (refine wpList_tab _ rfl _ _ _ (.inr rfl) B (n + 1 + 1) x rfl HT2.out (by omega) (115 :: nm) (by simp; omega) rfl _ _ _ rfl ?_)
  intro w3 ht3 hg3
  have HT3 := Lib.hid ht3
  have HG3 := Lib.hid (World.grownBy.trans HG2.out hg3)
  clear ht3 hg3
  go_wp2_with fail
  go_end0
  exact ⟨rfl, HT3.out, HG3.out⟩

set_option maxRecDepth 100000 in
set_option maxHeartbeats 4000000 in
theorem more_any (B n : Nat) (x : Option Value) (w : World) (hT : Tab w B n x) (hn : n < 900) :
    Calls Tryz.prog 111 #[.map (some B)] w (Fills w B (n + 19) (some (.func (.func 170) #[] #[]))) := by
  have HT0 := Lib.hid hT
  have HG0 := Lib.hid (grown_refl w (some B))
  clear hT
  go_enter Tryz.func111, Tryz.ntmps111
  go_wp2_with (refine wpList_tab _ rfl _ _ _ (.inr rfl) B (n + 0) _ rfl HT0.out (by omega) _ (by decide) rfl _ _ _ rfl ?_)
  intro w1 ht hg
  have HT1 := Lib.hid ht
  have HG1 := Lib.hid (World.grownBy.trans HG0.out hg)
  clear ht hg HT0 HG0
  go_wp2_with (refine wpList_tab _ rfl _ _ _ (.inr rfl) B (n + 1) _ rfl HT1.out (by omega) _ (by decide) rfl _ _ _ rfl ?_)
  intro w2 ht hg
  have HT2 := Lib.hid ht
  have HG2 := Lib.hid (World.grownBy.trans HG1.out hg)
  clear ht hg HT1 HG1
  go_wp2_with (refine wpList_tab _ rfl _ _ _ (.inr rfl) B (n + 2) _ rfl HT2.out (by omega) _ (by decide) rfl _ _ _ rfl ?_)
  intro w3 ht hg
  have HT3 := Lib.hid ht
  have HG3 := Lib.hid (World.grownBy.trans HG2.out hg)
  clear ht hg HT2 HG2
  go_wp2_with (refine wpList_tab _ rfl _ _ _ (.inr rfl) B (n + 3) _ rfl HT3.out (by omega) _ (by decide) rfl _ _ _ rfl ?_)
  intro w4 ht hg
  have HT4 := Lib.hid ht
  have HG4 := Lib.hid (World.grownBy.trans HG3.out hg)
  clear ht hg HT3 HG3
  go_wp2_with (refine wpList_tab _ rfl _ _ _ (.inr rfl) B (n + 4) _ rfl HT4.out (by omega) _ (by decide) rfl _ _ _ rfl ?_)
  intro w5 ht hg
  have HT5 := Lib.hid ht
  have HG5 := Lib.hid (World.grownBy.trans HG4.out hg)
  clear ht hg HT4 HG4
  go_wp2_with (refine wpList_tab _ rfl _ _ _ (.inr rfl) B (n + 5) _ rfl HT5.out (by omega) _ (by decide) rfl _ _ _ rfl ?_)
  intro w6 ht hg
  have HT6 := Lib.hid ht
  have HG6 := Lib.hid (World.grownBy.trans HG5.out hg)
  clear ht hg HT5 HG5
  go_wp2_with (refine wpList_tab _ rfl _ _ _ (.inr rfl) B (n + 6) _ rfl HT6.out (by omega) _ (by decide) rfl _ _ _ rfl ?_)
  intro w7 ht hg
  have HT7 := Lib.hid ht
  have HG7 := Lib.hid (World.grownBy.trans HG6.out hg)
  clear ht hg HT6 HG6
  go_wp2_with (refine wpList_tab _ rfl _ _ _ (.inr rfl) B (n + 7) _ rfl HT7.out (by omega) _ (by decide) rfl _ _ _ rfl ?_)
  intro w8 ht hg
  have HT8 := Lib.hid ht
  have HG8 := Lib.hid (World.grownBy.trans HG7.out hg)
  clear ht hg HT7 HG7
  go_wp2_with (refine wpList_tab _ rfl _ _ _ (.inr rfl) B (n + 8) _ rfl HT8.out (by omega) _ (by decide) rfl _ _ _ rfl ?_)
  intro w9 ht hg
  have HT9 := Lib.hid ht
  have HG9 := Lib.hid (World.grownBy.trans HG8.out hg)
  clear ht hg HT8 HG8
  go_wp2_with (refine wpList_tab _ rfl _ _ _ (.inr rfl) B (n + 9) _ rfl HT9.out (by omega) _ (by decide) rfl _ _ _ rfl ?_)
  intro w10 ht hg
  have HT10 := Lib.hid ht
  have HG10 := Lib.hid (World.grownBy.trans HG9.out hg)
  clear ht hg HT9 HG9
  go_wp2_with (refine wpList_tab _ rfl _ _ _ (.inr rfl) B (n + 10) _ rfl HT10.out (by omega) _ (by decide) rfl _ _ _ rfl ?_)
  intro w11 ht hg
  have HT11 := Lib.hid ht
  have HG11 := Lib.hid (World.grownBy.trans HG10.out hg)
  clear ht hg HT10 HG10
  go_wp2_with (refine wpList_tab _ rfl _ _ _ (.inr rfl) B (n + 11) _ rfl HT11.out (by omega) _ (by decide) rfl _ _ _ rfl ?_)
  intro w12 ht hg
  have HT12 := Lib.hid ht
  have HG12 := Lib.hid (World.grownBy.trans HG11.out hg)
  clear ht hg HT11 HG11
  go_wp2_with (refine wpList_tab _ rfl _ _ _ (.inr rfl) B (n + 12) _ rfl HT12.out (by omega) _ (by decide) rfl _ _ _ rfl ?_)
  intro w13 ht hg
  have HT13 := Lib.hid ht
  have HG13 := Lib.hid (World.grownBy.trans HG12.out hg)
  clear ht hg HT12 HG12
  go_wp2_with (refine wpList_tab _ rfl _ _ _ (.inr rfl) B (n + 13) _ rfl HT13.out (by omega) _ (by decide) rfl _ _ _ rfl ?_)
  intro w14 ht hg
  have HT14 := Lib.hid ht
  have HG14 := Lib.hid (World.grownBy.trans HG13.out hg)
  clear ht hg HT13 HG13
  go_wp2_with (refine wpList_tab _ rfl _ _ _ (.inr rfl) B (n + 14) _ rfl HT14.out (by omega) _ (by decide) rfl _ _ _ rfl ?_)
  intro w15 ht hg
  have HT15 := Lib.hid ht
  have HG15 := Lib.hid (World.grownBy.trans HG14.out hg)
  clear ht hg HT14 HG14
  go_wp2_with (refine wpList_tab _ rfl _ _ _ (.inr rfl) B (n + 15) _ rfl HT15.out (by omega) _ (by decide) rfl _ _ _ rfl ?_)
  intro w16 ht hg
  have HT16 := Lib.hid ht
  have HG16 := Lib.hid (World.grownBy.trans HG15.out hg)
  clear ht hg HT15 HG15
  go_wp2_with (refine wpList_tab _ rfl _ _ _ (.inr rfl) B (n + 16) _ rfl HT16.out (by omega) _ (by decide) rfl _ _ _ rfl ?_)
  intro w17 ht hg
  have HT17 := Lib.hid ht
  have HG17 := Lib.hid (World.grownBy.trans HG16.out hg)
  clear ht hg HT16 HG16
  go_wp2_with (refine wpList_tab _ rfl _ _ _ (.inr rfl) B (n + 17) _ rfl HT17.out (by omega) _ (by decide) rfl _ _ _ rfl ?_)
  intro w18 ht hg
  have HT18 := Lib.hid ht
  have HG18 := Lib.hid (World.grownBy.trans HG17.out hg)
  clear ht hg HT17 HG17
  go_wp2_with (refine wpList_tab _ rfl _ _ _ (.inr rfl) B (n + 18) _ rfl HT18.out (by omega) _ (by decide) rfl _ _ _ rfl ?_)
  intro w19 ht hg
  have HT19 := Lib.hid ht
  have HG19 := Lib.hid (World.grownBy.trans HG18.out hg)
  clear ht hg HT18 HG18
  go_wp2_with fail
  go_end0
  exact ⟨rfl, HT19.out, HG19.out⟩

/-- What table hands back. -/
def TabPost (w : World) (e : Ending) (w' : World) : Prop := ∃ B, e = .returned (.map (some B)) ∧ w.heap.size ≤ B ∧ Tab w' B 100 (some (.func (.func 170) #[] #[])) ∧ Below w.heap.size w w'
theorem grown_below {w w' : World} {B : Nat} {a : World} (h : Below B a w) (hg : w.grownBy w' (some B)) (hB : B ≤ w.heap.size) : Below B a w' := h.grown hg hB (fun k hk => by rw [← Option.some.inj hk]; exact Nat.le_refl _)
set_option maxRecDepth 100000 in
set_option maxHeartbeats 8000000 in
theorem table_any (w : World) : Calls Tryz.prog 53 #[] w (TabPost w) := by
  have hmm := @run_makeMap Tryz.prog
  have HT := Lib.hid (Tab.made w)
  have HB := Lib.hid ((Below.refl w.heap.size w).alloc (Nat.le_refl _) (.map #[] 0))
  unfold TabPost
  go_enter Tryz.func53, Tryz.ntmps53
  go_wp2_with (first
    | (go_at_call 67; ((with_reducible refine (ints_any _ _ _ _).mono ?_); rintro e w' ⟨f, a, b, rfl, hb⟩; have HB := Lib.hid (HB.out.trans (hb.mono (Nat.le_of_lt HT.out.lt))); have HT := Lib.hid (HT.out.below hb); clear hb))
    | (go_at_call 82; ((with_reducible refine (floats_any _ _ _ _).mono ?_); rintro e w' ⟨f, a, b, rfl, hb⟩; have HB := Lib.hid (HB.out.trans (hb.mono (Nat.le_of_lt HT.out.lt))); have HT := Lib.hid (HT.out.below hb); clear hb))
    | (go_at_call 98; ((with_reducible refine (rounds_any _ _ _ _).mono ?_); rintro e w' ⟨f, a, b, rfl, hb⟩; have HB := Lib.hid (HB.out.trans (hb.mono (Nat.le_of_lt HT.out.lt))); have HT := Lib.hid (HT.out.below hb); clear hb))
    | (go_at_call 110; ((with_reducible refine (orders_any _ _ _ _ _ _ _ _ (HT.out.alloc _) (by omega) (by decide) (by decide)).mono ?_); rintro e w' ⟨rfl, ht, hg⟩; have HB := Lib.hid (grown_below (HB.out.alloc (Nat.le_of_lt HT.out.lt) _) hg (by simp; exact Nat.le_of_lt (Nat.lt_succ_of_lt HT.out.lt))); have HT := Lib.hid ht; clear ht hg))
    | (go_at_call 111; ((with_reducible refine (more_any _ _ _ _ HT.out (by omega)).mono ?_); rintro e w' ⟨rfl, ht, hg⟩; have HB := Lib.hid (grown_below HB.out hg (Nat.le_of_lt HT.out.lt)); have HT := Lib.hid ht; clear ht hg))
    | (refine wpList_tab _ rfl _ _ _ (.inl rfl) w.heap.size _ _ rfl HT.out (by omega) _ (by decide) rfl _ _ _ rfl ?_; intro w1 ht hg; have HB := Lib.hid (grown_below HB.out hg (Nat.le_of_lt HT.out.lt)); have HT := Lib.hid ht; clear ht hg))
  go_ret
  exact ⟨_, rfl, Nat.le_refl _, HT.out.mono (by decide), HB.out⟩

end Go.Proofs.YtmedfpejfpdpdaaGreatDoor
