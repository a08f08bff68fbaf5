/- Walk of the library's decimal.set. -/
import Derived.Test.YtijncfidjjfmiaaGreatDoorFloSlowI
import Derived.Test.YtijncfidjjfmiaaGreatDoorFloParB
import Derived.Deep.RegionWith
import Derived.Deep.RegionHeld3
namespace Go.Proofs.YtijncfidjjfmiaaGreatDoor
open Go.RowKit FloM

theorem dcell_neg (g : Nat → Nat) (nd : Nat) (dp : Int) (tr : Bool) : (dcell g nd dp tr).setIfInBounds 802 (.bool false) = dcell g nd dp tr := by
  apply Array.ext_getElem?
  intro j
  rw [Array.getElem?_setIfInBounds]
  by_cases hj : 802 = j
  · subst hj
    rw [if_pos rfl, if_pos (by rw [dcell_size]; omega)]
    exact (dcell_hi g nd dp tr 2).symm
  · rw [if_neg hj]
theorem Dc.setNeg {w : World} {b : Nat} {g : Nat → Nat} {nd : Nat} {dp : Int} {tr : Bool} (h : Dc w b g nd dp tr) : Dc (w.setCell ⟨b, 802, none⟩ (.bool false)) b g nd dp tr := by
  have := Blk.set_ h 802 (.bool false)
  rw [dcell_neg] at this
  exact this
/-- Is a digit behind the eight hundredth no nought? -/
def trE (d : List UInt8) (j : Nat) : Bool := ((d.take j).drop 800).any (fun c => c != 48)
theorem trE_lo {d : List UInt8} {j : Nat} (h : j ≤ 800) : trE d j = false := by
  unfold trE
  rw [List.drop_eq_nil_of_le (by rw [List.length_take]; omega)]; rfl
theorem trE_step {d : List UInt8} {j : Nat} {c : UInt8} (h : d[j]? = some c) (hj : 800 ≤ j) : trE d (j + 1) = (trE d j || (c != 48)) := by
  have hl : j < d.length := (List.getElem?_eq_some_iff.1 h).1
  unfold trE
  rw [List.take_add_one, h, List.drop_append_of_le_length (by rw [List.length_take]; omega), List.any_append]
  simp
/-- What set leaves. -/
def SetPost (d : List UInt8) (z : Int) (b : Nat) (w : World) (e : Ending) (w' : World) : Prop :=
  e = .returned (.bool true) ∧ ∃ g : Nat → Nat, Dc w' b g (min d.length 800) z (trE d d.length) ∧ (∀ i, i < min d.length 800 → g i = sb d i) ∧ w.grownBy w' (some b)
/-- Where the loop over the digits stands. -/
def StS (d : List UInt8) (b : Nat) (k : Nat) (sd sg : Value) (wr : World) : Prop :=
  (k = 0 ∧ sd = .bool false ∧ sg = .bool false ∧ Dc wr b (fun _ => 0) 0 0 false) ∨
  (k = 1 ∧ sd = .bool false ∧ sg = .bool true ∧ Dc wr b (fun _ => 0) 0 (-1) false) ∨
  (∃ (j : Nat) (g : Nat → Nat), k = 2 + j ∧ sd = .bool true ∧ sg = .bool true ∧ Dc wr b g (min j 800) 0 (trE d j) ∧ (∀ i, i < min j 800 → g i = sb d i))

set_option maxRecDepth 100000 in
set_option maxHeartbeats 4000000 in
theorem dset_any (S : ByteArray) (s d X : List UInt8) (L n x : Nat) (ng : Bool)
    (G : Hid (∀ (k : Nat) (c : UInt8), s[k]? = some c → ∀ hk : k < S.size, S[k]'hk = c)) (hL : S.size = L) (hLe : L = 3 + n + ng.toNat + x)
    (hn : n = d.length) (h0 : 0 < n) (hn5 : n ≤ 9000) (hd : Digs d) (hz : d[0]? ≠ some 48) (hx : x = X.length) (hx0 : 0 < x) (hx4 : x ≤ 4) (hX : Digs X)
    (l0 : s[0]? = some 48) (l1 : s[1]? = some 46) (ld : ∀ (j : Nat) (c : UInt8), d[j]? = some c → s[2 + j]? = some c) (le : s[2 + n]? = some 101)
    (lm : ng = true → s[2 + n + 1]? = some 45) (lx : ∀ (j : Nat) (c : UInt8), X[j]? = some c → s[2 + n + 1 + ng.toNat + j]? = some c) (z : Int) (HzQ : Hid (z = if ng then -(numD X : Int) else numD X)) (b : Nat) (w : World) (hDc : Dc w b (fun _ => 0) 0 0 false) :
    Calls Tryz.prog 176 #[.pointer (some ⟨b, 0, none⟩), .string S] w (SetPost d z b w) := by
  have hL5 : 4 ≤ L ∧ L ≤ 9010 := by cases ng <;> simp at hLe <;> omega
  have z0 : 0 < S.size := by omega
  have z1 : 1 < S.size := by omega
  have g0 := G 0 48 l0 z0
  have g1 := G 1 46 l1 z1
  have HLE := Lib.hid hLe
  have HN := Lib.hid hn
  have HX := Lib.hid hx
  have HD := Lib.hid hd
  have HZ := Lib.hid hz
  have HLD := Lib.hid ld
  have HL2 := Lib.hid le
  have HLM := Lib.hid lm
  have HLX := Lib.hid lx
  have HXX := Lib.hid hX
  have hn2 : 2 + n < L := by omega
  have hLz : ¬ L = 0 := by omega
  have c2 := hDc.neg_
  have c3 := hDc.tr_
  have f2 := hDc.free 802
  have f3 := hDc.free 803
  have HD0 := Lib.hid (hDc.setNeg.setTr false)
  have HG0 := Lib.hid (only_setCell (only_setCell (World.grownBy.refl w (some b)) (p := ⟨b, 802, none⟩) (.inl rfl) (.bool false)) (p := ⟨b, 803, none⟩) (.inl rfl) (.bool false))
  clear hLe hn hx hd hz ld le hX l0 l1 lm lx hDc
  go_enter Tryz.func176, Tryz.ntmps176
  go_wp2_with fail
  generalize (w.setCell ⟨b, 802, none⟩ (.bool false)).setCell ⟨b, 803, none⟩ (.bool false) = w1 at *
  go_loopg [5, 6, 7] (2 + n) (fun gk iv sd sg wr => ∃ k : Nat, k + gk = 2 + n ∧ iv = .int .i64 k ∧ Hid (StS d b k sd sg wr) ∧ Hid (w.grownBy wr (some b)))
  case atStart => exact ⟨0, by omega, rfl, Lib.hid (.inl ⟨rfl, rfl, rfl, HD0.out⟩), HG0⟩
  case round =>
    clear HD0 HG0 f2 f3 c2 c3
    obtain ⟨k, hk, rfl, hst, HG⟩ := hrel
    rcases hst.out with ⟨rfl, rfl, rfl, hdc⟩ | ⟨rfl, rfl, rfl, hdc⟩ | ⟨j, g, rfl, rfl, rfl, hdc, hg⟩
    · clear hst
      have c0 := hdc.nd_
      have c1 := hdc.dp_
      have f1 := hdc.free 801
      have HDc := Lib.hid hdc
      clear hdc
      go_wp2_with fail
      go_roundg (gk - 1)
      case rel => exact ⟨1, by omega, rfl, Lib.hid (.inr (.inl ⟨rfl, rfl, rfl, HDc.out.setDp (-1)⟩)), only_setCell HG.out (.inl rfl) _⟩
      case measure => omega
    · clear hst
      have c0 := hdc.nd_
      have c1 := hdc.dp_
      have f1 := hdc.free 801
      have HDc := Lib.hid hdc
      clear hdc
      go_wp2_with fail
      go_roundg (gk - 1)
      case rel => exact ⟨2, by omega, rfl, Lib.hid (.inr (.inr ⟨0, fun _ => 0, rfl, rfl, rfl, by rw [trE_lo (Nat.zero_le _)]; exact HDc.out.setDp 0, fun i hi => absurd hi (by omega)⟩)), only_setCell HG.out (.inl rfl) _⟩
      case measure => omega
    · clear hst
      have HDc := Lib.hid hdc
      have HGD := Lib.hid hg
      clear hdc hg
      by_cases hj : j < n
      · obtain ⟨c, hc⟩ : ∃ c, d[j]? = some c := ⟨d[j]'(by have := HN.out; omega), List.getElem?_eq_getElem _⟩
        obtain ⟨d1, d2⟩ := HD.out c (List.mem_of_getElem? hc)
        have hc0 : c = 48 → j ≠ 0 := fun h1 h2 => HZ.out (by rw [← h2, hc, h1])
        have hK2 : 2 + j < S.size := by omega
        have g2 := G (2 + j) c (HLD.out j c hc) hK2
        have hKL : 2 + j < L := by omega
        have q95 : ((c.toNat : Int) == 95) = false := b_false (by omega)
        have q46 : ((c.toNat : Int) == 46) = false := b_false (by omega)
        have HC := Lib.hid hc
        by_cases hj8 : j < 800
        · have HDc2 := Lib.hid (show Dc wr b g j 0 false by have := HDc.out; rw [Nat.min_eq_left (by omega), trE_lo (by omega)] at this; exact this)
          have HGD2 := Lib.hid (show ∀ i, i < j → g i = sb d i by have := HGD.out; rw [Nat.min_eq_left (by omega)] at this; exact this)
          have HFIN := Lib.hid (fun (wn : World) (hDn : Dc wn b (updG g j c.toNat) (j + 1) 0 false) => (show StS d b (2 + (j + 1)) (.bool true) (.bool true) wn from .inr (.inr ⟨j + 1, updG g j c.toNat, rfl, rfl, rfl, by rw [Nat.min_eq_left (by omega), trE_lo (by omega)]; exact hDn, fun i hi => by
            rw [Nat.min_eq_left (by omega)] at hi
            by_cases hij : i = j
            · subst hij
              rw [updG_at, sb_at HC.out]
            · rw [updG_ne _ _ hij]
              exact HGD2.out i (by omega)⟩)))
          clear HDc HGD
          have c0 := HDc2.out.nd_
          have f0 := HDc2.out.free 800
          have fj := HDc2.out.free j
          have cj := HDc2.out.dig (i := j) hj8
          have i8 : (j : Int) < 800 := by omega
          have ij1 : j ≠ 800 := by omega
          have ij2 : 800 ≠ j := by omega
          by_cases h48 : c = 48
          · have hc1 := hc0 h48
            subst h48
            have qj : ((j : Int) == 0) = false := b_false (by omega)
            clear hc q95 q46 d1 d2 hc1 hc0
            go_wp2_with fail
            go_region
            go_wp2_with fail
            go_roundg (gk - 1)
            case rel => exact ⟨2 + (j + 1), by omega, by go_num, HFIN.out _ (((HDc2.out.drewN _).setDig 48 hj8).setNd (j + 1)), only_setCell (only_setCell (only_drewN HG.out _) (.inl rfl) _) (.inl rfl) _⟩
            case measure => omega
          · have q48 : ((c.toNat : Int) == 48) = false := b_false (fun h => h48 ((byte_int (d := 48) rfl).1 h))
            clear hc h48 hc0
            go_wp2_with fail
            go_region
            go_wp2_with fail
            go_roundg (gk - 1)
            case rel => exact ⟨2 + (j + 1), by omega, by go_num, HFIN.out _ (((HDc2.out.drewN _).setDig c.toNat hj8).setNd (j + 1)), only_setCell (only_setCell (only_drewN HG.out _) (.inl rfl) _) (.inl rfl) _⟩
            case measure => omega
        · have HDc2 := Lib.hid (show Dc wr b g 800 0 (trE d j) by have := HDc.out; rw [Nat.min_eq_right (by omega)] at this; exact this)
          have HGD2 := Lib.hid (show ∀ i, i < 800 → g i = sb d i by have := HGD.out; rw [Nat.min_eq_right (by omega)] at this; exact this)
          have HFIN := Lib.hid (fun (wn : World) (hDn : Dc wn b g 800 0 (trE d (j + 1))) => (show StS d b (2 + (j + 1)) (.bool true) (.bool true) wn from .inr (.inr ⟨j + 1, g, rfl, rfl, rfl, by rw [Nat.min_eq_right (by omega)]; exact hDn, fun i hi => by
            rw [Nat.min_eq_right (by omega)] at hi
            exact HGD2.out i hi⟩)))
          clear HDc HGD
          have c0 : wr.cell? ⟨b, 800, none⟩ = some (.int .i64 800) := HDc2.out.nd_
          have f3 := HDc2.out.free 803
          have c3 := HDc2.out.tr_
          by_cases h48 : c = 48
          · have HT := Lib.hid (show trE d (j + 1) = trE d j by rw [trE_step hc (by omega), h48]; exact Bool.or_false _)
            subst h48
            clear hc q95 q46 d1 d2 hc0
            go_wp2_with fail
            go_roundg (gk - 1)
            case rel => exact ⟨2 + (j + 1), by omega, by go_num, HFIN.out _ (by rw [HT.out]; exact HDc2.out), HG⟩
            case measure => omega
          · have HT := Lib.hid (show trE d (j + 1) = true by rw [trE_step hc (by omega), show (c != 48) = true from (by simpa using h48), Bool.or_true])
            have q48 : ((c.toNat : Int) == 48) = false := b_false (fun h => h48 ((byte_int (d := 48) rfl).1 h))
            have qn : ((c.toNat : Int) != 48) = true := n_true (fun h => h48 ((byte_int (d := 48) rfl).1 h))
            clear hc h48 hc0
            go_wp2_with fail
            go_roundg (gk - 1)
            case rel => exact ⟨2 + (j + 1), by omega, by go_num, HFIN.out _ (by rw [HT.out]; exact HDc2.out.setTr true), only_setCell HG.out (.inl rfl) _⟩
            case measure => omega
      · have hjn : j = n := by omega
        subst hjn
        have hK2 : 2 + j < S.size := by omega
        have g2 := G (2 + j) 101 HL2.out hK2
        have hKL : 2 + j < L := by omega
        have c0 := HDc.out.nd_
        have c1 := HDc.out.dp_
        have f1 := HDc.out.free 801
        have HFIN := Lib.hid (fun (z : Int) => (show SetPost d z b w (.returned (.bool true)) (wr.setCell ⟨b, 801, none⟩ (.int .i64 z)) by
          have h1 := HDc.out.setDp z
          have h2 := HGD.out
          rw [HN.out] at h1 h2
          exact ⟨rfl, g, h1, h2, only_setCell HG.out (.inl rfl) _⟩))
        generalize hnd : min j 800 = nd at *
        clear HDc HGD hnd
        obtain ⟨c0', hc0⟩ : ∃ c, X[0]? = some c := ⟨X[0]'(by have := HX.out; omega), List.getElem?_eq_getElem _⟩
        obtain ⟨e1, e2⟩ := HXX.out c0' (List.mem_of_getElem? hc0)
        have hx0L := HLX.out 0 c0' hc0
        clear hc0
        cases ng
        · have hL3 : L = 2 + j + 1 + x := by have := HLE.out; simp at this; omega
          have HL3 := Lib.hid hL3
          have hK3 : 2 + j + 1 < S.size := by omega
          have g3 := G (2 + j + 1) c0' hx0L hK3
          have hK3L : 2 + j + 1 < L := by omega
          clear hx0L hL3
          have q43 : ((c0'.toNat : Int) == 43) = false := b_false (by omega)
          have q45 : ((c0'.toNat : Int) == 45) = false := b_false (by omega)
          have q58 : ¬ (57 : Int) < (c0'.toNat : Int) := by omega
          have q47 : ¬ (c0'.toNat : Int) < 48 := by omega
          go_wp2_with (go_at_call 138; refine (lower_101 _).mono ?_; rintro e w' ⟨rfl, rfl⟩)
          go_loopg [5, 9] x (fun gx iv ev wr' => wr' = wr ∧ ∃ k : Nat, k + gx = x ∧ iv = .int .i64 (2 + (j : Int) + 1 + (k : Int)) ∧ ev = .int .i64 ((numD (X.take k) : Nat) : Int))
          case atStart => exact ⟨rfl, 0, by omega, by go_num, rfl⟩
          case round =>
            obtain ⟨rfl, k, hk, rfl, rfl⟩ := hrel
            by_cases hkx : k < x
            · obtain ⟨c, hc⟩ : ∃ c, X[k]? = some c := ⟨X[k]'(by have := HX.out; omega), List.getElem?_eq_getElem _⟩
              obtain ⟨f1', f2'⟩ := HXX.out c (List.mem_of_getElem? hc)
              have hKk : 2 + j + 1 + k < S.size := by have := HL3.out; omega
              have gk' := G (2 + j + 1 + k) c (HLX.out k c hc) hKk
              have hKkL : 2 + j + 1 + k < L := by have := HL3.out; omega
              have q95 : ((c.toNat : Int) == 95) = false := b_false (by omega)
              have hM := numD_lt 3 (X.take k) (fun c hc => HXX.out c (List.mem_of_mem_take hc)) (by rw [List.length_take]; omega)
              have HS := Lib.hid (show numD (X.take (k + 1)) = numD (X.take k) * 10 + (c.toNat - 48) from numD_take hc)
              generalize numD (X.take k) = E at *
              have hM2 : E < 1000 := hM
              clear hM hc g3
              go_wp2_with fail
              go_roundg (gk - 1)
              case rel => exact ⟨rfl, k + 1, by omega, by go_num, by rw [HS.out]; go_num⟩
              case measure => omega
            · have hkx2 : k = x := by omega
              subst hkx2
              have hLk : 2 + j + 1 + k = L := by have := HL3.out; omega
              have hLi : 2 + (j : Int) + 1 + (k : Int) = (L : Int) := by omega
              have HXt := Lib.hid (show numD (X.take k) = numD X by rw [List.take_of_length_le (by have := HX.out; omega)])
              have hE := numD_lt 4 (X.take k) (fun c hc => HXX.out c (List.mem_of_mem_take hc)) (by rw [List.length_take]; omega)
              generalize numD (X.take k) = E at *
              have hE2 : E < 10000 := hE
              clear hE g3 hkx
              go_wp2_with fail
              go_ret
              have hfin := HFIN.out z
              have hz2 : z = (E : Int) := by rw [HXt.out]; exact HzQ.out
              rw [hz2] at hfin
              rw [hz2]
              exact hfin
        · have hL3 : L = 2 + j + 1 + 1 + x := by have := HLE.out; simp at this; omega
          have HL3 := Lib.hid hL3
          have hK4 : 2 + j + 1 < S.size := by omega
          have g4 := G (2 + j + 1) 45 (HLM.out rfl) hK4
          have hK4L : 2 + j + 1 < L := by omega
          have hK3 : 2 + j + 1 + 1 < S.size := by omega
          have g3 := G (2 + j + 1 + 1) c0' hx0L hK3
          have hK3L : 2 + j + 1 + 1 < L := by omega
          clear hx0L hL3
          have q58 : ¬ (57 : Int) < (c0'.toNat : Int) := by omega
          have q47 : ¬ (c0'.toNat : Int) < 48 := by omega
          go_wp2_with (go_at_call 138; refine (lower_101 _).mono ?_; rintro e w' ⟨rfl, rfl⟩)
          go_loopg [5, 9] x (fun gx iv ev wr' => wr' = wr ∧ ∃ k : Nat, k + gx = x ∧ iv = .int .i64 (2 + (j : Int) + 1 + 1 + (k : Int)) ∧ ev = .int .i64 ((numD (X.take k) : Nat) : Int))
          case atStart => exact ⟨rfl, 0, by omega, by go_num, rfl⟩
          case round =>
            obtain ⟨rfl, k, hk, rfl, rfl⟩ := hrel
            by_cases hkx : k < x
            · obtain ⟨c, hc⟩ : ∃ c, X[k]? = some c := ⟨X[k]'(by have := HX.out; omega), List.getElem?_eq_getElem _⟩
              obtain ⟨f1', f2'⟩ := HXX.out c (List.mem_of_getElem? hc)
              have hKk : 2 + j + 1 + 1 + k < S.size := by have := HL3.out; omega
              have gk' := G (2 + j + 1 + 1 + k) c (HLX.out k c hc) hKk
              have hKkL : 2 + j + 1 + 1 + k < L := by have := HL3.out; omega
              have q95 : ((c.toNat : Int) == 95) = false := b_false (by omega)
              have hM := numD_lt 3 (X.take k) (fun c hc => HXX.out c (List.mem_of_mem_take hc)) (by rw [List.length_take]; omega)
              have HS := Lib.hid (show numD (X.take (k + 1)) = numD (X.take k) * 10 + (c.toNat - 48) from numD_take hc)
              generalize numD (X.take k) = E at *
              have hM2 : E < 1000 := hM
              clear hM hc g3
              go_wp2_with fail
              go_roundg (gk - 1)
              case rel => exact ⟨rfl, k + 1, by omega, by go_num, by rw [HS.out]; go_num⟩
              case measure => omega
            · have hkx2 : k = x := by omega
              subst hkx2
              have hLk : 2 + j + 1 + 1 + k = L := by have := HL3.out; omega
              have hLi : 2 + (j : Int) + 1 + 1 + (k : Int) = (L : Int) := by omega
              have HXt := Lib.hid (show numD (X.take k) = numD X by rw [List.take_of_length_le (by have := HX.out; omega)])
              have hE := numD_lt 4 (X.take k) (fun c hc => HXX.out c (List.mem_of_mem_take hc)) (by rw [List.length_take]; omega)
              generalize numD (X.take k) = E at *
              have hE2 : E < 10000 := hE
              clear hE g3 hkx
              go_wp2_with fail
              go_ret
              have hfin := HFIN.out z
              have hz2 : z = -(E : Int) := by rw [HXt.out]; exact HzQ.out
              rw [hz2] at hfin
              rw [hz2]
              exact hfin
end Go.Proofs.YtijncfidjjfmiaaGreatDoor
