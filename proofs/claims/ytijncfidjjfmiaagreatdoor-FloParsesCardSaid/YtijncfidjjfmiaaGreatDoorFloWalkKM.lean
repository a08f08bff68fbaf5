/- Walks of the library's shortest decimal: ftoa64. Walks: FormatFloat(x, 'e', -1, 64) at a positive normal real. Walks: flo.Text at the real that awake writes; awake. -/
import Derived.Test.YtijncfidjjfmiaaGreatDoorFloEnv
import Derived.Deep.RegionWith
import Derived.Laws.IdiomStrings
import Derived.Laws.MakeOwn
import Derived.Lib.BufferRead
import Derived.Test.YtijncfidjjfmiaaGreatDoorFloWalkAB
import Derived.Test.YtijncfidjjfmiaaGreatDoorShelf
import Derived.Lib.AtoiErrMem
namespace Go.Proofs.YtijncfidjjfmiaaGreatDoor
open Go.RowKit FloM

theorem and_i64_2047 (k : Nat) (hk : k < 2048) : bits .and .i64 (k : Int) 2047 = (k : Int) := by
  have h := i64_and_nat k 2047 (by omega) (by decide)
  have h2 := Nat.and_two_pow_sub_one_eq_mod k 11
  rw [show (2 : Nat) ^ 11 - 1 = 2047 by decide, show (2 : Nat) ^ 11 = 2048 by decide, Nat.mod_eq_of_lt hk] at h2
  rw [h2] at h
  exact h
theorem and_u64_52 (u : Nat) (hu : u < 18446744073709551616) : bits .and .u64 (u : Int) 4503599627370495 = ((u % 4503599627370496 : Nat) : Int) := by
  have h := u64_and_nat u 4503599627370495 hu (by decide)
  have h2 := Nat.and_two_pow_sub_one_eq_mod u 52
  rw [show (2 : Nat) ^ 52 - 1 = 4503599627370495 by decide, show (2 : Nat) ^ 52 = 4503599627370496 by decide] at h2
  rw [h2] at h
  exact h
theorem or_u64_52 (f : Nat) (hf : f < 4503599627370496) : bits .or .u64 (f : Int) 4503599627370496 = ((f + 4503599627370496 : Nat) : Int) := by
  have h := u64_or_nat f 4503599627370496 (by omega) (by decide)
  have h2 := Nat.two_pow_add_eq_or_of_lt (i := 52) (b := f) (by omega) 1
  rw [show (2 : Nat) ^ 52 * 1 = 4503599627370496 by decide, Nat.or_comm] at h2
  rw [← h2, Nat.add_comm] at h
  exact h

theorem bitLenAux_unique : ∀ (f x n : Nat), 2 ^ n ≤ x → x < 2 ^ (n + 1) → n < f → Lib.bitLenAux f x = n + 1
  | 0, _, _, _, _, h => absurd h (Nat.not_lt_zero _)
  | f + 1, x, n, h1, h2, h => by
    have hx : x ≠ 0 := by have := Nat.two_pow_pos n; omega
    unfold Lib.bitLenAux
    rw [if_neg hx]
    cases n with
    | zero =>
      have : x / 2 = 0 := by simp at h1 h2; omega
      rw [this]
      cases f <;> simp [Lib.bitLenAux]
    | succ n =>
      rw [bitLenAux_unique f (x / 2) n (by rw [Nat.pow_succ] at h1; omega) (by rw [Nat.pow_succ] at h2; omega) (by omega)]
      omega
theorem bitLen_unique (x n : Nat) (h1 : 2 ^ n ≤ x) (h2 : x < 2 ^ (n + 1)) (hn : n < 64) : Lib.bitLen x = n + 1 := bitLenAux_unique 64 x n h1 h2 hn

theorem bitLen_of {x n : Nat} (h1 : 2 ^ n ≤ x) (h2 : x < 2 ^ (n + 1)) (hn : n < 64) : Lib.bitLen x = n + 1 := by
  exact bitLen_unique x n h1 h2 hn

theorem zeros32 : ∀ j, j < 32 → ((List.replicate 32 (Value.int .u8 0)).toArray)[j]? = some (.int .u8 0) := by
  intro j hj
  rw [List.getElem?_toArray, List.getElem?_replicate, if_pos hj]

/-- The digits that are kept stand at the buffer's head. -/
theorem kept_digits {L : List UInt8} {c : UInt8} {T : List UInt8} (h : stripZ L = c :: T) : T.length + 1 ≤ L.length ∧ L[0]? = some c ∧ ∀ (j : Nat) (u : UInt8), T[j]? = some u → L[1 + j]? = some u := by
  obtain ⟨k, hk, hl⟩ := stripZ_prefix L
  rw [h] at hk hl
  have hlk : k = T.length + 1 := by rw [hl]; rfl
  have hle : (L.take k).length = T.length + 1 := by rw [← hk]; rfl
  rw [List.length_take] at hle
  refine ⟨by omega, ?_, fun j u hu => ?_⟩
  · have : (L.take k)[0]? = some c := by rw [← hk]; rfl
    rw [List.getElem?_take] at this
    split at this
    · exact this
    · cases this
  · have : (L.take k)[1 + j]? = some u := by rw [← hk, Nat.add_comm]; exact hu
    rw [List.getElem?_take] at this
    split at this
    · exact this
    · cases this

theorem max_wrap (n : Nat) (h : n ≤ 20) : max (wrap64 (n : Int)) 0 = (n : Int) := by
  rw [IntWalk.wrap64_in (n : Int) ⟨by omega, by omega⟩]
  omega

theorem enc_of {L : List UInt8} {cs' : Array Value} (hcs : ∀ j (hj : j < L.length), cs'[j]? = some (.int .u8 (L[j].toNat : Int))) {j : Nat} {u : UInt8} (h : L[j]? = some u) : cs'[j]? = some (encB u) := by
  obtain ⟨hj, he⟩ := List.getElem?_eq_some_iff.1 h
  rw [hcs j hj, he]

set_option maxRecDepth 100000 in
set_option maxHeartbeats 1600000 in
theorem ftoa_norm (B0 : Nat) (w0 : World) (v : Value) (u : Nat) (w : World) (hbuf : Buf B0 w0 w v []) (hu : u < 9218868437227405312) (ex fr : Nat) (hex : u = ex * 4503599627370496 + fr) (hfr : fr < 4503599627370496) (h1 : 1 ≤ ex) (hx2 : ex ≤ 2046) (ht : Env w)
    (hgood : Good (shortBits u)) :
    Calls Tryz.prog 74 #[v, .float .f64 u, .int .u8 101, .int .i64 (-1)] w (EPost B0 w0 (eOfQ (shortBits u))) := by
  have hn : ((u : Int) / 9223372036854775808 != 0) = false := by
    have : (u : Int) / 9223372036854775808 = 0 := by omega
    rw [this]; rfl
  have eE : bits .and .i64 (↑u / 4503599627370496) 2047 = (ex : Int) := by
    have : (u : Int) / 4503599627370496 = (ex : Int) := by omega
    rw [this]; exact and_i64_2047 ex (by omega)
  have eF : bits .and .u64 ↑u 4503599627370495 = (fr : Int) := by
    rw [and_u64_52 u (by omega), show u % 4503599627370496 = fr by omega]
  have eO : bits .or .u64 ↑fr 4503599627370496 = ((fr + 4503599627370496 : Nat) : Int) := or_u64_52 fr hfr
  have t1 : ((ex : Int) == 2047) = false := by rw [beq_eq_false_iff_ne]; omega
  have t2 : ((ex : Int) == 0) = false := by rw [beq_eq_false_iff_ne]; omega
  have t3 : (((fr + 4503599627370496 : Nat) : Int) == 0) = false := by rw [beq_eq_false_iff_ne]; omega
  have cL := Lib.hid (fun w => len64_any (fr + 4503599627370496) 53 w (by omega) (bitLen_of (n := 52) (by omega) (by omega) (by decide)))
  have hms : Hid ((fr + 4503599627370496) * 2048 = mOf u) := by
    show _ = mOf u
    unfold mOf; rw [if_neg (by omega), show u % 2 ^ 52 = fr by omega]
  have hes : Hid ((ex : Int) - 1086 = eOf u) := by
    show _ = eOf u
    unfold eOf; rw [if_neg (by omega), show u / 2 ^ 52 = ex by omega]
  have cS := Lib.hid (fun x y hx hy w ht => short_all u (by omega) hu x y hx hy w ht)
  have HT := Lib.hid ht
  have HG := Lib.hid hgood
  have HB := Lib.hid hbuf
  have hmtb : fr + 4503599627370496 < 9007199254740992 := by omega
  generalize fr + 4503599627370496 = mt at *
  generalize shortBits u = q at *
  clear ht hex hgood hbuf
  go_enter Tryz.func74, Tryz.ntmps74
  go_wp2_with fail
  go_quiet (fail)
  go_wp2_with fail
  refine (cL.out _).mono ?_
  rintro e w1 ⟨rfl, rfl⟩
  go_wp2_with fail
  refine (cS.out _ _ (by rw [← hms.out]; omega) (by rw [← hes.out]; omega) _ ((HT.out.drewN nq).alloc _).pow).mono ?_
  rintro e w1 ⟨rfl, hbw⟩
  obtain ⟨hg1, hg2, hg3, hg4, hg5⟩ := HG.out
  have HBW := Lib.hid hbw
  obtain ⟨c, T, hst⟩ : ∃ c T, stripZ (Lib.decDigits q.1) = c :: T := by
    rcases h : stripZ (Lib.decDigits q.1) with _ | ⟨c, T⟩
    · exact absurd h hg5
    · exact ⟨c, T, rfl⟩
  have HST := Lib.hid hst
  clear hbw hg5 hst
  obtain ⟨d, p⟩ := q
  simp only at hg1 hg2 hg3 hg4
  go_wp2_with fail
  have HE1 := Lib.hid (((HT.out.drewN nq).alloc (.cells (List.replicate 32 (Value.int .u8 0)).toArray 134)).below HBW.out (Nat.le_refl _))
  have HK1 := Lib.hid ((Blk.new (w.drewN nq) 134 (List.replicate 32 (Value.int .u8 0)).toArray).below HBW.out (by simp))
  have HB1 := Lib.hid (((HB.out.below (below_drewN (Below.refl _ _) nq)).below ((Below.refl _ _).alloc (Nat.le_refl _) (.cells (List.replicate 32 (Value.int .u8 0)).toArray 134))).below HBW.out)
  clear HT cS cL hms hes eE eF eO t1 t2 t3
  go_region_with (first
    | (go_at_call 112; refine (numDigits_any _ _ hg1 hg2 ((HE1.out).drewN 1)).mono ?_; rintro e w2 ⟨rfl, rfl⟩)
    | (go_at_call 111; refine (setDigits_any d hg2 p ⟨by omega, by omega⟩ _ _ _ _ (HK1.out.drewN 1) zeros32).mono ?_; rintro e w2 ⟨rfl, hgr, cs', hk2, hcs'⟩; have HGR := Lib.hid hgr; have HK2 := Lib.hid hk2; have HCS := Lib.hid hcs'; clear hgr hk2 hcs'))
  have hln : (stripZ (Lib.decDigits d)).length = T.length + 1 := by rw [HST.out]; rfl
  go_wp2_with fail
  obtain ⟨hT, hL0, hLT⟩ := kept_digits HST.out
  have hn20 := Lib.nDigits_le20 d hg2
  have hT20 : T.length ≤ 20 := by rw [Lib.decDigits_length] at hT; omega
  have hpos := Lib.nDigits_pos d
  have hbuf2 := (HB1.out.drewN 1).other (HK1.out.drewN 1) (by decide) HB.out.2.2 HGR.out
  have hdp : -900 ≤ (Lib.nDigits d : Int) + p ∧ (Lib.nDigits d : Int) + p ≤ 900 := by omega
  have hE := efg_all B0 w0 w2 v w.heap.size 134 cs' (↑(Lib.nDigits d) + p) c T (↑T.length + 1) (max (wrap64 ↑T.length) 0) hbuf2 HK2.out (by decide) hT20 (enc_of HCS.out hL0) (fun j u hu => enc_of HCS.out (hLT j u hu)) hdp rfl (max_wrap T.length hT20)
  refine hE.mono ?_
  clear hE hbuf2 hdp
  rintro e w3 ⟨v', rfl, hb'⟩
  have HF := Lib.hid hb'
  clear hb' hT hL0 hLT hn20 hT20 hpos hln
  go_wp2_with fail
  go_ret
  refine ⟨v', rfl, ?_⟩
  have he : eOfQ (d, p) = eText c T (decide ((Lib.nDigits d : Int) + p - 1 < 0)) ((Lib.nDigits d : Int) + p - 1).natAbs := by
    unfold eOfQ
    simp only [HST.out]
  rw [he]
  exact HF.out
end Go.Proofs.YtijncfidjjfmiaaGreatDoor

namespace Go.Proofs.YtijncfidjjfmiaaGreatDoor
open Go.RowKit FloM

theorem madeZ : (madeCells #[Value.int .u8 0] 24).size = 24 := by simp [madeCells]
def Z24 : Array Value := madeCells #[Value.int .u8 0] 24

theorem make24 (w : World) : (Instr.makeSlice 67 (Value.int .i64 0) (Value.int .i64 (max 3 24))).run Tryz.prog w = .ok (.slice (some ⟨w.heap.size, 0, none⟩) 0 24) (w.alloc (.cells Z24 5)) := by
  obtain ⟨i0, hi0, hz0, hz1, hz2⟩ := info_parts u8_info
  rw [show (max 3 24 : Int) = 24 by decide]
  have h := run_make (P := Tryz.prog) w 67 5 i0 _ Tryz.underlying67 hi0 hz0 .i64 .i64 0 24 (by decide) (by decide) (by rw [hz2]; decide) (by decide)
  rw [hz1] at h
  exact h

theorem Buf.new (w : World) : Buf w.heap.size w (w.alloc (.cells Z24 5)) (.slice (some ⟨w.heap.size, 0, none⟩) 0 24) [] := by
  refine ⟨⟨rfl, .inr ⟨w.heap.size, 24, Z24, rfl, Nat.le_refl _, heap_alloc_new w _, by decide, by decide, madeZ, rfl⟩⟩, (Below.refl _ _).alloc (Nat.le_refl _) _, by simp⟩

theorem Buf.string {B0 : Nat} {w0 W : World} {v : Value} {xs : List UInt8} (h : Buf B0 w0 W v xs) :
    (convert 67 9 v).run Tryz.prog W = .ok (.string ⟨xs.toArray⟩) W := by
  rcases h.1.2 with ⟨rfl, h0⟩ | ⟨g, cap, cur, rfl, _, hh, _⟩
  · have : xs = [] := List.eq_nil_of_length_eq_zero h0
    subst this
    exact Lib.run_convert_nil_bytes W 67 9 5 0 Tryz.underlying67 Tryz.underlying5 Tryz.underlying9
  · refine run_convert_bytes_back W 67 9 5 ⟨g, 0, none⟩ cap xs Tryz.underlying67 Tryz.underlying5 Tryz.underlying9 (fun j hj => ?_)
    refine h.1.cells (g := g) rfl j _ ?_
    rw [List.getElem?_map, List.getElem?_eq_getElem hj]
    rfl

def LPost (w : World) (X : List UInt8) (e : Ending) (w' : World) : Prop := e = .returned (.string ⟨X.toArray⟩) ∧ Below w.heap.size w w'

set_option maxRecDepth 100000 in
set_option maxHeartbeats 800000 in
theorem fmt_norm (u : Nat) (w : World) (hu : u < 9218868437227405312) (ex fr : Nat) (hex : u = ex * 4503599627370496 + fr) (hfr : fr < 4503599627370496) (h1 : 1 ≤ ex) (hx2 : ex ≤ 2046) (ht : Env w)
    (hgood : Good (shortBits u)) :
    Calls Tryz.prog 38 #[.float .f64 u, .int .u8 101, .int .i64 (-1), .int .i64 64] w (LPost w (eOfQ (shortBits u))) := by
  have HC := Lib.hid (fun B0 w0 v w hbuf ht => ftoa_norm B0 w0 v u w hbuf hu ex fr hex hfr h1 hx2 ht hgood)
  have HT := Lib.hid ht
  clear hex hfr h1 hx2 hgood hu ht
  generalize eOfQ (shortBits u) = X at *
  have hmk := make24
  go_enter Tryz.func38, Tryz.ntmps38
  go_wp2_with fail
  refine (HC.out w.heap.size w _ _ (Buf.new w) (HT.out.alloc _)).mono ?_
  rintro e w3 ⟨v', rfl, hb'⟩
  have hst := hb'.string
  have HB := Lib.hid hb'
  clear hb'
  go_wp2
  go_ret
  exact ⟨rfl, HB.out.2.1⟩

set_option maxRecDepth 100000 in
set_option maxHeartbeats 800000 in
theorem fmtS_norm (u : Nat) (w : World) (hu : u < 9218868437227405312) (ex fr : Nat) (hex : u = ex * 4503599627370496 + fr) (hfr : fr < 4503599627370496) (h1 : 1 ≤ ex) (hx2 : ex ≤ 2046) (ht : Env w)
    (hgood : Good (shortBits u)) :
    Calls Tryz.prog 17 #[.float .f64 u, .int .u8 101, .int .i64 (-1), .int .i64 64] w (LPost w (eOfQ (shortBits u))) := by
  have HC := Lib.hid (fmt_norm u w hu ex fr hex hfr h1 hx2 ht hgood)
  clear hex hfr h1 hx2 hgood hu ht
  generalize eOfQ (shortBits u) = X at *
  go_enter Tryz.func17, Tryz.ntmps17
  go_wp2_with fail
  refine HC.out.mono ?_
  rintro e w3 ⟨rfl, hb'⟩
  have HB := Lib.hid hb'
  clear hb'
  go_wp2
  go_ret
  exact ⟨rfl, HB.out⟩
end Go.Proofs.YtijncfidjjfmiaaGreatDoor

namespace Go.Proofs.YtijncfidjjfmiaaGreatDoor
open Go.RowKit FloM

def uA : Nat := 4599075939470750516
theorem uA_eq : uA = 0x3FD3333333333334 := by decide
def dA : List UInt8 := "30000000000000004".toUTF8.data.toList
def sA : List UInt8 := "3.0000000000000004e-01".toUTF8.data.toList
theorem goodA : Good (shortBits 4599075939470750516) := by unfold Good; decide +kernel
theorem eA : eOfQ (shortBits 4599075939470750516) = sA := by decide +kernel

theorem fmtA (w : World) (ht : Env w) :
    Calls Tryz.prog 17 #[.float .f64 4599075939470750516, .int .u8 101, .int .i64 (-1), .int .i64 64] w (LPost w sA) := by
  have h := fmtS_norm 4599075939470750516 w (by decide) 1021 900719925474100 (by decide) (by decide) (by decide) (by decide) ht goodA
  rw [eA] at h
  exact h

theorem placedA (w : World) :
    Calls Tryz.prog 22 #[.string ⟨dA.toArray⟩, .int .i64 0] w fun e w' => e = .returned (.string "0.30000000000000004".toUTF8) ∧ w' = w := by
  have hR := Tryz.strings_Repeat_zero
  go_enter Tryz.func22, Tryz.ntmps22
  go_wp2_with (go_at_call 49; refine (hR _ _).mono ?_; rintro e w' ⟨rfl, rfl⟩)
  go_ret
  exact ⟨rfl, rfl⟩

def mA : List UInt8 := "3.0000000000000004".toUTF8.data.toList
def xA : List UInt8 := "-01".toUTF8.data.toList
theorem cutA : Lib.cut sA "e".toUTF8.data.toList = (mA, xA, true) := by decide +kernel
theorem repA : Lib.replace mA ".".toUTF8.data.toList "".toUTF8.data.toList 1 = dA := by decide +kernel
theorem atoA : Lib.atoi xA = some (-1) := by decide +kernel
theorem classA : classN 4599075939470750516 = 4 := by decide +kernel
theorem canonA : canon 4599075939470750516 = 4599075939470750516 := by decide +kernel
theorem absA : absF 4599075939470750516 = 4599075939470750516 := by decide +kernel
theorem cntA : Lib.countB ⟨mA.toArray⟩ ".".toUTF8 = 1 := by decide +kernel

theorem cutW (w : World) (ht : Env w) :
    Calls Tryz.prog 19 #[.string ⟨sA.toArray⟩, .string "e".toUTF8] w fun e w' => e = .returned (.tuple #[.string ⟨mA.toArray⟩, .string ⟨xA.toArray⟩, .bool true]) ∧ ∃ n, w' = w.drewN n := by
  obtain ⟨m, hm⟩ := ht.mxl
  have h := Tryz.strings_Cut ⟨sA.toArray⟩ "e".toUTF8 m w (by decide +kernel) hm
  rw [show Lib.cut (ByteArray.mk sA.toArray).data.toList "e".toUTF8.data.toList = (mA, xA, true) from cutA] at h
  exact h

theorem repW (w : World) (ht : Env w) :
    Calls Tryz.prog 20 #[.string ⟨mA.toArray⟩, .string ".".toUTF8, .string "".toUTF8, .int .i64 1] w fun e w' => e = .returned (.string ⟨dA.toArray⟩) ∧ Below w.heap.size w w' := by
  obtain ⟨m, hm⟩ := ht.mxl
  have h := Tryz.strings_Replace ⟨mA.toArray⟩ ".".toUTF8 "".toUTF8 1 m w (by decide +kernel) hm (by decide +kernel) (by rw [cntA]; decide +kernel)
  rw [show Lib.replace (ByteArray.mk mA.toArray).data.toList ".".toUTF8.data.toList "".toUTF8.data.toList 1 = dA from repA] at h
  exact h

theorem atoW (w : World) :
    Calls Tryz.prog 21 #[.string ⟨xA.toArray⟩] w fun e w' => e = .returned (.tuple #[.int .i64 (-1), .nilIface]) ∧ Below w.heap.size w w' := by
  refine (Tryz.strconv_Atoi ⟨xA.toArray⟩ (-1) (by decide +kernel) atoA w).mono ?_
  rintro e w' ⟨rfl, t, rfl⟩
  exact ⟨rfl, Lib.bytesWorld_below _ _ _⟩

theorem catA : (ByteArray.mk #[] ++ "0.30000000000000004".toByteArray) = "0.30000000000000004".toUTF8 := by decide +kernel

set_option maxRecDepth 100000 in
theorem textA (w : World) (ht : Env w) :
    Calls Tryz.prog 6 #[.float .f64 4599075939470750516] w fun e w' => e = .returned (.string "0.30000000000000004".toUTF8) ∧ Below w.heap.size w w' := by
  have HT := Lib.hid ht
  clear ht
  have hcl := fun w => class_any 4599075939470750516 (by decide) w
  have hab := fun w => abs_any 4599075939470750516 (by decide) w
  have hbi := fun w => bits_any 4599075939470750516 w
  rw [classA] at hcl
  rw [absA] at hab
  rw [canonA] at hbi
  go_enter Tryz.func6, Tryz.ntmps6
  go_wp2_with (first
    | (go_at_call 15; refine (hcl _).mono ?_; rintro e w' ⟨rfl, rfl⟩)
    | (go_at_call 16; refine (hbi _).mono ?_; rintro e w' ⟨rfl, rfl⟩)
    | (go_at_call 18; refine (hab _).mono ?_; rintro e w' ⟨rfl, rfl⟩)
    | (go_at_call 17; refine (fmtA _ HT.out).mono ?_; rintro e w1 ⟨rfl, hb1⟩; have HB1 := Lib.hid hb1; clear hb1)
    | (go_at_call 19; refine (cutW _ (HT.out.below HB1.out (Nat.le_refl _))).mono ?_; rintro e w2 ⟨rfl, n2, rfl⟩)
    | (go_at_call 20; refine (repW _ ((HT.out.below HB1.out (Nat.le_refl _)).drewN n2)).mono ?_; rintro e w3 ⟨rfl, hb3⟩; have HB3 := Lib.hid hb3; clear hb3)
    | (go_at_call 21; refine (atoW _).mono ?_; rintro e w4 ⟨rfl, hb4⟩; have HB4 := Lib.hid hb4; clear hb4)
    | (go_at_call 22; refine (placedA _).mono ?_; rintro e w5 ⟨rfl, rfl⟩))
  go_ret
  refine ⟨by rw [catA]; rfl, ?_⟩
  exact (below_drewN HB1.out n2).trans ((HB3.out.trans (HB4.out.mono HB3.out.size)).mono HB1.out.size)

theorem eqA : ("0.30000000000000004".toByteArray.toList == [48, 46, 51, 48, 48, 48, 48, 48, 48, 48, 48, 48, 48, 48, 48, 48, 48, 48, 52]) = true := by decide +kernel

theorem addA : Ieee.double.add 4591870180066957722 4596373779694328218 = some 4599075939470750516 := by decide +kernel

/-- awake: true. -/
theorem awake_true (w : World) (ht : Env w) :
    Calls Tryz.prog 9 #[] w fun e w' => e = .returned (.bool true) ∧ Below w.heap.size w w' := by
  have HT := Lib.hid ht
  clear ht
  have hb : ∀ w, Calls Tryz.prog 16 #[.float .f64 4609434218613702656] w fun e w' => e = .returned (.int .u64 4609434218613702656) ∧ w = w' := fun w => by
    have h := bits_any 4609434218613702656 w
    rw [show canon 4609434218613702656 = 4609434218613702656 by decide +kernel] at h
    exact h
  have ha : ∀ w, Calls Tryz.prog 28 #[.float .f64 4591870180066957722, .float .f64 4596373779694328218] w fun e w' => e = .returned (.float .f64 4599075939470750516) ∧ ∃ n, w' = w.drewN n := fun w => by
    refine (add_any 4591870180066957722 4596373779694328218 w).mono ?_
    rintro e w' ⟨z, n, rfl, hz, rfl⟩
    rw [addA] at hz
    exact ⟨by rw [hz.of_some], n, rfl⟩
  go_enter Tryz.func9, Tryz.ntmps9
  go_wp2_with (first
    | (go_at_call 16; refine (hb _).mono ?_; rintro e w' ⟨rfl, rfl⟩)
    | (go_at_call 7; refine (of_any _ _).mono ?_; rintro e w' ⟨rfl, rfl⟩)
    | (go_at_call 28; refine (ha _).mono ?_; rintro e w' ⟨rfl, n, rfl⟩)
    | (go_at_call 6; refine (textA _ (HT.out.drewN _)).mono ?_; rintro e w3 ⟨rfl, hb3⟩; have HB3 := Lib.hid hb3; clear hb3))
  go_ret
  refine ⟨?_, (below_drewN (Below.refl _ _) n).trans HB3.out⟩
  rw [eqA]
  rfl
end Go.Proofs.YtijncfidjjfmiaaGreatDoor
