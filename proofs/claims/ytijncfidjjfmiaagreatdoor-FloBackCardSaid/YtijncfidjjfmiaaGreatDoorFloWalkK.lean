/- Walks of the library's shortest decimal: ftoa64. -/
import Derived.Test.YtijncfidjjfmiaaGreatDoorFloEnv
import Derived.Deep.RegionWith
namespace Go.Proofs.YtijncfidjjfmiaaGreatDoor
open Go.RowKit FloM

theorem and_i64_2047 (k : Nat) (hk : k < 2048) : bits .and .i64 (k : Int) 2047 = (k : Int) := by
  have h := i64_and_nat k 2047 (by omega) (by decide)
  have h2 := Nat.and_two_pow_sub_one_eq_mod k 11
  rw [show (2 : Nat) ^ 11 - 1 = 2047 by decide, show (2 : Nat) ^ 11 = 2048 by decide, Nat.mod_eq_of_lt hk] at h2
  rw [h2] at h
  exact h
theorem and_u64_52 (u : Nat) (hu : u < 18446744073709551616) : bits .and .u64 (u : Int) 4503599627370495 = ((u % 4503599627370496 : Nat) : Int) := by
  have h := u64_and_nat u 4503599627370495 hu (by decide)
  have h2 := Nat.and_two_pow_sub_one_eq_mod u 52
  rw [show (2 : Nat) ^ 52 - 1 = 4503599627370495 by decide, show (2 : Nat) ^ 52 = 4503599627370496 by decide] at h2
  rw [h2] at h
  exact h
theorem or_u64_52 (f : Nat) (hf : f < 4503599627370496) : bits .or .u64 (f : Int) 4503599627370496 = ((f + 4503599627370496 : Nat) : Int) := by
  have h := u64_or_nat f 4503599627370496 (by omega) (by decide)
  have h2 := Nat.two_pow_add_eq_or_of_lt (i := 52) (b := f) (by omega) 1
  rw [show (2 : Nat) ^ 52 * 1 = 4503599627370496 by decide, Nat.or_comm] at h2
  rw [← h2, Nat.add_comm] at h
  exact h

theorem bitLenAux_unique : ∀ (f x n : Nat), 2 ^ n ≤ x → x < 2 ^ (n + 1) → n < f → Lib.bitLenAux f x = n + 1
  | 0, _, _, _, _, h => absurd h (Nat.not_lt_zero _)
  | f + 1, x, n, h1, h2, h => by
    have hx : x ≠ 0 := by have := Nat.two_pow_pos n; omega
    unfold Lib.bitLenAux
    rw [if_neg hx]
    cases n with
    | zero =>
      have : x / 2 = 0 := by simp at h1 h2; omega
      rw [this]
      cases f <;> simp [Lib.bitLenAux]
    | succ n =>
      rw [bitLenAux_unique f (x / 2) n (by rw [Nat.pow_succ] at h1; omega) (by rw [Nat.pow_succ] at h2; omega) (by omega)]
      omega
theorem bitLen_unique (x n : Nat) (h1 : 2 ^ n ≤ x) (h2 : x < 2 ^ (n + 1)) (hn : n < 64) : Lib.bitLen x = n + 1 := bitLenAux_unique 64 x n h1 h2 hn

theorem bitLen_of {x n : Nat} (h1 : 2 ^ n ≤ x) (h2 : x < 2 ^ (n + 1)) (hn : n < 64) : Lib.bitLen x = n + 1 := by
  exact bitLen_unique x n h1 h2 hn

theorem zeros32 : ∀ j, j < 32 → ((List.replicate 32 (Value.int .u8 0)).toArray)[j]? = some (.int .u8 0) := by
  intro j hj
  rw [List.getElem?_toArray, List.getElem?_replicate, if_pos hj]

/-- The digits that are kept stand at the buffer's head. -/
theorem kept_digits {L : List UInt8} {c : UInt8} {T : List UInt8} (h : stripZ L = c :: T) : T.length + 1 ≤ L.length ∧ L[0]? = some c ∧ ∀ (j : Nat) (u : UInt8), T[j]? = some u → L[1 + j]? = some u := by
  obtain ⟨k, hk, hl⟩ := stripZ_prefix L
  rw [h] at hk hl
  have hlk : k = T.length + 1 := by rw [hl]; rfl
  have hle : (L.take k).length = T.length + 1 := by rw [← hk]; rfl
  rw [List.length_take] at hle
  refine ⟨by omega, ?_, fun j u hu => ?_⟩
  · have : (L.take k)[0]? = some c := by rw [← hk]; rfl
    rw [List.getElem?_take] at this
    split at this
    · exact this
    · cases this
  · have : (L.take k)[1 + j]? = some u := by rw [← hk, Nat.add_comm]; exact hu
    rw [List.getElem?_take] at this
    split at this
    · exact this
    · cases this

theorem max_wrap (n : Nat) (h : n ≤ 20) : max (wrap64 (n : Int)) 0 = (n : Int) := by
  rw [IntWalk.wrap64_in (n : Int) ⟨by omega, by omega⟩]
  omega

theorem enc_of {L : List UInt8} {cs' : Array Value} (hcs : ∀ j (hj : j < L.length), cs'[j]? = some (.int .u8 (L[j].toNat : Int))) {j : Nat} {u : UInt8} (h : L[j]? = some u) : cs'[j]? = some (encB u) := by
  obtain ⟨hj, he⟩ := List.getElem?_eq_some_iff.1 h
  rw [hcs j hj, he]

set_option maxRecDepth 100000 in
set_option maxHeartbeats 1600000 in
theorem ftoa_norm (B0 : Nat) (w0 : World) (v : Value) (u : Nat) (w : World) (hbuf : Buf B0 w0 w v []) (hu : u < 9218868437227405312) (ex fr : Nat) (hex : u = ex * 4503599627370496 + fr) (hfr : fr < 4503599627370496) (h1 : 1 ≤ ex) (hx2 : ex ≤ 2046) (ht : Env w)
    (hgood : Good (shortBits u)) :
    Calls Tryz.prog 74 #[v, .float .f64 u, .int .u8 101, .int .i64 (-1)] w (EPost B0 w0 (eOfQ (shortBits u))) := by
  have hn : ((u : Int) / 9223372036854775808 != 0) = false := by
    have : (u : Int) / 9223372036854775808 = 0 := by omega
    rw [this]; rfl
  have eE : bits .and .i64 (↑u / 4503599627370496) 2047 = (ex : Int) := by
    have : (u : Int) / 4503599627370496 = (ex : Int) := by omega
    rw [this]; exact and_i64_2047 ex (by omega)
  have eF : bits .and .u64 ↑u 4503599627370495 = (fr : Int) := by
    rw [and_u64_52 u (by omega), show u % 4503599627370496 = fr by omega]
  have eO : bits .or .u64 ↑fr 4503599627370496 = ((fr + 4503599627370496 : Nat) : Int) := or_u64_52 fr hfr
  have t1 : ((ex : Int) == 2047) = false := by rw [beq_eq_false_iff_ne]; omega
  have t2 : ((ex : Int) == 0) = false := by rw [beq_eq_false_iff_ne]; omega
  have t3 : (((fr + 4503599627370496 : Nat) : Int) == 0) = false := by rw [beq_eq_false_iff_ne]; omega
  have cL := Lib.hid (fun w => len64_any (fr + 4503599627370496) 53 w (by omega) (bitLen_of (n := 52) (by omega) (by omega) (by decide)))
  have hms : Hid ((fr + 4503599627370496) * 2048 = mOf u) := by
    show _ = mOf u
    unfold mOf; rw [if_neg (by omega), show u % 2 ^ 52 = fr by omega]
  have hes : Hid ((ex : Int) - 1086 = eOf u) := by
    show _ = eOf u
    unfold eOf; rw [if_neg (by omega), show u / 2 ^ 52 = ex by omega]
  have cS := Lib.hid (fun x y hx hy w ht => short_all u (by omega) hu x y hx hy w ht)
  have HT := Lib.hid ht
  have HG := Lib.hid hgood
  have HB := Lib.hid hbuf
  have hmtb : fr + 4503599627370496 < 9007199254740992 := by omega
  generalize fr + 4503599627370496 = mt at *
  generalize shortBits u = q at *
  clear ht hex hgood hbuf
  go_enter Tryz.func74, Tryz.ntmps74
  go_wp2_with fail
  go_quiet (fail)
  go_wp2_with fail
  refine (cL.out _).mono ?_
  rintro e w1 ⟨rfl, rfl⟩
  go_wp2_with fail
  refine (cS.out _ _ (by rw [← hms.out]; omega) (by rw [← hes.out]; omega) _ ((HT.out.drewN nq).alloc _).pow).mono ?_
  rintro e w1 ⟨rfl, hbw⟩
  obtain ⟨hg1, hg2, hg3, hg4, hg5⟩ := HG.out
  have HBW := Lib.hid hbw
  obtain ⟨c, T, hst⟩ : ∃ c T, stripZ (Lib.decDigits q.1) = c :: T := by
    rcases h : stripZ (Lib.decDigits q.1) with _ | ⟨c, T⟩
    · exact absurd h hg5
    · exact ⟨c, T, rfl⟩
  have HST := Lib.hid hst
  clear hbw hg5 hst
  obtain ⟨d, p⟩ := q
  simp only at hg1 hg2 hg3 hg4
  go_wp2_with fail
  have HE1 := Lib.hid (((HT.out.drewN nq).alloc (.cells (List.replicate 32 (Value.int .u8 0)).toArray 134)).below HBW.out (Nat.le_refl _))
  have HK1 := Lib.hid ((Blk.new (w.drewN nq) 134 (List.replicate 32 (Value.int .u8 0)).toArray).below HBW.out (by simp))
  have HB1 := Lib.hid (((HB.out.below (below_drewN (Below.refl _ _) nq)).below ((Below.refl _ _).alloc (Nat.le_refl _) (.cells (List.replicate 32 (Value.int .u8 0)).toArray 134))).below HBW.out)
  clear HT cS cL hms hes eE eF eO t1 t2 t3
  go_region_with (first
    | (go_at_call 112; refine (numDigits_any _ _ hg1 hg2 ((HE1.out).drewN 1)).mono ?_; rintro e w2 ⟨rfl, rfl⟩)
    | (go_at_call 111; refine (setDigits_any d hg2 p ⟨by omega, by omega⟩ _ _ _ _ (HK1.out.drewN 1) zeros32).mono ?_; rintro e w2 ⟨rfl, hgr, cs', hk2, hcs'⟩; have HGR := Lib.hid hgr; have HK2 := Lib.hid hk2; have HCS := Lib.hid hcs'; clear hgr hk2 hcs'))
  have hln : (stripZ (Lib.decDigits d)).length = T.length + 1 := by rw [HST.out]; rfl
  go_wp2_with fail
  obtain ⟨hT, hL0, hLT⟩ := kept_digits HST.out
  have hn20 := Lib.nDigits_le20 d hg2
  have hT20 : T.length ≤ 20 := by rw [Lib.decDigits_length] at hT; omega
  have hpos := Lib.nDigits_pos d
  have hbuf2 := (HB1.out.drewN 1).other (HK1.out.drewN 1) (by decide) HB.out.2.2 HGR.out
  have hdp : -900 ≤ (Lib.nDigits d : Int) + p ∧ (Lib.nDigits d : Int) + p ≤ 900 := by omega
  have hE := efg_all B0 w0 w2 v w.heap.size 134 cs' (↑(Lib.nDigits d) + p) c T (↑T.length + 1) (max (wrap64 ↑T.length) 0) hbuf2 HK2.out (by decide) hT20 (enc_of HCS.out hL0) (fun j u hu => enc_of HCS.out (hLT j u hu)) hdp rfl (max_wrap T.length hT20)
  refine hE.mono ?_
  clear hE hbuf2 hdp
  rintro e w3 ⟨v', rfl, hb'⟩
  have HF := Lib.hid hb'
  clear hb' hT hL0 hLT hn20 hT20 hpos hln
  go_wp2_with fail
  go_ret
  refine ⟨v', rfl, ?_⟩
  have he : eOfQ (d, p) = eText c T (decide ((Lib.nDigits d : Int) + p - 1 < 0)) ((Lib.nDigits d : Int) + p - 1).natAbs := by
    unfold eOfQ
    simp only [HST.out]
  rw [he]
  exact HF.out
end Go.Proofs.YtijncfidjjfmiaaGreatDoor
