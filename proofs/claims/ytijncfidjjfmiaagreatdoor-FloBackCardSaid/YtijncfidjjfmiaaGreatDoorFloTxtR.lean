/- Walks: FormatFloat(x, 'e', -1, 64) at every positive real. -/
import Derived.Test.YtijncfidjjfmiaaGreatDoorFloWalkL
import Derived.Test.YtijncfidjjfmiaaGreatDoorFloTxtJ
namespace Go.Proofs.YtijncfidjjfmiaaGreatDoor
open Go.RowKit FloM

set_option maxRecDepth 100000 in
set_option maxHeartbeats 1600000 in
theorem ftoa_sub (B0 : Nat) (w0 : World) (v : Value) (u : Nat) (w : World) (hbuf : Buf B0 w0 w v []) (h0 : 0 < u) (hu : u < 4503599627370496) (ht : Env w)
    (hgood : Good (shortBits u)) :
    Calls Tryz.prog 74 #[v, .float .f64 u, .int .u8 101, .int .i64 (-1)] w (EPost B0 w0 (eOfQ (shortBits u))) := by
  have hn : ((u : Int) / 9223372036854775808 != 0) = false := by
    have : (u : Int) / 9223372036854775808 = 0 := by omega
    rw [this]; rfl
  have eE : bits .and .i64 (↑u / 4503599627370496) 2047 = 0 := by
    have : (u : Int) / 4503599627370496 = ((0 : Nat) : Int) := by omega
    rw [this]; exact and_i64_2047 0 (by omega)
  have eF : bits .and .u64 ↑u 4503599627370495 = (u : Int) := by
    rw [and_u64_52 u (by omega), show u % 4503599627370496 = u by omega]
  have t3 : ((u : Int) == 0) = false := by rw [beq_eq_false_iff_ne]; omega
  obtain ⟨l, hl⟩ : ∃ l, l = u.log2 := ⟨_, rfl⟩
  have hl1 := Nat.log2_self_le (show u ≠ 0 by omega)
  have hl2 := Nat.lt_log2_self (n := u)
  rw [← hl] at hl1 hl2
  have hl3 : l < 52 := by rw [hl]; exact (Nat.log2_lt (by omega)).2 hu
  have cL := Lib.hid (fun w => len64_any u (l + 1) w (by omega) (bitLen_of (n := l) hl1 hl2 (by omega)))
  have hu2 : u % 2 ^ 52 = u := by omega
  have hms : Hid (IntKind.u64.wrap ((u : Int) * 2 ^ (63 - l)) = ((mOf u : Nat) : Int)) := by
    show _ = _
    have hm : mOf u = u * 2 ^ (63 - l) := by unfold mOf; rw [if_pos (by omega), hu2, hl]
    have hlt : u * 2 ^ (63 - l) < 18446744073709551616 := by
      calc u * 2 ^ (63 - l) < 2 ^ (l + 1) * 2 ^ (63 - l) := Nat.mul_lt_mul_of_pos_right hl2 (Nat.two_pow_pos _)
        _ = 18446744073709551616 := by rw [← Nat.pow_add, show l + 1 + (63 - l) = 64 by omega]
    have e : (u : Int) * 2 ^ (63 - l) = ((u * 2 ^ (63 - l) : Nat) : Int) := by rw [Int.natCast_mul, Int.natCast_pow]; rfl
    rw [hm, e, IntKind.wrap_u64]
    omega
  have hes : Hid (-1074 - ((63 - l : Nat) : Int) = eOf u) := by
    show _ = eOf u
    unfold eOf; rw [if_pos (by omega), hu2, hl]
  have cS := Lib.hid (fun x y hx hy w ht => short_all u h0 (by omega) x y hx hy w ht)
  have HT := Lib.hid ht
  have HG := Lib.hid hgood
  have HB := Lib.hid hbuf
  generalize shortBits u = q at *
  clear ht hgood hbuf hl1 hl2 hu2 hl
  go_enter Tryz.func74, Tryz.ntmps74
  go_wp2_with fail
  go_quiet (fail)
  go_wp2_with fail
  refine (cL.out _).mono ?_
  rintro e w1 ⟨rfl, rfl⟩
  go_wp2_with fail
  refine (cS.out _ _ hms.out (by rw [← hes.out]; omega) _ ((HT.out.drewN nq).alloc _).pow).mono ?_
  rintro e w1 ⟨rfl, hbw⟩
  obtain ⟨hg1, hg2, hg3, hg4, hg5⟩ := HG.out
  have HBW := Lib.hid hbw
  obtain ⟨c, T, hst⟩ : ∃ c T, stripZ (Lib.decDigits q.1) = c :: T := by
    rcases h : stripZ (Lib.decDigits q.1) with _ | ⟨c, T⟩
    · exact absurd h hg5
    · exact ⟨c, T, rfl⟩
  have HST := Lib.hid hst
  clear hbw hg5 hst
  obtain ⟨d, p⟩ := q
  simp only at hg1 hg2 hg3 hg4
  go_wp2_with fail
  have HE1 := Lib.hid (((HT.out.drewN nq).alloc (.cells (List.replicate 32 (Value.int .u8 0)).toArray 134)).below HBW.out (Nat.le_refl _))
  have HK1 := Lib.hid ((Blk.new (w.drewN nq) 134 (List.replicate 32 (Value.int .u8 0)).toArray).below HBW.out (by simp))
  have HB1 := Lib.hid (((HB.out.below (below_drewN (Below.refl _ _) nq)).below ((Below.refl _ _).alloc (Nat.le_refl _) (.cells (List.replicate 32 (Value.int .u8 0)).toArray 134))).below HBW.out)
  clear HT cS cL hms hes eE eF t3 hn
  go_region_with (first
    | (go_at_call 112; refine (numDigits_any _ _ hg1 hg2 ((HE1.out).drewN 1)).mono ?_; rintro e w2 ⟨rfl, rfl⟩)
    | (go_at_call 111; refine (setDigits_any d hg2 p ⟨by omega, by omega⟩ _ _ _ _ (HK1.out.drewN 1) zeros32).mono ?_; rintro e w2 ⟨rfl, hgr, cs', hk2, hcs'⟩; have HGR := Lib.hid hgr; have HK2 := Lib.hid hk2; have HCS := Lib.hid hcs'; clear hgr hk2 hcs'))
  have hln : (stripZ (Lib.decDigits d)).length = T.length + 1 := by rw [HST.out]; rfl
  go_wp2_with fail
  obtain ⟨hT, hL0, hLT⟩ := kept_digits HST.out
  have hn20 := Lib.nDigits_le20 d hg2
  have hT20 : T.length ≤ 20 := by rw [Lib.decDigits_length] at hT; omega
  have hpos := Lib.nDigits_pos d
  have hbuf2 := (HB1.out.drewN 1).other (HK1.out.drewN 1) (by decide) HB.out.2.2 HGR.out
  have hdp : -900 ≤ (Lib.nDigits d : Int) + p ∧ (Lib.nDigits d : Int) + p ≤ 900 := by omega
  have hE := efg_all B0 w0 w2 v w.heap.size 134 cs' (↑(Lib.nDigits d) + p) c T (↑T.length + 1) (max (wrap64 ↑T.length) 0) hbuf2 HK2.out (by decide) hT20 (enc_of HCS.out hL0) (fun j u hu => enc_of HCS.out (hLT j u hu)) hdp rfl (max_wrap T.length hT20)
  refine hE.mono ?_
  clear hE hbuf2 hdp
  rintro e w3 ⟨v', rfl, hb'⟩
  have HF := Lib.hid hb'
  clear hb' hT hL0 hLT hn20 hT20 hpos hln
  go_wp2_with fail
  go_ret
  refine ⟨v', rfl, ?_⟩
  have he : eOfQ (d, p) = eText c T (decide ((Lib.nDigits d : Int) + p - 1 < 0)) ((Lib.nDigits d : Int) + p - 1).natAbs := by
    unfold eOfQ
    simp only [HST.out]
  rw [he]
  exact HF.out

theorem ftoa_all (B0 : Nat) (w0 : World) (v : Value) (u : Nat) (w : World) (hbuf : Buf B0 w0 w v []) (h0 : 0 < u) (hu : u < cap) (ht : Env w) :
    Calls Tryz.prog 74 #[v, .float .f64 u, .int .u8 101, .int .i64 (-1)] w (EPost B0 w0 (eOfQ (shortBits u))) := by
  have hc : cap = 2047 * 2 ^ 52 := rfl
  rcases Nat.lt_or_ge u 4503599627370496 with h | h
  · exact ftoa_sub B0 w0 v u w hbuf h0 h ht (good_all u h0 hu)
  · exact ftoa_norm B0 w0 v u w hbuf (by omega) (u / 4503599627370496) (u % 4503599627370496) (by omega) (by omega) (by omega) (by omega) ht (good_all u h0 hu)

set_option maxRecDepth 100000 in
set_option maxHeartbeats 800000 in
theorem fmt_all (u : Nat) (w : World) (h0 : 0 < u) (hu : u < cap) (ht : Env w) :
    Calls Tryz.prog 38 #[.float .f64 u, .int .u8 101, .int .i64 (-1), .int .i64 64] w (LPost w (eOfQ (shortBits u))) := by
  have HC := Lib.hid (fun B0 w0 v w hbuf ht => ftoa_all B0 w0 v u w hbuf h0 hu ht)
  have HT := Lib.hid ht
  clear h0 hu ht
  generalize eOfQ (shortBits u) = X at *
  have hmk := make24
  go_enter Tryz.func38, Tryz.ntmps38
  go_wp2_with fail
  refine (HC.out w.heap.size w _ _ (Buf.new w) (HT.out.alloc _)).mono ?_
  rintro e w3 ⟨v', rfl, hb'⟩
  have hst := hb'.string
  have HB := Lib.hid hb'
  clear hb'
  go_wp2
  go_ret
  exact ⟨rfl, HB.out.2.1⟩

set_option maxRecDepth 100000 in
set_option maxHeartbeats 800000 in
theorem fmtS_all (u : Nat) (w : World) (h0 : 0 < u) (hu : u < cap) (ht : Env w) :
    Calls Tryz.prog 17 #[.float .f64 u, .int .u8 101, .int .i64 (-1), .int .i64 64] w (LPost w (eOfQ (shortBits u))) := by
  have HC := Lib.hid (fmt_all u w h0 hu ht)
  clear h0 hu ht
  generalize eOfQ (shortBits u) = X at *
  go_enter Tryz.func17, Tryz.ntmps17
  go_wp2_with fail
  refine HC.out.mono ?_
  rintro e w3 ⟨rfl, hb'⟩
  have HB := Lib.hid hb'
  clear hb'
  go_wp2
  go_ret
  exact ⟨rfl, HB.out⟩
end Go.Proofs.YtijncfidjjfmiaaGreatDoor
