/- Walk of the library's leftShift. The cheats' table, leftShift by it; Shift. Walk of the library's Shift. -/
import Derived.Test.YtijncfidjjfmiaaGreatDoorFloSlowAC
import Derived.Test.YtijncfidjjfmiaaGreatDoorFloTens
import GoSem.PinnedTables
namespace Go.Proofs.YtijncfidjjfmiaaGreatDoor
open Go.RowKit FloM

theorem Lm.end_ {g g' : Nat → Nat} {nd δ k : Nat} {dp : Int} {tr tr' : Bool} (h : Lm g g' (pre g nd * 2 ^ k) (nd + δ) 0 tr tr') (h0 : 0 < nd) (h8 : nd ≤ 800) (hM1 : 10 ^ (nd + δ - 1) ≤ pre g nd * 2 ^ k) (hM2 : pre g nd * 2 ^ k < 10 ^ (nd + δ)) (hdp : -2000 ≤ dp) :
    Dok g' (min (nd + δ) 800) ∧ Cut (dV g nd dp * 2 ^ k) (dV g' (min (nd + δ) 800) (dp + δ)) 1 (dp + δ - 800 + oo).toNat tr tr' := by
  have hp := h.put
  have hc := h.cut
  refine ⟨⟨fun i hi => ?_, Nat.min_le_right _ _, by omega, ?_⟩, left_cut hM2 (fun i hi => hp i (Nat.zero_le _) hi) ?_ hdp h8⟩
  · rw [hp i (Nat.zero_le _) hi]
    have := Nat.mod_lt (pre g nd * 2 ^ k / 10 ^ (nd + δ - 1 - i)) (show 0 < 10 by decide)
    omega
  · rw [hp 0 (Nat.zero_le _) (by omega), Nat.sub_zero]
    have hpos : 0 < 10 ^ (nd + δ - 1) := Nat.pow_pos (by decide)
    have a1 : 1 ≤ pre g nd * 2 ^ k / 10 ^ (nd + δ - 1) := (Nat.le_div_iff_mul_le hpos).2 (by rw [Nat.one_mul]; exact hM1)
    have a2 : pre g nd * 2 ^ k / 10 ^ (nd + δ - 1) < 10 := by
      rw [Nat.div_lt_iff_lt_mul hpos, ← show 10 ^ (nd + δ - 1) * 10 = 10 * 10 ^ (nd + δ - 1) from Nat.mul_comm _ _, ← Nat.pow_succ, show (nd + δ - 1).succ = nd + δ by omega]
      exact hM2
    rw [Nat.mod_eq_of_lt a2]
    omega
  · rw [hc]
    rw [show nd + δ - max 0 800 = nd + δ - min (nd + δ) 800 by omega]

theorem sl_eq (b nd : Nat) (h : nd ≤ 800) (w : World) : (Instr.sliceAt 143 (.pointer (some ⟨b, 0, none⟩)) (some (.int .i64 0)) (some (.int .i64 (nd : Int))) none).run Tryz.prog w = .ok (.slice (some ⟨b, 0, none⟩) nd 800) w := by
  have hl : Tryz.prog.arrayLen 143 = 800 := by kernel_rfl
  rw [run_sliceAt_array_lh w 143 _ (by kernel_rfl) _ _ _ _ (by decide) (by omega) (by rw [hl]; omega), hl]
  go_simp

set_option maxRecDepth 100000 in
set_option maxHeartbeats 2000000 in
theorem ls_t (b : Nat) (g : Nat → Nat) (nd k T Δ δ cap : Nat) (dp : Int) (tr : Bool) (ad : Addr) (S : ByteArray) (hok : Dok g nd) (w : World) (hD : Dc w b g nd dp tr) (hk : k ≤ 60) (hT0 : 0 < T) (hT : T ≤ 1152921504606846976)
    (hd1 : -1000 ≤ dp) (hd2 : dp ≤ 1000) (hΔ : Δ = δ + 1) (hΔ2 : Δ ≤ 19) (HT : Hid (T = 2 ^ k)) (HSL : ∀ c : Nat, c ≤ 9 → IntKind.u64.wrap ((c : Int) * 2 ^ k) = ((c * T : Nat) : Int))
    (HB : Hid (10 ^ (nd + δ - 1) ≤ pre g nd * T ∧ pre g nd * T < 10 ^ (nd + δ)))
    (c1 : w.cell? ⟨9, 0, none⟩ = some (.slice (some ad) 61 cap)) (c2 : w.cell? (ad.add (k * 2)) = some (.int .i64 (Δ : Int))) (c3 : w.cell? ⟨(ad.add (k * 2)).block, (ad.add (k * 2)).off + 1, none⟩ = some (.string S))
    (HP : Hid (∀ w, Dc w b g nd dp tr → Calls Tryz.prog 166 #[.slice (some ⟨b, 0, none⟩) nd 800, .string S] w fun e w' => e = .returned (.bool true) ∧ ∃ m, w' = w.drewN m)) :
    Calls Tryz.prog 152 #[.pointer (some ⟨b, 0, none⟩), .int .u64 (k : Int)] w (ShPost (dV g nd dp * 2 ^ k) 1 b dp tr w) := by
  have HD := Lib.hid hD
  have HOK := Lib.hid hok
  have hn := hok.le
  have h0 := hok.pos
  have d1 := hD.nd_
  clear hok hD
  subst hΔ
  have es := sl_eq b nd hn
  have i3 : (k : Int) < 61 := by omega
  go_enter Tryz.func152, Tryz.ntmps152
  go_wp2_with fail
  go_quiet ((go_at_call 166; exact Calls.quiet_of (HP.out _ (HD.out.drewN _))))
  go_wp2_with fail
  have HD0 := Lib.hid (HD.out.drewN nq)
  have HG0 := Lib.hid (only_drewN (World.grownBy.refl w (some b)) nq)
  have HL0 := Lib.hid (Lm.start (g := g) (M := pre g nd * T) (N := nd + δ) (tr := tr))
  generalize w.drewN nq = w1 at *
  go_loopg [5, 6, 7] nd (fun gk r wv n wr => ∃ n' : Nat, ∃ g' : Nat → Nat, ∃ tr' : Bool, r = .int .i64 ((gk : Int) - 1) ∧ wv = .int .i64 ((gk : Int) + (δ : Int)) ∧ n = .int .u64 n' ∧ n' < T ∧ gk ≤ nd ∧ Hid (pre g nd * T / 10 ^ (nd + δ - (gk + δ)) = pre g gk * T + n') ∧ Hid (Lm g g' (pre g nd * T) (nd + δ) (gk + δ) tr tr') ∧ Hid (∀ i, i < gk → g' i = g i) ∧ Hid (Dc wr b g' nd dp tr') ∧ Hid (w.grownBy wr (some b)))
  case atStart => exact ⟨0, g, tr, rfl, rfl, rfl, hT0, Nat.le_refl _, Lib.hid (by rw [Nat.sub_self, Nat.pow_zero, Nat.div_one]; rfl), HL0, fun _ _ => rfl, HD0, HG0⟩
  case round =>
    obtain ⟨n, g', tr', rfl, rfl, rfl, hn1, hgn, HQ, HL, HE, HDr, HG⟩ := hrel
    rcases Nat.eq_zero_or_pos gk with h00 | h00
    · subst h00
      have HQ0 := Lib.hid (show pre g nd * T / 10 ^ (nd + δ - δ) = n by rw [← Nat.zero_add δ, ← Nat.add_assoc, Nat.add_zero]; have := HQ.out; rw [this]; show 0 * T + n = n; omega)
      have HL0 := Lib.hid (show Lm g g' (pre g nd * T) (nd + δ) δ tr tr' by have := HL.out; rw [Nat.zero_add] at this; exact this)
      clear HQ HL HE
      go_wp2_with fail
      go_loopg [6, 7] δ (fun gk wv n wr => ∃ n' : Nat, ∃ g' : Nat → Nat, ∃ tr' : Bool, wv = .int .i64 (gk : Int) ∧ n = .int .u64 n' ∧ n' < T ∧ gk ≤ δ ∧ Hid (pre g nd * T / 10 ^ (nd + δ - gk) = n') ∧ Hid (Lm g g' (pre g nd * T) (nd + δ) gk tr tr') ∧ Hid (Dc wr b g' nd dp tr') ∧ Hid (w.grownBy wr (some b)))
      case atStart => exact ⟨n, g', tr', by go_num, rfl, hn1, Nat.le_refl _, HQ0, HL0, HDr, HG⟩
      case round =>
        obtain ⟨n, g', tr', rfl, rfl, hn1, hgn, HQ, HL, HDr, HG⟩ := hrel
        rcases Nat.eq_zero_or_pos gk with h00 | h00
        · subst h00
          have hnz : n = 0 := by rw [← HQ.out]; exact Nat.div_eq_of_lt HB.out.2
          subst hnz
          have e0 := HDr.out.nd_
          have e1 := HDr.out.dp_
          have f0 := HDr.out.free 800
          have f1 := HDr.out.free 801
          have HLE := Lib.hid (Lm.end_ (k := k) (dp := dp) (by rw [← HT.out]; exact HL.out) h0 hn (by rw [← HT.out]; exact HB.out.1) (by rw [← HT.out]; exact HB.out.2) (by omega))
          rcases Nat.lt_or_ge (nd + δ) 800 with h8 | h8
          · have HDz := Lib.hid (show Dc _ b g' (nd + δ) (dp + (δ : Int)) tr' from ((HDr.out.setNd (nd + δ)).setDp (dp + (δ : Int))))
            go_wp2_with (go_at_call 151; refine (strim_any b g' (nd + δ) (dp + (δ : Int)) tr' (by omega) _ HDz.out).mono ?_; rintro e w' ⟨rfl, hD', hG'⟩; have HDv := Lib.hid hD'; have HGv := Lib.hid hG'; clear hD' hG')
            go_end0
            obtain ⟨k1, k2⟩ := HLE.out
            rw [Nat.min_eq_left (Nat.le_of_lt h8)] at k1 k2
            refine ⟨rfl, g', tzN g' (nd + δ), dp + (δ : Int), tr', ?_, k1.trim, tz_last (tz_pos k1.lead k1.pos), by omega, by omega, ?_, ?_⟩
            · have h := HDv.out
              rw [if_neg (by have := tz_pos k1.lead k1.pos; omega)] at h
              exact h
            · rw [dV_trim k1 (by omega)]; exact k2
            · exact (only_setCell (only_setCell HG.out (.inl rfl) _) (.inl rfl) _).trans HGv.out
          · have HDz := Lib.hid (show Dc _ b g' 800 (dp + (δ : Int)) tr' from (((HDr.out.setNd (nd + δ)).setNd 800).setDp (dp + (δ : Int))))
            go_wp2_with (go_at_call 151; refine (strim_any b g' 800 (dp + (δ : Int)) tr' (by omega) _ HDz.out).mono ?_; rintro e w' ⟨rfl, hD', hG'⟩; have HDv := Lib.hid hD'; have HGv := Lib.hid hG'; clear hD' hG')
            go_end0
            obtain ⟨k1, k2⟩ := HLE.out
            rw [Nat.min_eq_right h8] at k1 k2
            refine ⟨rfl, g', tzN g' 800, dp + (δ : Int), tr', ?_, k1.trim, tz_last (tz_pos k1.lead k1.pos), by omega, by omega, ?_, ?_⟩
            · have h := HDv.out
              rw [if_neg (by have := tz_pos k1.lead k1.pos; omega)] at h
              exact h
            · rw [dV_trim k1 (by omega)]; exact k2
            · exact (only_setCell (only_setCell (only_setCell HG.out (.inl rfl) _) (.inl rfl) _) (.inl rfl) _).trans HGv.out
        · obtain ⟨m, rfl⟩ : ∃ m, gk = m + 1 := ⟨gk - 1, by omega⟩
          have hnpos : 0 < n := by
            rw [← HQ.out]
            refine Nat.div_pos (Nat.le_trans (Nat.pow_le_pow_right (by decide) (by omega)) HB.out.1) (Nat.pow_pos (by decide))
          have HQ2 := Lib.hid (show pre g nd * T / 10 ^ (nd + δ - m) = n / 10 by rw [show nd + δ - m = nd + δ - (m + 1) + 1 by omega]; exact div_ten HQ.out)
          by_cases hw8 : m < 800
          · have f1 := HDr.out.free m
            have f2 := HDr.out.dig (i := m) hw8
            have HL3 := Lib.hid (HL.out.put_ (by omega) HQ.out hw8)
            clear HQ HL
            go_wp2_with fail
            go_roundg m
            case rel => exact ⟨n / 10, updG g' m (n % 10 + 48), tr', by go_num, by go_num, by omega, by omega, HQ2, HL3, Lib.hid (by rw [show ((n : Int) - 10 * ((n : Int) / 10) + 48) = ((n % 10 + 48 : Nat) : Int) by omega]; exact HDr.out.setDig _ hw8), only_setCell HG.out (.inl rfl) _⟩
            case measure => omega
          · exact absurd hw8 (by omega)
    · obtain ⟨m, rfl⟩ : ∃ m, gk = m + 1 := ⟨gk - 1, by omega⟩
      have e1 := HDr.out.dig (i := m) (by omega)
      rw [HE.out m (by omega)] at e1
      obtain ⟨d2, d3⟩ := HOK.out.dig m (by omega)
      have hc9 : g m - 48 ≤ 9 := by omega
      have hsl := HSL (g m - 48) hc9
      rw [show ((g m - 48 : Nat) : Int) = (g m : Int) - 48 by omega] at hsl
      have hcT : (g m - 48) * T ≤ 9 * T := Nat.mul_le_mul_right _ hc9
      generalize hcv : (g m - 48) * T = cT at *
      have HCV := Lib.hid hcv
      clear hcv
      have HK := Lib.hid (carry (P := pre g m) (P' := pre g (m + 1)) (c := g m - 48) (T := T) (n := n) rfl HQ.out)
      rw [HCV.out, show nd + δ - (m + 1 + δ) + 1 = nd + δ - (m + δ) by omega] at HK
      have HQ2 := Lib.hid (show pre g nd * T / 10 ^ (nd + δ - (m + δ + 1)) = pre g (m + 1) * T + n by rw [← HQ.out, show m + δ + 1 = m + 1 + δ by omega])
      have HL2 := Lib.hid (show Lm g g' (pre g nd * T) (nd + δ) (m + δ + 1) tr tr' by rw [show m + δ + 1 = m + 1 + δ by omega]; exact HL.out)
      clear HQ HL
      by_cases hw8 : m + δ < 800
      · have f1 := HDr.out.free (m + δ)
        have f2 := HDr.out.dig (i := m + δ) hw8
        have HL3 := Lib.hid (HL2.out.put_ (by omega) HQ2.out hw8)
        rw [HK.out.2] at HL3
        go_wp2_with fail
        go_roundg m
        case rel => exact ⟨(n + cT) / 10, updG g' (m + δ) ((n + cT) % 10 + 48), tr', by go_num, by go_num, by go_num, by omega, by omega, HK.out.1, HL3, fun i hi => by rw [updG_ne _ _ (by omega)]; exact HE.out i (by omega), Lib.hid (by rw [show ((n : Int) + (cT : Int) - 10 * (((n : Int) + (cT : Int)) / 10) + 48) = (((n + cT) % 10 + 48 : Nat) : Int) by omega]; exact HDr.out.setDig _ hw8), only_setCell HG.out (.inl rfl) _⟩
        case measure => omega
      · have f1 := HDr.out.free 803
        have f2 := HDr.out.tr_
        rcases Nat.eq_zero_or_pos ((n + cT) % 10) with hz | hz
        · have HL3 := Lib.hid (HL2.out.drop (tr2 := tr') (by omega) HQ2.out (by omega) (by rw [HK.out.2, if_pos hz]))
          go_wp2_with fail
          go_roundg m
          case rel => exact ⟨(n + cT) / 10, g', tr', by go_num, by go_num, by go_num, by omega, by omega, HK.out.1, HL3, fun i hi => HE.out i (by omega), HDr.out, HG.out⟩
          case measure => omega
        · have HL3 := Lib.hid (HL2.out.drop (tr2 := true) (by omega) HQ2.out (by omega) (by rw [HK.out.2, if_neg (by omega)]))
          go_wp2_with fail
          go_roundg m
          case rel => exact ⟨(n + cT) / 10, g', true, by go_num, by go_num, by go_num, by omega, by omega, HK.out.1, HL3, fun i hi => HE.out i (by omega), HDr.out.setTr _, only_setCell HG.out (.inl rfl) _⟩
          case measure => omega
set_option maxRecDepth 100000 in
set_option maxHeartbeats 2000000 in
theorem ls_f (b : Nat) (g : Nat → Nat) (nd k T δ cap : Nat) (dp : Int) (tr : Bool) (ad : Addr) (S : ByteArray) (hok : Dok g nd) (w : World) (hD : Dc w b g nd dp tr) (hk : k ≤ 60) (hT0 : 0 < T) (hT : T ≤ 1152921504606846976)
    (hd1 : -1000 ≤ dp) (hd2 : dp ≤ 1000) (hΔ2 : δ ≤ 19) (HT : Hid (T = 2 ^ k)) (HSL : ∀ c : Nat, c ≤ 9 → IntKind.u64.wrap ((c : Int) * 2 ^ k) = ((c * T : Nat) : Int))
    (HB : Hid (10 ^ (nd + δ - 1) ≤ pre g nd * T ∧ pre g nd * T < 10 ^ (nd + δ)))
    (c1 : w.cell? ⟨9, 0, none⟩ = some (.slice (some ad) 61 cap)) (c2 : w.cell? (ad.add (k * 2)) = some (.int .i64 (δ : Int))) (c3 : w.cell? ⟨(ad.add (k * 2)).block, (ad.add (k * 2)).off + 1, none⟩ = some (.string S))
    (HP : Hid (∀ w, Dc w b g nd dp tr → Calls Tryz.prog 166 #[.slice (some ⟨b, 0, none⟩) nd 800, .string S] w fun e w' => e = .returned (.bool false) ∧ ∃ m, w' = w.drewN m)) :
    Calls Tryz.prog 152 #[.pointer (some ⟨b, 0, none⟩), .int .u64 (k : Int)] w (ShPost (dV g nd dp * 2 ^ k) 1 b dp tr w) := by
  have HD := Lib.hid hD
  have HOK := Lib.hid hok
  have hn := hok.le
  have h0 := hok.pos
  have d1 := hD.nd_
  clear hok hD
  have es := sl_eq b nd hn
  have i3 : (k : Int) < 61 := by omega
  go_enter Tryz.func152, Tryz.ntmps152
  go_wp2_with fail
  go_quiet ((go_at_call 166; exact Calls.quiet_of (HP.out _ (HD.out.drewN _))))
  go_wp2_with fail
  have HD0 := Lib.hid (HD.out.drewN nq)
  have HG0 := Lib.hid (only_drewN (World.grownBy.refl w (some b)) nq)
  have HL0 := Lib.hid (Lm.start (g := g) (M := pre g nd * T) (N := nd + δ) (tr := tr))
  generalize w.drewN nq = w1 at *
  go_loopg [5, 6, 7] nd (fun gk r wv n wr => ∃ n' : Nat, ∃ g' : Nat → Nat, ∃ tr' : Bool, r = .int .i64 ((gk : Int) - 1) ∧ wv = .int .i64 ((gk : Int) + (δ : Int)) ∧ n = .int .u64 n' ∧ n' < T ∧ gk ≤ nd ∧ Hid (pre g nd * T / 10 ^ (nd + δ - (gk + δ)) = pre g gk * T + n') ∧ Hid (Lm g g' (pre g nd * T) (nd + δ) (gk + δ) tr tr') ∧ Hid (∀ i, i < gk → g' i = g i) ∧ Hid (Dc wr b g' nd dp tr') ∧ Hid (w.grownBy wr (some b)))
  case atStart => exact ⟨0, g, tr, rfl, rfl, rfl, hT0, Nat.le_refl _, Lib.hid (by rw [Nat.sub_self, Nat.pow_zero, Nat.div_one]; rfl), HL0, fun _ _ => rfl, HD0, HG0⟩
  case round =>
    obtain ⟨n, g', tr', rfl, rfl, rfl, hn1, hgn, HQ, HL, HE, HDr, HG⟩ := hrel
    rcases Nat.eq_zero_or_pos gk with h00 | h00
    · subst h00
      have HQ0 := Lib.hid (show pre g nd * T / 10 ^ (nd + δ - δ) = n by rw [← Nat.zero_add δ, ← Nat.add_assoc, Nat.add_zero]; have := HQ.out; rw [this]; show 0 * T + n = n; omega)
      have HL0 := Lib.hid (show Lm g g' (pre g nd * T) (nd + δ) δ tr tr' by have := HL.out; rw [Nat.zero_add] at this; exact this)
      clear HQ HL HE
      go_wp2_with fail
      go_loopg [6, 7] δ (fun gk wv n wr => ∃ n' : Nat, ∃ g' : Nat → Nat, ∃ tr' : Bool, wv = .int .i64 (gk : Int) ∧ n = .int .u64 n' ∧ n' < T ∧ gk ≤ δ ∧ Hid (pre g nd * T / 10 ^ (nd + δ - gk) = n') ∧ Hid (Lm g g' (pre g nd * T) (nd + δ) gk tr tr') ∧ Hid (Dc wr b g' nd dp tr') ∧ Hid (w.grownBy wr (some b)))
      case atStart => exact ⟨n, g', tr', by go_num, rfl, hn1, Nat.le_refl _, HQ0, HL0, HDr, HG⟩
      case round =>
        obtain ⟨n, g', tr', rfl, rfl, hn1, hgn, HQ, HL, HDr, HG⟩ := hrel
        rcases Nat.eq_zero_or_pos gk with h00 | h00
        · subst h00
          have hnz : n = 0 := by rw [← HQ.out]; exact Nat.div_eq_of_lt HB.out.2
          subst hnz
          have e0 := HDr.out.nd_
          have e1 := HDr.out.dp_
          have f0 := HDr.out.free 800
          have f1 := HDr.out.free 801
          have HLE := Lib.hid (Lm.end_ (k := k) (dp := dp) (by rw [← HT.out]; exact HL.out) h0 hn (by rw [← HT.out]; exact HB.out.1) (by rw [← HT.out]; exact HB.out.2) (by omega))
          rcases Nat.lt_or_ge (nd + δ) 800 with h8 | h8
          · have HDz := Lib.hid (show Dc _ b g' (nd + δ) (dp + (δ : Int)) tr' from ((HDr.out.setNd (nd + δ)).setDp (dp + (δ : Int))))
            go_wp2_with (go_at_call 151; refine (strim_any b g' (nd + δ) (dp + (δ : Int)) tr' (by omega) _ HDz.out).mono ?_; rintro e w' ⟨rfl, hD', hG'⟩; have HDv := Lib.hid hD'; have HGv := Lib.hid hG'; clear hD' hG')
            go_end0
            obtain ⟨k1, k2⟩ := HLE.out
            rw [Nat.min_eq_left (Nat.le_of_lt h8)] at k1 k2
            refine ⟨rfl, g', tzN g' (nd + δ), dp + (δ : Int), tr', ?_, k1.trim, tz_last (tz_pos k1.lead k1.pos), by omega, by omega, ?_, ?_⟩
            · have h := HDv.out
              rw [if_neg (by have := tz_pos k1.lead k1.pos; omega)] at h
              exact h
            · rw [dV_trim k1 (by omega)]; exact k2
            · exact (only_setCell (only_setCell HG.out (.inl rfl) _) (.inl rfl) _).trans HGv.out
          · have HDz := Lib.hid (show Dc _ b g' 800 (dp + (δ : Int)) tr' from (((HDr.out.setNd (nd + δ)).setNd 800).setDp (dp + (δ : Int))))
            go_wp2_with (go_at_call 151; refine (strim_any b g' 800 (dp + (δ : Int)) tr' (by omega) _ HDz.out).mono ?_; rintro e w' ⟨rfl, hD', hG'⟩; have HDv := Lib.hid hD'; have HGv := Lib.hid hG'; clear hD' hG')
            go_end0
            obtain ⟨k1, k2⟩ := HLE.out
            rw [Nat.min_eq_right h8] at k1 k2
            refine ⟨rfl, g', tzN g' 800, dp + (δ : Int), tr', ?_, k1.trim, tz_last (tz_pos k1.lead k1.pos), by omega, by omega, ?_, ?_⟩
            · have h := HDv.out
              rw [if_neg (by have := tz_pos k1.lead k1.pos; omega)] at h
              exact h
            · rw [dV_trim k1 (by omega)]; exact k2
            · exact (only_setCell (only_setCell (only_setCell HG.out (.inl rfl) _) (.inl rfl) _) (.inl rfl) _).trans HGv.out
        · obtain ⟨m, rfl⟩ : ∃ m, gk = m + 1 := ⟨gk - 1, by omega⟩
          have hnpos : 0 < n := by
            rw [← HQ.out]
            refine Nat.div_pos (Nat.le_trans (Nat.pow_le_pow_right (by decide) (by omega)) HB.out.1) (Nat.pow_pos (by decide))
          have HQ2 := Lib.hid (show pre g nd * T / 10 ^ (nd + δ - m) = n / 10 by rw [show nd + δ - m = nd + δ - (m + 1) + 1 by omega]; exact div_ten HQ.out)
          by_cases hw8 : m < 800
          · have f1 := HDr.out.free m
            have f2 := HDr.out.dig (i := m) hw8
            have HL3 := Lib.hid (HL.out.put_ (by omega) HQ.out hw8)
            clear HQ HL
            go_wp2_with fail
            go_roundg m
            case rel => exact ⟨n / 10, updG g' m (n % 10 + 48), tr', by go_num, by go_num, by omega, by omega, HQ2, HL3, Lib.hid (by rw [show ((n : Int) - 10 * ((n : Int) / 10) + 48) = ((n % 10 + 48 : Nat) : Int) by omega]; exact HDr.out.setDig _ hw8), only_setCell HG.out (.inl rfl) _⟩
            case measure => omega
          · exact absurd hw8 (by omega)
    · obtain ⟨m, rfl⟩ : ∃ m, gk = m + 1 := ⟨gk - 1, by omega⟩
      have e1 := HDr.out.dig (i := m) (by omega)
      rw [HE.out m (by omega)] at e1
      obtain ⟨d2, d3⟩ := HOK.out.dig m (by omega)
      have hc9 : g m - 48 ≤ 9 := by omega
      have hsl := HSL (g m - 48) hc9
      rw [show ((g m - 48 : Nat) : Int) = (g m : Int) - 48 by omega] at hsl
      have hcT : (g m - 48) * T ≤ 9 * T := Nat.mul_le_mul_right _ hc9
      generalize hcv : (g m - 48) * T = cT at *
      have HCV := Lib.hid hcv
      clear hcv
      have HK := Lib.hid (carry (P := pre g m) (P' := pre g (m + 1)) (c := g m - 48) (T := T) (n := n) rfl HQ.out)
      rw [HCV.out, show nd + δ - (m + 1 + δ) + 1 = nd + δ - (m + δ) by omega] at HK
      have HQ2 := Lib.hid (show pre g nd * T / 10 ^ (nd + δ - (m + δ + 1)) = pre g (m + 1) * T + n by rw [← HQ.out, show m + δ + 1 = m + 1 + δ by omega])
      have HL2 := Lib.hid (show Lm g g' (pre g nd * T) (nd + δ) (m + δ + 1) tr tr' by rw [show m + δ + 1 = m + 1 + δ by omega]; exact HL.out)
      clear HQ HL
      by_cases hw8 : m + δ < 800
      · have f1 := HDr.out.free (m + δ)
        have f2 := HDr.out.dig (i := m + δ) hw8
        have HL3 := Lib.hid (HL2.out.put_ (by omega) HQ2.out hw8)
        rw [HK.out.2] at HL3
        go_wp2_with fail
        go_roundg m
        case rel => exact ⟨(n + cT) / 10, updG g' (m + δ) ((n + cT) % 10 + 48), tr', by go_num, by go_num, by go_num, by omega, by omega, HK.out.1, HL3, fun i hi => by rw [updG_ne _ _ (by omega)]; exact HE.out i (by omega), Lib.hid (by rw [show ((n : Int) + (cT : Int) - 10 * (((n : Int) + (cT : Int)) / 10) + 48) = (((n + cT) % 10 + 48 : Nat) : Int) by omega]; exact HDr.out.setDig _ hw8), only_setCell HG.out (.inl rfl) _⟩
        case measure => omega
      · have f1 := HDr.out.free 803
        have f2 := HDr.out.tr_
        rcases Nat.eq_zero_or_pos ((n + cT) % 10) with hz | hz
        · have HL3 := Lib.hid (HL2.out.drop (tr2 := tr') (by omega) HQ2.out (by omega) (by rw [HK.out.2, if_pos hz]))
          go_wp2_with fail
          go_roundg m
          case rel => exact ⟨(n + cT) / 10, g', tr', by go_num, by go_num, by go_num, by omega, by omega, HK.out.1, HL3, fun i hi => HE.out i (by omega), HDr.out, HG.out⟩
          case measure => omega
        · have HL3 := Lib.hid (HL2.out.drop (tr2 := true) (by omega) HQ2.out (by omega) (by rw [HK.out.2, if_neg (by omega)]))
          go_wp2_with fail
          go_roundg m
          case rel => exact ⟨(n + cT) / 10, g', true, by go_num, by go_num, by go_num, by omega, by omega, HK.out.1, HL3, fun i hi => HE.out i (by omega), HDr.out.setTr _, only_setCell HG.out (.inl rfl) _⟩
          case measure => omega

end Go.Proofs.YtijncfidjjfmiaaGreatDoor

namespace Go.Proofs.YtijncfidjjfmiaaGreatDoor
open Go.RowKit FloM

/-- The cheats' table. -/
def lcR (k : Nat) : Nat × List UInt8 := Go.Pinned.cheatRows.getD k (0, [])
def lcDig (c : List UInt8) : Bool := c.all (fun x => Nat.ble 48 x.toNat && Nat.ble x.toNat 57)
def lcOk (i : Nat) : Bool :=
  Nat.ble 1 (lcR (i + 1)).1 && Nat.ble (lcR (i + 1)).1 19 && Nat.ble (10 ^ ((lcR (i + 1)).1 - 1)) (2 ^ (i + 1)) && Nat.ble (2 ^ (i + 1)) (10 ^ (lcR (i + 1)).1) && Nat.beq ((lcR (i + 1)).2.length + (lcR (i + 1)).1) (i + 1 + 1) &&
    Nat.beq (pre (sb (lcR (i + 1)).2) (lcR (i + 1)).2.length) (5 ^ (i + 1)) && lcDig (lcR (i + 1)).2 && !(Nat.beq (sb (lcR (i + 1)).2 ((lcR (i + 1)).2.length - 1)) 48) && Nat.ble (lcR (i + 1)).2.length 60
theorem lc_ok : below lcOk 60 = true := by decide +kernel
theorem lc_spec {k : Nat} (h1 : 1 ≤ k) (h2 : k ≤ 60) : lcOk (k - 1) = true := below_of lc_ok _ (by omega)

/-- The table in memory, below B. -/
structure Lc (w : World) (B : Nat) (ad : Addr) (cap : Nat) : Prop where
  gl : 9 < B
  ab : ad.block < B
  sl : w.cell? ⟨9, 0, none⟩ = some (.slice (some ad) 61 cap)
  row : ∀ k, k < 61 → w.cell? (ad.add (k * 2)) = some (.int .i64 ((lcR k).1 : Int)) ∧ w.cell? (ad.add (k * 2 + 1)) = some (.string ⟨(lcR k).2.toArray⟩)
theorem Lc.keep {w w' : World} {B : Nat} {ad : Addr} {cap : Nat} (h : Lc w B ad cap) (hk : ∀ p : Addr, p.block < B → w'.cell? p = w.cell? p) : Lc w' B ad cap :=
  ⟨h.gl, h.ab, (hk ⟨_, 0, none⟩ h.gl).trans h.sl, fun k hk2 => ⟨(hk _ (by rw [block_of_add]; exact h.ab)).trans (h.row k hk2).1, (hk _ (by rw [block_of_add]; exact h.ab)).trans (h.row k hk2).2⟩⟩
theorem Lc.grown {w w' : World} {B b : Nat} {ad : Addr} {cap : Nat} (h : Lc w B ad cap) (hg : w.grownBy w' (some b)) (hB : B ≤ b) (hs : B ≤ w.heap.size) : Lc w' B ad cap :=
  h.keep fun p hp => World.cell?_of_block (hg.block p.block (by omega) (fun e => by cases e; omega))

theorem lshift_any (b : Nat) (g : Nat → Nat) (nd k : Nat) (dp : Int) (tr : Bool) (hok : Dok g nd) (w : World) (hD : Dc w b g nd dp tr) (hk1 : 1 ≤ k) (hk : k ≤ 60) (hd1 : -1000 ≤ dp) (hd2 : dp ≤ 1000) {B cap : Nat} {ad : Addr} (hlc : Lc w B ad cap) :
    Calls Tryz.prog 152 #[.pointer (some ⟨b, 0, none⟩), .int .u64 (k : Int)] w (ShPost (dV g nd dp * 2 ^ k) 1 b dp tr w) := by
  have hs := lc_spec hk1 hk
  unfold lcOk at hs
  rw [show k - 1 + 1 = k by omega] at hs
  simp only [Bool.and_eq_true, Nat.ble_eq, Nat.beq_eq] at hs
  obtain ⟨⟨⟨⟨⟨⟨⟨⟨s1, s2⟩, s3⟩, s4⟩, s5⟩, s6⟩, s7⟩, s8⟩, s9⟩ := hs
  obtain ⟨r1, r2⟩ := hlc.row k (by omega)
  have hT := two60 hk
  have hT0 := Nat.two_pow_pos k
  have hdig : ∀ i, i < (lcR k).2.length → 48 ≤ sb (lcR k).2 i ∧ sb (lcR k).2 i ≤ 57 := fun i hi => by
    obtain ⟨x, hx⟩ : ∃ x, (lcR k).2[i]? = some x := ⟨_, List.getElem?_eq_getElem hi⟩
    rw [sb_at hx]
    have := List.all_eq_true.1 s7 x (List.mem_of_getElem? hx)
    rw [Bool.and_eq_true, Nat.ble_eq, Nat.ble_eq] at this
    exact this
  have hlast : sb (lcR k).2 ((lcR k).2.length - 1) ≠ 48 := by
    intro h
    rw [h] at s8
    exact absurd s8 (by decide)
  have hsz : (ByteArray.mk (lcR k).2.toArray).size = (lcR k).2.length := by simp [ByteArray.size]
  have HP := Lib.hid (fun w (hw : Dc w b g nd dp tr) => prefix_any' b nd 800 (lcR k).2.length g dp tr ⟨(lcR k).2.toArray⟩ (lcR k).2 hok rfl hsz s9
    (fun i x hx hi => by
      obtain ⟨h1, h2⟩ := List.getElem?_eq_some_iff.1 hx
      exact h2) hdig hlast w hw)
  have hcore := delta_core (k := k) (Δ := (lcR k).1) hok s6 (by omega) s1 s3 s4
  have HSL : ∀ c : Nat, c ≤ 9 → IntKind.u64.wrap ((c : Int) * 2 ^ k) = ((c * 2 ^ k : Nat) : Int) := fun c hc => by
    have e : ((2 : Int) ^ k) = ((2 ^ k : Nat) : Int) := by rw [Int.natCast_pow]; rfl
    rw [e, ← Int.natCast_mul]
    have h9 : c * 2 ^ k ≤ 9 * 2 ^ k := Nat.mul_le_mul_right _ hc
    generalize c * 2 ^ k = x at *
    generalize 2 ^ k = T at *
    simp [IntKind.wrap, IntKind.signed, IntKind.bits]; omega
  have e3 : ad.add (k * 2 + 1) = ⟨(ad.add (k * 2)).block, (ad.add (k * 2)).off + 1, none⟩ := by
    rw [← add_of_add]
    unfold Addr.add
    rw [if_neg (by decide : ¬ 1 = 0)]
  rw [e3] at r2
  by_cases hless : pre g nd * 10 ^ (lcR k).2.length < pre (sb (lcR k).2) (lcR k).2.length * 10 ^ nd
  · rw [decide_eq_true hless] at HP
    have hb := hcore true ⟨fun _ => hless, fun _ => rfl⟩
    exact ls_t b g nd k (2 ^ k) (lcR k).1 ((lcR k).1 - 1) cap dp tr ad _ hok w hD hk hT0 hT hd1 hd2 (by omega) s2 rfl HSL hb hlc.sl r1 r2 HP
  · rw [decide_eq_false hless] at HP
    have hb := hcore false ⟨fun h => (by cases h), fun h => absurd h hless⟩
    exact ls_f b g nd k (2 ^ k) (lcR k).1 cap dp tr ad _ hok w hD hk hT0 hT hd1 hd2 s2 rfl HSL hb hlc.sl r1 r2 HP
end Go.Proofs.YtijncfidjjfmiaaGreatDoor

namespace Go.Proofs.YtijncfidjjfmiaaGreatDoor
open Go.RowKit FloM

set_option maxRecDepth 100000 in
set_option maxHeartbeats 1000000 in
theorem shift_l (b : Nat) (g : Nat → Nat) (nd k : Nat) (dp : Int) (tr : Bool) (hok : Dok g nd) (w : World) (hD : Dc w b g nd dp tr) (hk1 : 1 ≤ k) (hk : k ≤ 60) (hd1 : -1000 ≤ dp) (hd2 : dp ≤ 1000) {B cap : Nat} {ad : Addr} (hlc : Lc w B ad cap) :
    Calls Tryz.prog 116 #[.pointer (some ⟨b, 0, none⟩), .int .i64 (k : Int)] w (ShPost (dV g nd dp * 2 ^ k) 1 b dp tr w) := by
  have HC := Lib.hid (lshift_any b g nd k dp tr hok w hD hk1 hk hd1 hd2 hlc)
  have c1 := hD.nd_
  have h0 := hok.pos
  have q0 : ((nd : Int) == 0) = false := beq_eq_false_iff_ne.2 (by omega)
  have q1 : decide ((0 : Int) < (k : Int)) = true := decide_eq_true (by omega)
  have q2 : decide ((60 : Int) < (k : Int)) = false := decide_eq_false (by omega)
  generalize dV g nd dp * 2 ^ k = X at *
  clear hok hD hlc
  go_enter Tryz.func116, Tryz.ntmps116
  go_wp2_with fail
  go_loopg [1] 0 (fun gk kv wr => kv = .int .i64 (k : Int) ∧ wr = w)
  case atStart => exact ⟨rfl, rfl⟩
  case round =>
    obtain ⟨rfl, rfl⟩ := hrel
    go_wp2_with ((go_at_call 152; ((with_reducible refine (HC.out).mono ?_); rintro e w' hp; have HP := Lib.hid hp; have he := hp.1; subst he; clear hp)))
    go_end0
    exact HP.out

set_option maxRecDepth 100000 in
set_option maxHeartbeats 1000000 in
theorem shift_r (b : Nat) (g : Nat → Nat) (nd k : Nat) (dp : Int) (tr : Bool) (hok : Dok g nd) (w : World) (hD : Dc w b g nd dp tr) (hk1 : 1 ≤ k) (hk : k ≤ 60) (hd1 : -1000 ≤ dp) (hd2 : dp ≤ 1000) :
    Calls Tryz.prog 116 #[.pointer (some ⟨b, 0, none⟩), .int .i64 (-(k : Int))] w (ShPost (dV g nd dp) (2 ^ k) b dp tr w) := by
  have HC := Lib.hid (rshift_any b g nd k dp tr hok w hD hk hd1 hd2)
  have c1 := hD.nd_
  have h0 := hok.pos
  have q0 : ((nd : Int) == 0) = false := beq_eq_false_iff_ne.2 (by omega)
  have q1 : decide ((0 : Int) < -(k : Int)) = false := decide_eq_false (by omega)
  have q3 : decide (-(k : Int) < 0) = true := decide_eq_true (by omega)
  have q2 : decide (-(k : Int) < -60) = false := decide_eq_false (by omega)
  generalize dV g nd dp = X at *
  generalize 2 ^ k = m at *
  clear hok hD
  go_enter Tryz.func116, Tryz.ntmps116
  go_wp2_with fail
  go_loopg [1] 0 (fun gk kv wr => kv = .int .i64 (-(k : Int)) ∧ wr = w)
  case atStart => exact ⟨rfl, rfl⟩
  case round =>
    obtain ⟨rfl, rfl⟩ := hrel
    go_wp2_with ((go_at_call 153; ((with_reducible refine (HC.out).mono ?_); rintro e w' hp; have HP := Lib.hid hp; have he := hp.1; subst he; clear hp)))
    go_end0
    exact HP.out

/-- Two shifts to the right. -/
def ShPost2 (X b k : Nat) (dp : Int) (tr : Bool) (w : World) (e : Ending) (w' : World) : Prop :=
  ∃ (g1 : Nat → Nat) (nd1 : Nat) (dp1 : Int) (tr1 : Bool) (w1 : World), (Dc w1 b g1 nd1 dp1 tr1 ∧ Dok g1 nd1 ∧ dp - 20 ≤ dp1 ∧ dp1 ≤ dp + 20 ∧ Cut X (dV g1 nd1 dp1) (2 ^ 60) (dp1 - 800 + oo).toNat tr tr1 ∧ w.grownBy w1 (some b)) ∧ ShPost (dV g1 nd1 dp1) (2 ^ k) b dp1 tr1 w1 e w'

set_option maxRecDepth 100000 in
set_option maxHeartbeats 1000000 in
theorem shift_r2 (b : Nat) (g : Nat → Nat) (nd k : Nat) (dp : Int) (tr : Bool) (hok : Dok g nd) (w : World) (hD : Dc w b g nd dp tr) (hk1 : 1 ≤ k) (hk : k ≤ 60) (hd1 : -980 ≤ dp) (hd2 : dp ≤ 980) :
    Calls Tryz.prog 116 #[.pointer (some ⟨b, 0, none⟩), .int .i64 (-((k : Int) + 60))] w (ShPost2 (dV g nd dp) b k dp tr w) := by
  have HC : Hid (Calls Tryz.prog 153 #[.pointer (some ⟨b, 0, none⟩), .int .u64 60] w (ShPost (dV g nd dp) (2 ^ 60) b dp tr w)) := Lib.hid (rshift_any b g nd 60 dp tr hok w hD (by decide) (by omega) (by omega))
  have HC2 := Lib.hid (fun (w : World) (g : Nat → Nat) (nd : Nat) (dp : Int) (tr : Bool) (hD : Dc w b g nd dp tr) (hok : Dok g nd) (hd1 : -1000 ≤ dp) (hd2 : dp ≤ 1000) => rshift_any b g nd k dp tr hok w hD hk hd1 hd2)
  have c1 := hD.nd_
  have h0 := hok.pos
  have q0 : ((nd : Int) == 0) = false := beq_eq_false_iff_ne.2 (by omega)
  have q1 : decide ((0 : Int) < -((k : Int) + 60)) = false := decide_eq_false (by omega)
  have q3 : decide (-((k : Int) + 60) < 0) = true := decide_eq_true (by omega)
  have q2 : decide (-((k : Int) + 60) < -60) = true := decide_eq_true (by omega)
  have q5 : decide ((0 : Int) < (k : Int) + 60) = true := decide_eq_true (by omega)
  have q6 : decide ((k : Int) + 60 < 0) = false := decide_eq_false (by omega)
  have q4 : decide (-(k : Int) < -60) = false := decide_eq_false (by omega)
  clear hok hD
  go_enter Tryz.func116, Tryz.ntmps116
  go_wp2_with fail
  go_loopg [1] 1 (fun gk kv wr => (gk = 1 ∧ kv = .int .i64 (-((k : Int) + 60)) ∧ wr = w) ∨ (gk = 0 ∧ kv = .int .i64 (-(k : Int)) ∧ Hid (∃ e, ShPost (dV g nd dp) (2 ^ 60) b dp tr w e wr)))
  case atStart => exact .inl ⟨rfl, rfl, rfl⟩
  case round =>
    rcases hrel with ⟨rfl, rfl, rfl⟩ | ⟨rfl, rfl, hmid⟩
    · go_wp2_with ((go_at_call 153; ((with_reducible refine (HC.out).mono ?_); rintro e w' hp; have HP := Lib.hid hp; have he := hp.1; subst he; clear hp)))
      go_roundg 0
      case rel => exact .inr ⟨rfl, by go_num, ⟨_, HP.out⟩⟩
      case measure => omega
    · obtain ⟨e0, he0, g1, nd1, dp1, tr1, k1, k2, k3, k4, k5, k6, k7⟩ := hmid.out
      have HM := Lib.hid (And.intro k2 (And.intro k6 (And.intro k7 k1)))
      have HC3 := Lib.hid (HC2.out wr g1 nd1 dp1 tr1 k1 k2 (by omega) (by omega))
      clear k1 k2 k3 k6 k7 he0 hmid
      go_wp2_with ((go_at_call 153; ((with_reducible refine (HC3.out).mono ?_); rintro e w' hp; have HP := Lib.hid hp; have he := hp.1; subst he; clear hp)))
      go_end0
      exact ⟨g1, nd1, dp1, tr1, wr, ⟨HM.out.2.2.2, HM.out.1, k4, k5, HM.out.2.1, HM.out.2.2.1⟩, HP.out⟩
end Go.Proofs.YtijncfidjjfmiaaGreatDoor
