/- The reference's run, amount, capped. -/
import Derived.Test.YtijncfidjjfmiaaGreatDoorFloParC
import Derived.Deep.RegionHeld3
namespace Go.Proofs.YtijncfidjjfmiaaGreatDoor
open Go.RowKit FloM

theorem Digs.nil : Digs [] := fun c hc => by cases hc
set_option maxRecDepth 100000 in
set_option maxHeartbeats 1000000 in
theorem run_any (s : List UInt8) (t : Nat) (ht : t ≤ s.length) (hs : s.length ≤ 5000) (w : World) :
    Calls Tryz.prog 66 #[.string ⟨s.toArray⟩, .int .i64 (t : Int)] w fun e w' => e = .returned (.int .i64 (lead (s.drop t) : Nat)) ∧ w = w' := by
  have hsz : (ByteArray.mk s.toArray).size = s.length := size_mk s
  have hl0 := lead_le (s.drop t)
  rw [List.length_drop] at hl0
  have HLL := Lib.hid (fun k => lead_is (s := s.drop t) (k := k))
  have HLE := Lib.hid (lead_end (s := s.drop t))
  have hdr : ∀ k, (s.drop t)[k]? = s[t + k]? := fun k => List.getElem?_drop
  have HDR := Lib.hid hdr
  have HLN := Lib.hid (show (s.drop t).length = s.length - t from List.length_drop)
  generalize lead (s.drop t) = L at *
  clear hdr
  go_enter Tryz.func66, Tryz.ntmps66
  go_wp2
  go_loopg [5] L (fun gk iv wr => wr = w ∧ ∃ k : Nat, k + gk = L ∧ iv = .int .i64 k)
  case atStart => exact ⟨rfl, 0, by omega, rfl⟩
  case round =>
    obtain ⟨rfl, k, hk, rfl⟩ := hrel
    by_cases hlt : k < L
    · obtain ⟨c, hc, hd⟩ := HLL.out k hlt
      rw [HDR.out] at hc
      have hk2 : t + k < s.length := by omega
      have hg := str_get hc (by rw [hsz]; exact hk2)
      obtain ⟨d1, d2⟩ := isD_iff.1 hd
      have hj : (t : Int) + (k : Int) = ((t + k : Nat) : Int) := by omega
      generalize t + k = j at *
      clear hc hd
      go_wp2_with fail
      go_roundg (gk - 1)
      case rel => exact ⟨rfl, k + 1, by omega, by go_num⟩
      case measure => omega
    · obtain rfl : k = L := by omega
      have hj : (t : Int) + (k : Int) = ((t + k : Nat) : Int) := by omega
      rcases Nat.lt_or_ge k (s.length - t) with h2 | h2
      · obtain ⟨c, hc, hd⟩ := HLE.out (by rw [HLN.out]; exact h2)
        rw [HDR.out] at hc
        have hk2 : t + k < s.length := by omega
        have hg := str_get hc (by rw [hsz]; exact hk2)
        have hd2 : ¬ (48 ≤ c.toNat ∧ c.toNat ≤ 57) := fun h => by rw [isD_iff.2 h] at hd; cases hd
        clear hc hd hlt hk h2 hl0
        generalize t + k = j at *
        by_cases d1 : 48 ≤ c.toNat
        · have d3 : 57 < c.toNat := by omega
          clear hd2
          go_wp2_with fail
          go_ret
          exact ⟨rfl, rfl⟩
        · clear hd2
          have d3 : c.toNat < 48 := by omega
          go_wp2_with fail
          go_ret
          exact ⟨rfl, rfl⟩
      · have hk2 : s.length = t + k := by omega
        have q1 : decide (((t + k : Nat) : Int) < (s.length : Int)) = false := decide_eq_false (by omega)
        clear hlt hk h2 hl0
        generalize t + k = j at *
        go_wp2_with fail
        go_ret
        exact ⟨rfl, rfl⟩

/-- The number of digits, at most a million. -/
def capM (n : Nat) : List UInt8 → Nat
  | [] => n
  | c :: t => capM (min (n * 10 + (c.toNat - 48)) 1000000) t
theorem capM_step {C : List UInt8} {pos m : Nat} {c : UInt8} (h : C[pos]? = some c) : capM m (C.drop pos) = capM (min (m * 10 + (c.toNat - 48)) 1000000) (C.drop (pos + 1)) := by
  obtain ⟨h1, h2⟩ := List.getElem?_eq_some_iff.1 h
  rw [List.drop_eq_getElem_cons h1, h2]
  rfl
set_option maxRecDepth 100000 in
set_option maxHeartbeats 1000000 in
theorem capped_any (s : List UInt8) (hd : Digs s) (hs : s.length ≤ 5000) (w : World) :
    Calls Tryz.prog 33 #[.string ⟨s.toArray⟩] w fun e w' => e = .returned (.int .i64 (capM 0 s : Nat)) ∧ w = w' := by
  have hsz : (ByteArray.mk s.toArray).size = s.length := size_mk s
  have HD := Lib.hid hd
  obtain ⟨N, hN⟩ : ∃ N, capM 0 s = N := ⟨_, rfl⟩
  rw [hN]
  have HN := Lib.hid hN
  clear hd hN
  go_enter Tryz.func33, Tryz.ntmps33
  go_wp2_with fail
  go_loopg [3, 4] s.length (fun gk nv iv wr => wr = w ∧ ∃ k m : Nat, k + gk = s.length ∧ iv = .int .i64 k ∧ nv = .int .i64 m ∧ m ≤ 1000000 ∧ Hid (capM m (s.drop k) = N))
  case atStart => exact ⟨rfl, 0, 0, by omega, rfl, rfl, by decide, HN⟩
  case round =>
    obtain ⟨rfl, k, m, hk, rfl, rfl, hm, HC⟩ := hrel
    by_cases hlt : k < s.length
    · obtain ⟨c, hc⟩ : ∃ c, s[k]? = some c := ⟨_, List.getElem?_eq_getElem hlt⟩
      have hg := str_get hc (by rw [hsz]; exact hlt)
      obtain ⟨d1, d2⟩ := HD.out c (List.mem_of_getElem? hc)
      have HST := Lib.hid (show capM (min (m * 10 + (c.toNat - 48)) 1000000) (s.drop (k + 1)) = N by rw [← capM_step hc]; exact HC.out)
      clear hc
      go_wp2_with fail
      go_roundg (gk - 1)
      case rel => exact ⟨rfl, k + 1, min (m * 10 + (c.toNat - 48)) 1000000, by omega, by go_num, by go_num, by omega, HST⟩
      case measure => omega
    · have hmN : m = N := by
        have := HC.out
        rw [List.drop_eq_nil_of_le (by omega)] at this
        exact this
      subst hmN
      go_wp2_with fail
      go_ret
      exact ⟨rfl, rfl⟩

theorem nil_D0 (w : World) : D w (.slice none 0 0) 0 := by
  show DS w (.slice none 0 0) (nd 0) 0
  rw [nd_zero]
  exact ⟨none, 0, rfl, Nat.le_refl _, by unfold maxLen; omega, by simp, Reads.none_⟩
theorem three_alloc (w : World) (o o' o2 : Obj) : Below w.heap.size w (((w.alloc o).alloc o').alloc o2) := (two_alloc w o o').alloc (by simp; omega) o2
theorem nd_numD {l : List UInt8} (hd : Digs l) (hl : l.length ≤ 4100) : nd (numD l) ≤ 855 := by
  have h1 := numD_lt 4104 l hd (by omega)
  rw [nd_le]
  refine Nat.lt_of_lt_of_le h1 ?_
  have h2 : (10 : Nat) ^ 24 ≤ 65536 ^ 5 := by decide
  obtain ⟨j, hj⟩ : ∃ j : Nat, j = 171 := ⟨_, rfl⟩
  rw [show 4104 = 24 * j by omega, show 855 = 5 * j by omega, Nat.pow_mul, Nat.pow_mul]
  exact Nat.pow_le_pow_left h2 j

set_option maxRecDepth 100000 in
set_option maxHeartbeats 1000000 in
theorem amount_any (s : List UInt8) (hd : Digs s) (hs : s.length ≤ 4100) (w : World) :
    Calls Tryz.prog 32 #[.string ⟨s.toArray⟩] w (GivesD w (numD s)) := by
  have hsz : (ByteArray.mk s.toArray).size = s.length := size_mk s
  have HD := Lib.hid hd
  have HNB := Lib.hid (fun k => nd_numD (l := s.take k) (fun c hc => hd c (List.mem_of_mem_take hc)) (by rw [List.length_take]; omega))
  have H0 := Lib.hid (nil_D0 w)
  clear hd
  go_enter Tryz.func32, Tryz.ntmps32
  go_wp2_with fail
  go_loopg [3, 4] s.length (fun gk av iv wr => ∃ k : Nat, k + gk = s.length ∧ iv = .int .i64 k ∧ Hid (D wr av (numD (s.take k))) ∧ Hid (Fr w.heap.size av) ∧ Hid (Below w.heap.size w wr))
  case atStart => exact ⟨0, by omega, rfl, H0, Lib.hid (fun g h => by cases h), Lib.hid (Below.refl _ _)⟩
  case round =>
    obtain ⟨k, hk, rfl, HV, HF, HB⟩ := hrel
    by_cases hlt : k < s.length
    · obtain ⟨c, hc⟩ : ∃ c, s[k]? = some c := ⟨_, List.getElem?_eq_getElem hlt⟩
      have hg := str_get hc (by rw [hsz]; exact hlt)
      obtain ⟨d1, d2⟩ := HD.out c (List.mem_of_getElem? hc)
      have HS := Lib.hid (numD_take hc)
      have hnb := HNB.out k
      generalize numD (s.take k) = M at *
      have HM10 := Lib.hid (nd_mulB M 10)
      have HNB2 := Lib.hid hnb
      have HB0 := Lib.hid (HB.out.drew)
      have HV0 := Lib.hid (show D wr.drew _ M from HV.out)
      have hsw := HB.out.size
      obtain ⟨x, hx⟩ : ∃ x : Nat, (x : Int) = (c.toNat : Int) - 48 := ⟨c.toNat - 48, by omega⟩
      have hx9 : x ≤ 9 := by omega
      have HTM : Hid (∀ w v, D w v M → Calls Tryz.prog 67 #[v, .int .u32 10] w (GivesD w (M * 10))) := Lib.hid (fun w v h => times_D v M 10 w (by have := HNB2.out; omega) (by decide) h)
      have HSM : Hid (∀ w, Calls Tryz.prog 27 #[.int .u64 (IntKind.u64.wrap (IntKind.u8.wrap ((c.toNat : Int) - 48)))] w (GivesD w x)) := Lib.hid (fun w => by
        have e : IntKind.u64.wrap (IntKind.u8.wrap ((c.toNat : Int) - 48)) = (x : Int) := by rw [← hx]; simp [IntKind.wrap, IntKind.signed, IntKind.bits]; omega
        rw [e]; exact small_D x w (by omega))
      have HAD := Lib.hid (fun w va vb ha hb => add_D va vb (M * 10) x w (by have := HNB2.out; have := HM10.out; have : nd 10 ≤ 1 := (by decide); omega) (by have := nd_64 (x := x) (by omega); omega) ha hb)
      have HTR := Lib.hid (fun w v (h : D w v (M * 10 + x)) => trim_D v _ (M * 10 + x) w h)
      have HX := Lib.hid hx
      have HX9 := Lib.hid hx9
      clear hc hnb hx hx9
      go_wp2_with fail
      go_region_held3 (fun _ => True) (trivial)
        (first
          | (go_at_call 67; (with_reducible refine (HTM.out _ _ HV0.out).mono ?_); rintro e w3 ⟨v3, rfl, hv3, _, hb3⟩; have HV3 := Lib.hid hv3; have HB3 := Lib.hid (HB0.out.trans (hb3.mono hsw)); clear hv3 hb3)
          | (go_at_call 27; (with_reducible refine (HSM.out _).mono ?_); rintro e w4 ⟨v4, rfl, hv4, _, hb4⟩; have HV4 := Lib.hid hv4; have HV34 := Lib.hid (HV3.out.below hb4); have HB4 := Lib.hid (HB3.out.trans (hb4.mono HB3.out.size)); clear hv4 hb4)
          | (go_at_call 54; (with_reducible refine (HAD.out _ _ _ HV34.out HV4.out).mono ?_); rintro e w5 ⟨v5, rfl, hv5, hf5, hb5⟩; have HV5 := Lib.hid hv5; have HF5 := Lib.hid hf5; have HB5 := Lib.hid (HB4.out.trans (hb5.mono HB4.out.size)); have hs4 := HB4.out.size; clear hv5 hb5 hf5)
          | (go_at_call 58; (with_reducible refine (HTR.out _ _ HV5.out).mono ?_); rintro e w6 ⟨⟨v6, rfl, hv6, ho⟩, rfl⟩; have HV6 := Lib.hid hv6; have HO := Lib.hid ho; clear hv6 ho))
      all_goals (try go_wp2_with fail)
      all_goals go_roundg (gk - 1)
      all_goals first | omega | exact ⟨k + 1, by omega, by go_num, Lib.hid (by rw [HS.out, show c.toNat - 48 = x by have := HX.out; omega]; exact HV6.out), Lib.hid (fun g hg => Nat.le_trans hs4 (HF5.out g (HO.out ▸ hg))), HB5⟩
    · have hkk : s.take k = s := List.take_of_length_le (by omega)
      rw [hkk] at HV
      go_wp2_with fail
      go_ret
      exact ⟨_, rfl, HV.out, HF.out, HB.out⟩
end Go.Proofs.YtijncfidjjfmiaaGreatDoor
