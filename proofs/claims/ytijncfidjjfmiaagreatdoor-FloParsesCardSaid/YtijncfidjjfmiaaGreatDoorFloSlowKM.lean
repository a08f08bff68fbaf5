/- The slow decimal: how it starts, in plain. atof64 where digits are cut off. ParseFloat at every text '0.', digits, 'e', an exponent. -/
import Derived.Test.YtijncfidjjfmiaaGreatDoorFloSlowJ
import Derived.Test.YtijncfidjjfmiaaGreatDoorFloParC
import Derived.Test.YtijncfidjjfmiaaGreatDoorShelfB
namespace Go.Proofs.YtijncfidjjfmiaaGreatDoor
open Go.RowKit FloM

theorem pre_sb (d : List UInt8) : ∀ j, j ≤ d.length → pre (sb d) j = numD (d.take j) := by
  intro j
  induction j with
  | zero => intro _; rfl
  | succ j ih =>
    intro h
    obtain ⟨c, hc⟩ : ∃ c, d[j]? = some c := ⟨_, List.getElem?_eq_getElem (by omega)⟩
    rw [numD_take hc, ← ih (by omega)]
    show pre (sb d) j * 10 + (sb d j - 48) = _
    rw [sb_at hc]
theorem sb_dig {d : List UInt8} (hd : Digs d) {i : Nat} (hi : i < d.length) : 48 ≤ sb d i ∧ sb d i ≤ 57 := by
  obtain ⟨c, hc⟩ : ∃ c, d[i]? = some c := ⟨_, List.getElem?_eq_getElem hi⟩
  rw [sb_at hc]
  exact hd c (List.mem_of_getElem? hc)
theorem sb_lead {d : List UInt8} (hz : d[0]? ≠ some 48) (h0 : 0 < d.length) : sb d 0 ≠ 48 := by
  obtain ⟨c, hc⟩ : ∃ c, d[0]? = some c := ⟨_, List.getElem?_eq_getElem h0⟩
  rw [sb_at hc]
  intro h
  exact hz (by rw [hc, (UInt8.toNat_inj.1 h : c = 48)])
theorem numD_nil {l : List UInt8} (hd : Digs l) : numD l = 0 ↔ l.any (fun c => c != 48) = false := by
  induction l with
  | nil => exact ⟨fun _ => rfl, fun _ => rfl⟩
  | cons c l ih =>
    have h1 := hd c List.mem_cons_self
    have ih2 := ih (fun x hx => hd x (List.mem_cons_of_mem _ hx))
    rw [numD_cons, List.any_cons, Bool.or_eq_false_iff, ← ih2]
    have hp : 0 < 10 ^ l.length := Nat.pow_pos (by decide)
    constructor
    · intro h
      have h2 : (c.toNat - 48) * 10 ^ l.length = 0 := by omega
      have h3 : c.toNat - 48 = 0 := by
        rcases Nat.mul_eq_zero.1 h2 with h | h
        · exact h
        · omega
      have h4 : c = 48 := UInt8.toNat_inj.1 (by show c.toNat = 48; omega)
      subst h4
      exact ⟨rfl, by omega⟩
    · rintro ⟨h, h2⟩
      have h4 : c = 48 := by simpa using h
      subst h4
      rw [h2]; exact (Nat.zero_mul _)
theorem two_1100 : ∃ a b : Nat, a = 1100 ∧ b = 331 ∧ 10 ^ b ≤ 2 ^ a := ⟨1100, 331, rfl, rfl, by decide +kernel⟩
theorem two_1040 : ∃ a b : Nat, a = 1039 ∧ b = 310 ∧ 10 ^ b ≤ 2 ^ a := ⟨1039, 310, rfl, rfl, by decide +kernel⟩

/-- The digits that set has put down say the number, but for what was cut off. -/
theorem slow_start (d : List UInt8) (z : Int) (hd : Digs d) (hz : d[0]? ≠ some 48) (h0 : 0 < d.length) (hn : d.length ≤ 5000) (z1 : -330 ≤ z) (z2 : z ≤ 310)
    (g : Nat → Nat) (hg : ∀ i, i < min d.length 800 → g i = sb d i) :
    ∃ e, At (numD d * tA (z - (d.length : Nat))) (tB (z - (d.length : Nat))) e ∧ e ≤ 1040 ∧ Dok g (min d.length 800) ∧
      Fl (numD d * tA (z - (d.length : Nat))) (tB (z - (d.length : Nat))) (stepK e) oo (dV g (min d.length 800) z) (trE d d.length) := by
  have hoo := oo_eq
  obtain ⟨n, hnn⟩ : ∃ n, d.length = n := ⟨_, rfl⟩
  rw [hnn] at h0 hn hg ⊢
  obtain ⟨C, hC⟩ : ∃ C, tB (z - (n : Nat)) = C := ⟨_, rfl⟩
  obtain ⟨A, hA⟩ : ∃ A, numD d * tA (z - (n : Nat)) = A := ⟨_, rfl⟩
  obtain ⟨X, hX⟩ : ∃ X, numD d * 10 ^ (z - n + oo).toNat = X := ⟨_, rfl⟩
  rw [hC, hA]
  have hC0 : 0 < C := by rw [← hC]; exact tB_pos _
  have hXC : X * C = A * 10 ^ oo := by
    rw [← hX, ← hA, ← hC, Nat.mul_assoc, Nat.mul_assoc]
    refine congrArg (numD d * ·) ?_
    unfold tA tB
    show 10 ^ _ * 10 ^ _ = 10 ^ _ * 10 ^ oo
    rw [← Nat.pow_add, ← Nat.pow_add]
    exact pw10 (by omega)
  have hok : Dok g (min n 800) := ⟨fun i hi => by rw [hg i hi]; exact sb_dig hd (by omega), Nat.min_le_right _ _, by omega, by rw [hg 0 (by omega)]; exact sb_lead hz (by omega)⟩
  have hdig : ∀ i, i < n → 48 ≤ sb d i ∧ sb d i ≤ 57 := fun i hi => sb_dig hd (by omega)
  have hpn : pre (sb d) n = numD d := by rw [pre_sb d n (by omega), List.take_of_length_le (by omega)]
  have hlead : 48 < sb d 0 := by
    have a := hdig 0 (by omega)
    have b := sb_lead hz (by omega)
    omega
  have hN2 : numD d < 10 ^ n := by rw [← hpn]; exact pre_lt hdig
  have hN1 : 10 ^ (n - 1) ≤ numD d := by
    obtain ⟨m, rfl⟩ : ∃ m, n = m + 1 := ⟨n - 1, by omega⟩
    rw [← hpn]; exact pre_ge hlead
  have hX1 : 10 ^ (z - 1 + oo).toNat ≤ X := by
    rw [← hX]
    calc 10 ^ (z - 1 + oo).toNat = 10 ^ (n - 1) * 10 ^ (z - n + oo).toNat := by rw [← Nat.pow_add]; exact pw10 (by omega)
      _ ≤ _ := Nat.mul_le_mul_right _ hN1
  have hX2 : X < 10 ^ (z + oo).toNat := by
    rw [← hX]
    calc numD d * 10 ^ (z - n + oo).toNat < 10 ^ n * 10 ^ (z - n + oo).toNat := Nat.mul_lt_mul_of_pos_right hN2 (Nat.pow_pos (by decide))
      _ = _ := by rw [← Nat.pow_add]; exact pw10 (by omega)
  have hT : 0 < 10 ^ oo := Nat.pow_pos (by decide)
  have hlo : ∀ a : Nat, a = 1100 → C ≤ A * 2 ^ a := fun a ha => by
    obtain ⟨a', b', e1, e2, h⟩ := two_1100
    rw [ha, ← e1]
    refine Nat.le_of_mul_le_mul_right ?_ hT
    calc C * 10 ^ oo ≤ C * (10 ^ (z - 1 + oo).toNat * 2 ^ a') := Nat.mul_le_mul_left _ (by
          calc 10 ^ oo ≤ 10 ^ (z - 1 + oo).toNat * 10 ^ b' := by rw [← Nat.pow_add]; exact Nat.pow_le_pow_right (by decide) (by omega)
            _ ≤ _ := Nat.mul_le_mul_left _ h)
      _ ≤ C * (X * 2 ^ a') := Nat.mul_le_mul_left _ (Nat.mul_le_mul_right _ hX1)
      _ = (X * C) * 2 ^ a' := by grind
      _ = A * 2 ^ a' * 10 ^ oo := by rw [hXC]; grind
  have hhi : ∃ a : Nat, a = 1039 ∧ A < C * 2 ^ a := by
    obtain ⟨a', b', e1, e2, h⟩ := two_1040
    refine ⟨a', e1, Nat.lt_of_mul_lt_mul_right (a := 10 ^ oo) ?_⟩
    calc A * 10 ^ oo = X * C := hXC.symm
      _ < 10 ^ (z + oo).toNat * C := Nat.mul_lt_mul_of_pos_right hX2 hC0
      _ ≤ 10 ^ (b' + oo) * C := Nat.mul_le_mul_right _ (Nat.pow_le_pow_right (by decide) (by omega))
      _ = C * 10 ^ b' * 10 ^ oo := by rw [Nat.pow_add]; grind
      _ ≤ C * 2 ^ a' * 10 ^ oo := Nat.mul_le_mul_right _ (Nat.mul_le_mul_left _ h)
  obtain ⟨a1, ea1, hA1⟩ := hhi
  obtain ⟨a2, ea2⟩ : ∃ a2 : Nat, a2 = 1999 := ⟨_, rfl⟩
  obtain ⟨a3, ea3⟩ : ∃ a3 : Nat, a3 = 1100 := ⟨_, rfl⟩
  obtain ⟨e, ha⟩ := at_of hC0 ea3 ea2 (hlo a3 ea3) (Nat.lt_of_lt_of_le hA1 (Nat.mul_le_mul_left _ (Nat.pow_le_pow_right (by decide) (by omega))))
  have he : e ≤ 1040 := by
    have e1 := ha.e1
    have h1 : C * 2 ^ (e - 1 + oo).toNat < C * 2 ^ (a1 + oo) := by
      refine Nat.lt_of_le_of_lt ha.lo ?_
      rw [Nat.pow_add, ← Nat.mul_assoc]
      exact Nat.mul_lt_mul_of_pos_right hA1 (Nat.two_pow_pos _)
    have h2 := (Nat.pow_lt_pow_iff_right (by decide)).1 (Nat.lt_of_mul_lt_mul_left h1)
    omega
  refine ⟨e, ha, he, hok, ?_⟩
  have hfl : Fl A C (stepK e) oo X false := by
    refine ⟨?_, ?_, ?_⟩
    · refine Nat.le_of_eq ?_
      rw [← Nat.mul_assoc, hXC]; grind
    · refine ⟨fun _ => ?_, fun _ => rfl⟩
      rw [← Nat.mul_assoc, hXC]; grind
    · generalize stepK e = K
      have h1 := Nat.div_mul_le_self (A * 2 ^ K) (C * 2 ^ oo)
      generalize A * 2 ^ K / (C * 2 ^ oo) = H at *
      refine Nat.le_of_mul_le_mul_right ?_ hC0
      calc H * 2 ^ oo * 10 ^ oo * C = H * (C * 2 ^ oo) * 10 ^ oo := by grind
        _ ≤ A * 2 ^ K * 10 ^ oo := Nat.mul_le_mul_right _ h1
        _ = (A * 10 ^ oo) * 2 ^ K := by grind
        _ = X * 2 ^ K * C := by rw [← hXC]; grind
  have hpg : pre g (min n 800) = numD (d.take (min n 800)) := by rw [pre_congr hg, pre_sb d _ (by omega)]
  have hcut : Cut X (dV g (min n 800) z) 1 (z - 800 + oo).toNat false (trE d n) := by
    unfold dV
    rw [hpg]
    by_cases h8 : n ≤ 800
    · left
      rw [Nat.min_eq_left h8, List.take_of_length_le (by omega), trE_lo h8, Nat.mul_one]
      exact ⟨hX, rfl⟩
    · rw [Nat.min_eq_right (by omega)]
      have hsp : numD d = numD (d.take 800) * 10 ^ (n - 800) + numD (d.drop 800) := by
        conv => lhs; rw [← List.take_append_drop 800 d]
        rw [numD_app, List.length_drop, hnn]
      have hdd : Digs (d.drop 800) := fun c hc => hd c (List.mem_of_mem_drop hc)
      have hlt := numD_lt (n - 800) (d.drop 800) hdd (by rw [List.length_drop]; omega)
      have htr : trE d n = (d.drop 800).any (fun c => c != 48) := by
        unfold trE
        rw [List.take_of_length_le (by omega)]
      have hni := numD_nil hdd
      rw [← htr] at hni
      have hsc : (z - 800 + oo).toNat = (n - 800) + (z - n + oo).toNat := by omega
      rw [show ((z : Int) - ((800 : Nat) : Int) + oo).toNat = (n - 800) + (z - n + oo).toNat by omega]
      unfold Cut
      rw [Nat.mul_one, Nat.mul_one]
      try rw [hsc]
      rw [hsp] at hX
      have hp0 : 0 < 10 ^ (z - n + oo).toNat := Nat.pow_pos (by decide)
      generalize numD (d.take 800) = P at *
      generalize numD (d.drop 800) = r at *
      rw [Nat.pow_add]
      generalize 10 ^ (z - n + oo).toNat = Q at *
      rw [← hX]
      generalize 10 ^ (n - 800) = T at *
      by_cases hr : r = 0
      · left
        exact ⟨by rw [hr, Nat.add_zero]; grind, hni.1 hr⟩
      · right
        refine ⟨?_, ?_, ?_, ?_⟩
        · have h1 : 0 < r * Q := Nat.mul_pos (by omega) hp0
          calc _ = P * T * Q := by grind
            _ < P * T * Q + r * Q := by omega
            _ = _ := by grind
        · have h1 : r * Q < T * Q := Nat.mul_lt_mul_of_pos_right hlt hp0
          calc (P * T + r) * Q = P * T * Q + r * Q := by grind
            _ < P * T * Q + T * Q := by omega
            _ = _ := by grind
        · exact ⟨P, by grind⟩
        · cases h : trE d n
          · exact absurd (hni.2 h) hr
          · rfl
  have hle : dV g (min n 800) z * (C * 2 ^ oo) ≤ A * 2 ^ oo * 10 ^ oo := by
    have h1 := hcut.le
    rw [Nat.mul_one] at h1
    exact Nat.le_trans (Nat.mul_le_mul_right _ h1) hfl.le
  exact hfl.step hC0 (by rw [Nat.mul_one]) (by decide) hcut (cond_at ha hle (dV_ge hok (by omega)) (s := 0) (by omega) (by omega) (by omega) (.inl (Int.le_refl _)))
end Go.Proofs.YtijncfidjjfmiaaGreatDoor

namespace Go.Proofs.YtijncfidjjfmiaaGreatDoor
open Go.RowKit FloM

theorem below_grown {B b : Nat} {a w w' : World} (h : Below B a w) (hg : w.grownBy w' (some b)) (hB : B ≤ b) (hs : B ≤ w.heap.size) : Below B a w' :=
  ⟨hg.os.trans h.os, hg.tape.trans h.tape, hg.output.trans h.output, Nat.le_trans h.size hg.size, fun k hk => (hg.block k (by omega) (fun e => by cases e; omega)).trans (h.block k hk)⟩

theorem ord_same {R : Nat} (h : R ≤ cap) : (FloatKind.f64.format.order R R == some Ordering.eq) = true := by
  rw [dbl, ord_pos h h, show compare (R : Int) (R : Int) = .eq by simp]; rfl
theorem ord_diff {R Q : Nat} (h : R ≤ cap) (h2 : Q ≤ cap) (hne : R ≠ Q) : (FloatKind.f64.format.order R Q == some Ordering.eq) = false := by
  rw [dbl, ord_pos h h2]
  have : compare (R : Int) (Q : Int) ≠ .eq := by
    show compareOfLessAndEq (R : Int) (Q : Int) ≠ .eq
    unfold compareOfLessAndEq
    rw [if_neg (show ¬ (R : Int) = (Q : Int) by omega)]
    split <;> decide
  cases h : compare (R : Int) (Q : Int)
  · rfl
  · exact absurd h this
  · rfl
theorem zero_dec : Tryz.zeroCells145 = dcell (fun _ => 0) 0 0 false := by kernel_rfl

set_option maxRecDepth 100000 in
set_option maxHeartbeats 2000000 in
theorem atof_same (S : ByteArray) (m n R : Nat) (p : Int)
    (HSP : Hid (∀ w, Calls Tryz.prog 169 #[.string S] w fun e w' => e = .returned (.tuple #[.float .f64 0, .int .i64 0, .bool false]) ∧ w = w'))
    (HRF : Hid (∀ w, Calls Tryz.prog 170 #[.string S] w fun e w' => e = Ret7 m p true n ∧ w = w'))
    (HP6 : Hid (∀ w, PEnv w → Calls Tryz.prog 180 #[.int .u64 m, .int .i64 p, .int .u64 0] w (Fast R w)))
    (HP7 : Hid (∀ w, PEnv w → Calls Tryz.prog 180 #[.int .u64 ((m : Int) + 1), .int .i64 p, .int .u64 0] w (Fast R w)))
    (q0 : ((m : Int) == 0) = false) (hm : m < 10000000000000000000) (hp1 : -345 ≤ p) (hp2 : p ≤ 310) (hR : R ≤ cap) (w : World) (hE : PEnv w) :
    Calls Tryz.prog 163 #[.string S] w (Fast3 R n w) := by
  have c1 := hE.opt
  have qo := ord_same hR
  have HE := Lib.hid hE
  clear hE
  go_enter Tryz.func163, Tryz.ntmps163
  go_wp2_with (first
      | (go_at_call 169; ((with_reducible refine (HSP.out _).mono ?_); rintro e w' ⟨rfl, rfl⟩))
      | (go_at_call 170; ((with_reducible refine (HRF.out _).mono ?_); rintro e w' ⟨rfl, rfl⟩))
      | (go_at_call 164; refine (bool2_no _).mono ?_; rintro e w1 ⟨rfl, rfl⟩)
      | (go_at_call 180; ((with_reducible refine (HP6.out _ HE.out).mono ?_); rintro e w1 ⟨er, rfl, he, hb⟩; have HER := Lib.hid he; have HBB := Lib.hid hb; have HE1 := Lib.hid (HE.out.below hb (Nat.le_refl _)); clear he hb))
      | (go_at_call 180; ((with_reducible refine (HP7.out _ HE1.out).mono ?_); rintro e w2 ⟨er2, rfl, he, hb⟩; have HBB2 := Lib.hid (HBB.out.trans (hb.mono HBB.out.size)); clear he hb)))
  go_ret3
  exact ⟨er, rfl, HER.out, HBB2.out⟩
set_option maxRecDepth 100000 in
set_option maxHeartbeats 2000000 in
theorem atof_slow (S : ByteArray) (m n R0 R1 R : Nat) (p z : Int) (d : List UInt8)
    (HSP : Hid (∀ w, Calls Tryz.prog 169 #[.string S] w fun e w' => e = .returned (.tuple #[.float .f64 0, .int .i64 0, .bool false]) ∧ w = w'))
    (HRF : Hid (∀ w, Calls Tryz.prog 170 #[.string S] w fun e w' => e = Ret7 m p true n ∧ w = w'))
    (HP6 : Hid (∀ w, PEnv w → Calls Tryz.prog 180 #[.int .u64 m, .int .i64 p, .int .u64 0] w (Fast R0 w)))
    (HP7 : Hid (∀ w, PEnv w → Calls Tryz.prog 180 #[.int .u64 ((m : Int) + 1), .int .i64 p, .int .u64 0] w (Fast R1 w)))
    (q0 : ((m : Int) == 0) = false) (hm : m < 10000000000000000000) (hp1 : -345 ≤ p) (hp2 : p ≤ 310) (hR0 : R0 ≤ cap) (hR1 : R1 ≤ cap) (hne : R0 ≠ R1) (hn : S.size = n)
    (HDS : Hid (∀ b w, Dc w b (fun _ => 0) 0 0 false → Calls Tryz.prog 176 #[.pointer (some ⟨b, 0, none⟩), .string S] w (SetPost d z b w)))
    (HFB : Hid (∀ (b : Nat) (w : World) (g : Nat → Nat) (B : Nat) (a1 a2 : Addr) (k1 k2 : Nat), Dc w b g (min d.length 800) z (trE d d.length) → (∀ i, i < min d.length 800 → g i = sb d i) → SEnv w B a1 a2 k1 k2 → B ≤ b → B ≤ w.heap.size → Calls Tryz.prog 177 #[.pointer (some ⟨b, 0, none⟩), .pointer (some ⟨11, 0, none⟩)] w (FbPost R b w))) (w : World) (hE : PEnv w) :
    Calls Tryz.prog 163 #[.string S] w (Fast3 R n w) := by
  have c1 := hE.opt
  have qo := ord_diff hR0 hR1 hne
  have hx : S.extract 0 n = S := by rw [← hn]; exact ByteArray.extract_zero_size
  have HE := Lib.hid hE
  clear hE
  go_enter Tryz.func163, Tryz.ntmps163
  go_wp2_with (first
      | (go_at_call 169; ((with_reducible refine (HSP.out _).mono ?_); rintro e w' ⟨rfl, rfl⟩))
      | (go_at_call 170; ((with_reducible refine (HRF.out _).mono ?_); rintro e w' ⟨rfl, rfl⟩))
      | (go_at_call 164; refine (bool2_no _).mono ?_; rintro e w1 ⟨rfl, rfl⟩)
      | (go_at_call 180; ((with_reducible refine (HP6.out _ HE.out).mono ?_); rintro e w1 ⟨er, rfl, he, hb⟩; have HER := Lib.hid he; have HBB := Lib.hid hb; have HE1 := Lib.hid (HE.out.below hb (Nat.le_refl _)); clear he hb))
      | (go_at_call 180; ((with_reducible refine (HP7.out _ HE1.out).mono ?_); rintro e w2 ⟨er2, rfl, he, hb⟩; have HBB2 := Lib.hid (HBB.out.trans (hb.mono HBB.out.size)); have HE2 := Lib.hid (HE1.out.below hb (Nat.le_refl _)); clear he hb)))
  obtain ⟨B, a1, a2, k1, k2, hB, hSE⟩ := HE2.out.slow
  have HDA : Hid (Dc (w2.alloc (.cells Tryz.zeroCells145 145)) w2.heap.size (fun _ => 0) 0 0 false) := Lib.hid (by rw [zero_dec]; exact Blk.new w2 _ _)
  have HSA := Lib.hid (show SEnv (w2.alloc (.cells Tryz.zeroCells145 145)) B a1 a2 k1 k2 from hSE.keep fun p hp => ((Below.refl w2.heap.size w2).alloc (Nat.le_refl _) _).cell (by omega))
  have HBA := Lib.hid (HBB2.out.alloc HBB2.out.size (.cells Tryz.zeroCells145 145))
  have hsz : (w2.alloc (.cells Tryz.zeroCells145 145)).heap.size = w2.heap.size + 1 := by simp
  have hsw := HBB2.out.size
  generalize w2.alloc (.cells Tryz.zeroCells145 145) = wA at *
  generalize w2.heap.size = b at *
  clear hSE HE2 HBB2
  go_at_call 176
  refine (HDS.out _ _ HDA.out).mono ?_
  rintro e w3 ⟨rfl, g, h1, h2, h3⟩
  have HD3 := Lib.hid h1
  have HG3 := Lib.hid h2
  have HS3 := Lib.hid (HSA.out.grown h3 hB (by omega))
  have hs3 := h3.size
  have HB3 := Lib.hid (below_grown HBA.out h3 hsw (by omega))
  clear h1 h2 h3
  go_wp2_with fail
  go_at_call 177
  refine (HFB.out b w3 g B a1 a2 k1 k2 HD3.out HG3.out HS3.out hB (by omega)).mono ?_
  rintro e w4 ⟨ov, rfl, ho, h4⟩
  have HO := Lib.hid ho
  have HB4 := Lib.hid (below_grown HB3.out h4 hsw (by omega))
  clear ho h4
  cases ov
  all_goals go_wp2_with fail
  all_goals go_ret3
  · exact ⟨false, rfl, fun h => (by cases h), HB4.out⟩
  · exact ⟨true, rfl, fun _ => HO.out trivial, HB4.out⟩
end Go.Proofs.YtijncfidjjfmiaaGreatDoor

namespace Go.Proofs.YtijncfidjjfmiaaGreatDoor
open Go.RowKit FloM

theorem dset_txt (d : List UInt8) (z : Int) (hd : Digs d) (hz : d[0]? ≠ some 48) (h0 : 0 < d.length) (hl : d.length ≤ 9000) (ha1 : -1000 ≤ z) (ha2 : z ≤ 1000) (b : Nat) (w : World) (hDc : Dc w b (fun _ => 0) 0 0 false) :
    Calls Tryz.prog 176 #[.pointer (some ⟨b, 0, none⟩), .string ⟨(pfTxt d z).toArray⟩] w (SetPost d z b w) := by
  obtain ⟨x1, x2⟩ := dec_len4 (k := z.natAbs) (by omega)
  have hX : Lib.itoa z = (if z < 0 then [45] else []) ++ Lib.decDigits z.natAbs := by
    unfold Lib.itoa
    by_cases h : z < 0
    · rw [if_pos h, if_pos h]; rfl
    · rw [if_neg h, if_neg h, show z.toNat = z.natAbs by omega]; rfl
  have hlen : (pfTxt d z).length = 3 + d.length + (decide (z < 0)).toNat + (Lib.decDigits z.natAbs).length := by
    rw [pfTxt_eq, hX]
    by_cases h : z < 0
    · rw [if_pos h, decide_eq_true h]; simp; omega
    · rw [if_neg h, decide_eq_false h]; simp; omega
  have hnum : (if decide (z < 0) = true then -(numD (Lib.decDigits z.natAbs) : Int) else numD (Lib.decDigits z.natAbs)) = z := by
    rw [numD_dec]
    by_cases h : z < 0
    · rw [if_pos (decide_eq_true h)]; omega
    · rw [if_neg (by simpa using h)]; omega
  have step : ∀ j : Nat, (pfTxt d z)[2 + j]? = (d ++ 101 :: Lib.itoa z)[j]? := fun j => by
    rw [pfTxt_eq, show 2 + j = j + 1 + 1 by omega, List.getElem?_cons_succ, List.getElem?_cons_succ]
  exact dset_any ⟨(pfTxt d z).toArray⟩ (pfTxt d z) d (Lib.decDigits z.natAbs) (pfTxt d z).length d.length (Lib.decDigits z.natAbs).length (decide (z < 0))
    (fun k c hk hk2 => str_get hk hk2) (size_mk _) hlen rfl h0 hl hd hz rfl x1 x2 (decDigits_digs _)
    (by rw [pfTxt_eq]; rfl) (by rw [pfTxt_eq]; rfl) (fun j c hc => by
      rw [step]
      have := (List.getElem?_eq_some_iff.1 hc).1
      rw [List.getElem?_append_left this]; exact hc)
    (by rw [step, List.getElem?_append_right (Nat.le_refl _), Nat.sub_self]; rfl)
    (fun hng => by
      have hn : z < 0 := by simpa using hng
      rw [show 2 + d.length + 1 = 2 + (d.length + 1) by omega, step, List.getElem?_append_right (by omega), show d.length + 1 - d.length = 0 + 1 by omega, List.getElem?_cons_succ, hX, if_pos hn]; rfl)
    (fun j c hc => by
      rw [show 2 + d.length + 1 + (decide (z < 0)).toNat + j = 2 + (d.length + ((decide (z < 0)).toNat + j + 1)) by omega, step, List.getElem?_append_right (by omega),
        show d.length + ((decide (z < 0)).toNat + j + 1) - d.length = (decide (z < 0)).toNat + j + 1 by omega, List.getElem?_cons_succ, hX]
      by_cases h : z < 0
      · rw [if_pos h, decide_eq_true h, show true.toNat + j = j + 1 by (show 1 + j = j + 1; omega)]
        exact hc
      · rw [if_neg h, decide_eq_false h, show false.toNat + j = j by (show 0 + j = j; omega)]
        exact hc) z (Lib.hid hnum.symm) b w hDc

theorem perr_true : perr true = .iface 106 (.int .i64 1) := rfl
set_option maxRecDepth 100000 in
set_option maxHeartbeats 1000000 in
theorem pf_all (S : ByteArray) (R : Nat) (hlim : S.size ≤ 281474976710656) (HA : Hid (∀ w, PEnv w → Calls Tryz.prog 101 #[.string S, .int .i64 64] w (Fast R w))) (w : World) (hE : PEnv w) :
    Calls Tryz.prog 65 #[.string S, .int .i64 64] w fun e w' => ∃ er, e = .returned (.tuple #[.float .f64 R, er]) ∧ Below w.heap.size w w' := by
  have HE := Lib.hid hE
  have HLIM := Lib.hid hlim
  clear hE hlim
  go_enter Tryz.func65, Tryz.ntmps65
  go_wp2_with fail
  go_at_call 101
  (with_reducible refine (HA.out _ HE.out).mono ?_)
  rintro e w1 ⟨er, rfl, hx, hb⟩
  clear hx
  have HB := Lib.hid hb
  have HE1 := Lib.hid (HE.out.below hb (Nat.le_refl _))
  clear hb
  cases er
  · rw [show perr false = .nilIface from rfl]
    go_wp2_with fail
    go_ret2
    exact ⟨_, rfl, HB.out⟩
  · rw [perr_true]
    obtain ⟨ev, hv, hev⟩ := HE1.out.rng
    have HT := Lib.hid (Tryz.strconv_toError_range ⟨#[80, 97, 114, 115, 101, 70, 108, 111, 97, 116]⟩ S 0 64 ev w1 HLIM.out hv hev)
    clear hv hev
    go_wp2_with ((go_at_call 47; ((refine (HT.out).mono ?_); rintro e w2 ⟨N, rfl, _, _, hb2⟩; have HB2 := Lib.hid (HB.out.trans (hb2.mono HB.out.size)); clear hb2)))
    go_ret2
    exact ⟨_, rfl, HB2.out⟩

theorem ten_310 : ∃ a b : Nat, a = 1024 ∧ b = 310 ∧ 2 ^ a ≤ 10 ^ b := ⟨1024, 310, rfl, rfl, by decide +kernel⟩
/-- Greater than every real. -/
theorem rq_over {V : Nat} (h : ∀ b : Nat, b = 310 → 10 ^ b * KK ≤ V) : rq V 1 = cap := by
  obtain ⟨a, b, e1, e2, h1⟩ := ten_310
  obtain ⟨E, hE⟩ : ∃ E : Nat, E = 2046 := ⟨_, rfl⟩
  refine rq_top hE (Nat.le_trans ?_ (h b e2))
  calc 2 ^ (52 + E) = 2 ^ a * 2 ^ e74 := by rw [← Nat.pow_add]; exact pw2 (by have := e74_eq; omega)
    _ ≤ 10 ^ b * KK := by rw [KK_eq]; exact Nat.mul_le_mul_right _ h1

/-- A number's value, by its first digits. -/
theorem take_val {d : List UInt8} {z : Int} (h19 : 19 ≤ d.length) (hd : Digs d) :
    numD d = numD (d.take 19) * 10 ^ (d.length - 19) + numD (d.drop 19) ∧ numD (d.drop 19) < 10 ^ (d.length - 19) ∧
    tA (z - (19 : Nat)) * tB (z - (d.length : Nat)) = 10 ^ (d.length - 19) * tA (z - (d.length : Nat)) * tB (z - (19 : Nat)) := by
  refine ⟨?_, ?_, ?_⟩
  · conv => lhs; rw [← List.take_append_drop 19 d]
    rw [numD_app, List.length_drop]
  · exact numD_lt _ _ (fun c hc => hd c (List.mem_of_mem_drop hc)) (by rw [List.length_drop]; exact Nat.le_refl _)
  · have := t_add (z - (d.length : Nat)) (d.length - 19)
    rw [show z - (d.length : Nat) + ((d.length - 19 : Nat) : Int) = z - (19 : Nat) by omega] at this
    exact this

theorem atof_txt (d : List UInt8) (z : Int) (hd : Digs d) (hz : d[0]? ≠ some 48) (h0 : 0 < d.length) (hl : d.length ≤ 5000) (ha1 : -1000 ≤ z) (ha2 : z ≤ 1000) (w : World) (hE : PEnv w) :
    Calls Tryz.prog 163 #[.string ⟨(pfTxt d z).toArray⟩] w (Fast3 (rq (numD d * tA (z - (d.length : Nat)) * KK) (tB (z - (d.length : Nat)))) (pfTxt d z).length w) := by
  have hlen : 3 ≤ (pfTxt d z).length := by rw [pfTxt_eq]; simp; omega
  have hs : (ByteArray.mk (pfTxt d z).toArray).size = (pfTxt d z).length := size_mk _
  have hS0 : 0 < (ByteArray.mk (pfTxt d z).toArray).size := by omega
  have hS1 : (ByteArray.mk (pfTxt d z).toArray)[0] = 48 := str_get (by rw [pfTxt_eq]; rfl) (by omega)
  have hrf := fun w => readF_txt d z hd hz h0 (by omega) ha1 ha2 w
  have hp := numD_pos hd hz h0 (j := min d.length 19) (by omega)
  have hlt := numD_lt 19 (d.take (min d.length 19)) (fun c hc => hd c (List.mem_of_mem_take hc)) (by rw [List.length_take]; omega)
  have hB0 := tB_pos (z - (d.length : Nat))
  have hB1 := tB_pos (z - (19 : Nat))
  cases htr : trD d d.length
  · rw [htr] at hrf
    have := atof_any ⟨(pfTxt d z).toArray⟩ (numD (d.take (min d.length 19))) (pfTxt d z).length (z - (min d.length 19 : Nat)) hS0 hS1 hp (by omega) hrf w hE
    rcases Nat.lt_or_ge 19 d.length with h19 | h19
    · rw [Nat.min_eq_right (by omega)] at this
      obtain ⟨e1, e2, e3⟩ := take_val (z := z) (show 19 ≤ d.length by omega) hd
      have hr : numD (d.drop 19) = 0 := by
        refine (numD_nil (fun c hc => hd c (List.mem_of_mem_drop hc))).2 ?_
        have h := htr
        unfold trD at h
        rw [List.take_of_length_le (Nat.le_refl _)] at h
        exact h
      rw [hr, Nat.add_zero] at e1
      have he : rq (numD d * tA (z - (d.length : Nat)) * KK) (tB (z - (d.length : Nat))) = rq (numD (d.take 19) * tA (z - (19 : Nat)) * KK) (tB (z - (19 : Nat))) := by
        refine rq_congr hB0 hB1 ?_
        rw [e1]
        generalize numD (d.take 19) = m at *
        generalize tA (z - (d.length : Nat)) = a at *
        generalize tB (z - (d.length : Nat)) = b at *
        generalize tA (z - (19 : Nat)) = a' at *
        generalize tB (z - (19 : Nat)) = b' at *
        generalize 10 ^ (d.length - 19) = T at *
        calc m * T * a * KK * b' = m * KK * (T * a * b') := by grind
          _ = m * KK * (a' * b) := by rw [e3]
          _ = _ := by grind
      rw [he]
      exact this
    · rw [Nat.min_eq_left h19, List.take_length] at this
      exact this
  · rw [htr] at hrf
    have h19 : 19 < d.length := by
      rcases Nat.lt_or_ge 19 d.length with h | h
      · exact h
      · rw [trD_lo h] at htr; cases htr
    rw [Nat.min_eq_right (by omega)] at hrf hp hlt
    obtain ⟨e1, e2, e3⟩ := take_val (z := z) (show 19 ≤ d.length by omega) hd
    have hm18 : 10 ^ 18 ≤ numD (d.take 19) := by
      have h1 : pre (sb d) (18 + 1) = numD (d.take 19) := pre_sb d 19 (by omega)
      rw [← h1]
      refine pre_ge ?_
      have a := sb_dig hd (i := 0) h0
      have b := sb_lead hz h0
      omega
    obtain ⟨R, hR⟩ : ∃ R, rq (numD d * tA (z - (d.length : Nat)) * KK) (tB (z - (d.length : Nat))) = R := ⟨_, rfl⟩
    obtain ⟨R0, hR0⟩ : ∃ R, rq (numD (d.take 19) * tA (z - (19 : Nat)) * KK) (tB (z - (19 : Nat))) = R := ⟨_, rfl⟩
    obtain ⟨R1, hR1⟩ : ∃ R, rq ((numD (d.take 19) + 1) * tA (z - (19 : Nat)) * KK) (tB (z - (19 : Nat))) = R := ⟨_, rfl⟩
    have hRc : R ≤ cap := by rw [← hR]; exact rq_le _ _
    have hR0c : R0 ≤ cap := by rw [← hR0]; exact rq_le _ _
    have hR1c : R1 ≤ cap := by rw [← hR1]; exact rq_le _ _
    have hle0 : R0 ≤ R := by
      rw [← hR0, ← hR]
      refine rq_mono hB1 hB0 ?_
      have h1 : numD (d.take 19) * 10 ^ (d.length - 19) ≤ numD d := by rw [e1]; exact Nat.le_add_right _ _
      generalize numD (d.take 19) = m at *
      generalize numD d = n at *
      generalize tA (z - (d.length : Nat)) = a at *
      generalize tB (z - (d.length : Nat)) = b at *
      generalize tA (z - (19 : Nat)) = a' at *
      generalize tB (z - (19 : Nat)) = b' at *
      generalize 10 ^ (d.length - 19) = T at *
      calc m * a' * KK * b = m * KK * (a' * b) := by grind
        _ = m * T * (a * KK * b') := by rw [e3]; grind
        _ ≤ n * (a * KK * b') := Nat.mul_le_mul_right _ h1
        _ = _ := by grind
    have hle1 : R ≤ R1 := by
      rw [← hR1, ← hR]
      refine rq_mono hB0 hB1 ?_
      have h1 : numD d ≤ (numD (d.take 19) + 1) * 10 ^ (d.length - 19) := by rw [e1, Nat.add_mul, Nat.one_mul]; omega
      generalize numD (d.take 19) = m at *
      generalize numD d = n at *
      generalize tA (z - (d.length : Nat)) = a at *
      generalize tB (z - (d.length : Nat)) = b at *
      generalize tA (z - (19 : Nat)) = a' at *
      generalize tB (z - (19 : Nat)) = b' at *
      generalize 10 ^ (d.length - 19) = T at *
      calc n * a * KK * b' = n * (a * KK * b') := by grind
        _ ≤ (m + 1) * T * (a * KK * b') := Nat.mul_le_mul_right _ h1
        _ = (m + 1) * KK * (T * a * b') := by grind
        _ = (m + 1) * KK * (a' * b) := by rw [e3]
        _ = _ := by grind
    rw [hR]
    have q0 : ((numD (d.take 19) : Int) == 0) = false := b_false (by omega)
    have hm19 : numD (d.take 19) < 10000000000000000000 := hlt
    by_cases hp2 : 310 < z - (19 : Nat)
    · have hc : R0 = cap := by rw [← hR0]; exact rq_far hp hp2
      rw [show R = cap by omega]
      exact atof_hi _ _ _ _ true (special_0 _ hS0 hS1) hrf q0 hp2 w hE
    · by_cases hp1 : z - (19 : Nat) < -345
      · have hc : R1 = 0 := by rw [← hR1]; exact rq_near0 (by omega) hp1
        rw [show R = 0 by omega]
        exact atof_lo _ _ _ _ true (special_0 _ hS0 hS1) hrf q0 hp1 w hE
      · have h6 : ∀ w, PEnv w → Calls Tryz.prog 180 #[.int .u64 (numD (d.take 19) : Nat), .int .i64 (z - (19 : Nat)), .int .u64 0] w (Fast R0 w) := fun w hw => by
          rw [← hR0]; exact parse64_any _ _ hp (by omega) (by omega) (by omega) w hw.env.pow
        have h7 : ∀ w, PEnv w → Calls Tryz.prog 180 #[.int .u64 ((numD (d.take 19) : Nat) + 1 : Int), .int .i64 (z - (19 : Nat)), .int .u64 0] w (Fast R1 w) := fun w hw => by
          rw [← hR1]; exact parse64_any (numD (d.take 19) + 1) _ (by omega) (by omega) (by omega) (by omega) w hw.env.pow
        by_cases heq : R0 = R1
        · rw [← heq] at h7
          rw [show R = R0 by omega]
          exact atof_same _ _ _ R0 _ (special_0 _ hS0 hS1) hrf h6 h7 q0 hm19 (by omega) (by omega) hR0c w hE
        · have hz310 : z ≤ 310 := by
            rcases Int.lt_or_le 310 z with h | h
            · exfalso
              have hb : tB (z - (19 : Nat)) = 1 := by
                unfold tB; rw [show (-(z - (19 : Nat))).toNat = 0 by omega]
              have hR0' : R0 = cap := by
                rw [← hR0, hb]
                refine rq_over fun b eb => ?_
                refine Nat.mul_le_mul_right _ ?_
                unfold tA
                calc 10 ^ b ≤ 10 ^ (18 + (z - (19 : Nat)).toNat) := Nat.pow_le_pow_right (by decide) (by omega)
                  _ = 10 ^ 18 * 10 ^ (z - (19 : Nat)).toNat := Nat.pow_add _ _ _
                  _ ≤ _ := Nat.mul_le_mul_right _ hm18
              omega
            · exact h
          refine atof_slow _ _ _ R0 R1 R _ z d (special_0 _ hS0 hS1) hrf h6 h7 q0 hm19 (by omega) (by omega) hR0c hR1c heq hs (fun b w hDc => dset_txt d z hd hz h0 (by omega) ha1 ha2 b w hDc) (fun b w g B a1 a2 k1 k2 hDc hg hSE hB hBs => ?_) w hE
          obtain ⟨e, hat, he, hok, hfl⟩ := slow_start d z hd hz h0 hl (by omega) hz310 g hg
          have ee1 := hat.e1
          have hoo := oo_eq
          have h74 := e74_eq
          obtain ⟨k, hk⟩ : ∃ k : Nat, (k : Int) = max (e + 1021) 0 := ⟨(max (e + 1021) 0).toNat, by omega⟩
          obtain ⟨b1, b2, b3⟩ := bits_rq hat hk (i := oo + e74 - k) (by omega)
          rw [hR] at b1
          refine fb_mid _ _ e k _ R w b B a1 a2 k1 k2 g _ z _ hat ⟨hDc, hok, ?_, World.grownBy.refl w _, by omega, hz310, .inl (Int.le_refl _), by omega, by omega⟩ (by omega) hz310 he hk rfl b2 b3 b1 hSE hB hBs
          rw [show ((oo : Int) - 0).toNat = oo by omega]
          exact hfl

/-- What ParseFloat hands back, of every number. -/
theorem pf_ok (d : List UInt8) (z : Int) (hd : Digs d) (hz : d[0]? ≠ some 48) (h0 : 0 < d.length) (hl : d.length ≤ 5000) (ha1 : -1000 ≤ z) (ha2 : z ≤ 1000) :
    PfOk d z (rq (numD d * tA (z - (d.length : Nat)) * KK) (tB (z - (d.length : Nat)))) := fun w hw => by
  have hs : (ByteArray.mk (pfTxt d z).toArray).size = (pfTxt d z).length := size_mk _
  have hln : (pfTxt d z).length ≤ 5010 := by
    have h1 : (Lib.itoa z).length ≤ 5 := by
      have h4 := (dec_len4 (k := z.natAbs) (by omega)).2
      unfold Lib.itoa
      split
      · rw [List.length_cons]; omega
      · have e : z.toNat = z.natAbs := by omega
        rw [e]; omega
    rw [pfTxt_eq]
    simp
    omega
  have h1 := fun w (hw : PEnv w) => atof_txt d z hd hz h0 hl ha1 ha2 w hw
  have h2 := fun w (hw : PEnv w) => prefix_any _ _ _ h1 w hw
  have h3 := fun w (hw : PEnv w) => ipf_any _ _ _ (by rw [hs]; exact n_false rfl) h2 w hw
  exact pf_all _ _ (by omega) h3 w hw
end Go.Proofs.YtijncfidjjfmiaaGreatDoor
