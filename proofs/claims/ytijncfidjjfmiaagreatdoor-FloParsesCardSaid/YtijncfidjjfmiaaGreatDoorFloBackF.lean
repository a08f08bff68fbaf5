/- The library's readFloat. -/
import Derived.Test.YtijncfidjjfmiaaGreatDoorFloParA
import Derived.Test.YtijncfidjjfmiaaGreatDoorFloFastB
import Derived.WalkMore
import Derived.Deep.LoopGhost
namespace Go.Proofs.YtijncfidjjfmiaaGreatDoor
open Go.RowKit FloM

/-- The number of digits. -/
def numD (l : List UInt8) : Nat := l.foldl (fun n c => n * 10 + (c.toNat - 48)) 0
theorem numD_snoc (l : List UInt8) (c : UInt8) : numD (l ++ [c]) = numD l * 10 + (c.toNat - 48) := by unfold numD; rw [List.foldl_append]; rfl
theorem numD_take {l : List UInt8} {j : Nat} {c : UInt8} (h : l[j]? = some c) : numD (l.take (j + 1)) = numD (l.take j) * 10 + (c.toNat - 48) := by
  rw [← numD_snoc]
  congr 1
  rw [List.take_add_one, h]; rfl
theorem numD_lt : ∀ (n : Nat) (l : List UInt8), Digs l → l.length ≤ n → numD l < 10 ^ n := by
  intro n
  induction n with
  | zero =>
    intro l _ hl
    have : l = [] := List.eq_nil_of_length_eq_zero (by omega)
    subst this; decide
  | succ n ih =>
    intro l hd hl
    rcases List.eq_nil_or_concat l with rfl | ⟨l', c, rfl⟩
    · exact Nat.pow_pos (by decide)
    · rw [List.concat_eq_append, numD_snoc]
      rw [List.concat_eq_append] at hd hl
      have h1 := ih l' (fun x hx => hd x (List.mem_append_left _ hx)) (by simp at hl; omega)
      have h2 := hd c (List.mem_append_right _ (List.mem_singleton.2 rfl))
      rw [Nat.pow_succ]; omega

theorem numD_cons (c : UInt8) (l : List UInt8) : numD (c :: l) = (c.toNat - 48) * 10 ^ l.length + numD l := by
  unfold numD
  rw [List.foldl_cons]
  have : ∀ (l : List UInt8) (a : Nat), l.foldl (fun n c => n * 10 + (c.toNat - 48)) a = a * 10 ^ l.length + l.foldl (fun n c => n * 10 + (c.toNat - 48)) 0 := by
    intro l
    induction l with
    | nil => intro a; simp
    | cons x l ih =>
      intro a
      rw [List.foldl_cons, List.foldl_cons, ih, ih (0 * 10 + _), List.length_cons, Nat.pow_succ]
      grind
  rw [this l (0 * 10 + (c.toNat - 48)), Nat.zero_mul, Nat.zero_add]
theorem numD_ne {d : List UInt8} {j : Nat} (hd : Digs d) (hz : d[0]? ≠ some 48) (h0 : 0 < d.length) (hj : 0 < j) : (((numD (d.take j) : Nat) : Int) != 0) = true := by
  rcases d with _ | ⟨c, d⟩
  · simp at h0
  · obtain ⟨k, rfl⟩ : ∃ k, j = k + 1 := ⟨j - 1, by omega⟩
    rw [List.take_succ_cons, numD_cons]
    have h1 := hd c (List.mem_cons_self ..)
    have h2 : c.toNat ≠ 48 := fun h => hz (by simp only [List.getElem?_cons_zero]; exact congrArg some (UInt8.toNat_inj.1 h))
    have h3 : 0 < (c.toNat - 48) * 10 ^ (d.take k).length := Nat.mul_pos (by omega) (Nat.pow_pos (by decide))
    rw [bne_iff_ne]
    omega

/-- Is a digit behind the nineteenth no nought? -/
def trD (d : List UInt8) (j : Nat) : Bool := ((d.take j).drop 19).any (fun c => c != 48)
theorem trD_lo {d : List UInt8} {j : Nat} (h : j ≤ 19) : trD d j = false := by
  unfold trD
  rw [List.drop_eq_nil_of_le (by rw [List.length_take]; omega)]; rfl
theorem trD_step {d : List UInt8} {j : Nat} {c : UInt8} (h : d[j]? = some c) (hj : 19 ≤ j) : trD d (j + 1) = (trD d j || (c != 48)) := by
  have hl : j < d.length := (List.getElem?_eq_some_iff.1 h).1
  unfold trD
  rw [List.take_add_one, h, List.drop_append_of_le_length (by rw [List.length_take]; omega), List.any_append]
  simp

theorem lower_46 (w : World) : Calls Tryz.prog 138 #[.int .u8 46] w fun e w' => e = .returned (.int .u8 46) ∧ w = w' := by
  have hb : bits .or .u8 46 32 = 46 := by decide
  go_enter Tryz.func138, Tryz.ntmps138
  go_wp2
  go_ret
  exact ⟨rfl, rfl⟩
theorem lower_101 (w : World) : Calls Tryz.prog 138 #[.int .u8 101] w fun e w' => e = .returned (.int .u8 101) ∧ w = w' := by
  have hb : bits .or .u8 101 32 = 101 := by decide
  go_enter Tryz.func138, Tryz.ntmps138
  go_wp2
  go_ret
  exact ⟨rfl, rfl⟩

/-- Where the loop over the digits stands, k bytes on. -/
def StF (d : List UInt8) (k : Nat) (mant tr sd sdg nd ndm dp : Value) : Prop :=
  (k = 0 ∧ mant = .int .u64 0 ∧ tr = .bool false ∧ sd = .bool false ∧ sdg = .bool false ∧ nd = .int .i64 0 ∧ ndm = .int .i64 0 ∧ dp = .int .i64 0) ∨
  (k = 1 ∧ mant = .int .u64 0 ∧ tr = .bool false ∧ sd = .bool false ∧ sdg = .bool true ∧ nd = .int .i64 0 ∧ ndm = .int .i64 0 ∧ dp = .int .i64 (-1)) ∨
  (∃ j : Nat, k = 2 + j ∧ mant = .int .u64 (numD (d.take (min j 19)) : Nat) ∧ tr = .bool (trD d j) ∧ sd = .bool true ∧ sdg = .bool true ∧ nd = .int .i64 (j : Nat) ∧ ndm = .int .i64 (min j 19 : Nat) ∧ dp = .int .i64 0)

abbrev Ret7 (a : Nat) (b : Int) (tr : Bool) (n : Nat) : Ending := .returned (.tuple #[.int .u64 (a : Int), .int .i64 b, .bool false, .bool tr, .bool false, .int .i64 (n : Int), .bool true])

set_option maxRecDepth 100000 in
set_option maxHeartbeats 4000000 in
theorem readF_any (S : ByteArray) (s d X : List UInt8) (L n x : Nat) (ng : Bool)
    (G : Hid (∀ (k : Nat) (c : UInt8), s[k]? = some c → ∀ hk : k < S.size, S[k]'hk = c)) (hL : S.size = L) (hLe : L = 3 + n + ng.toNat + x)
    (hn : n = d.length) (h0 : 0 < n) (hn5 : n ≤ 9000) (hd : Digs d) (hz : d[0]? ≠ some 48) (hx : x = X.length) (hx0 : 0 < x) (hx4 : x ≤ 4) (hX : Digs X)
    (l0 : s[0]? = some 48) (l1 : s[1]? = some 46) (ld : ∀ (j : Nat) (c : UInt8), d[j]? = some c → s[2 + j]? = some c) (le : s[2 + n]? = some 101)
    (lm : ng = true → s[2 + n + 1]? = some 45) (lx : ∀ (j : Nat) (c : UInt8), X[j]? = some c → s[2 + n + 1 + ng.toNat + j]? = some c) (w : World) :
    Calls Tryz.prog 170 #[.string S] w fun e w' => e = Ret7 (numD (d.take (min n 19))) ((if ng then -(numD X : Int) else numD X) - (min n 19 : Nat)) (trD d n) L ∧ w = w' := by
  have hL5 : 4 ≤ L ∧ L ≤ 9010 := by cases ng <;> simp at hLe <;> omega
  have z0 : 0 < S.size := by omega
  have z1 : 1 < S.size := by omega
  have g0 := G 0 48 l0 z0
  have g1 := G 1 46 l1 z1
  have hnL : 3 + n + ng.toNat + x = L := hLe.symm
  have HLE := Lib.hid hLe
  have HN := Lib.hid hn
  have HX := Lib.hid hx
  have HD := Lib.hid hd
  have HZ := Lib.hid hz
  have HLD := Lib.hid ld
  have HL2 := Lib.hid le
  have HLM := Lib.hid lm
  have HLX := Lib.hid lx
  have HXX := Lib.hid hX
  have hn2 : 2 + n < L := by omega
  clear hLe hn hx hd hz ld le hX hnL l0 l1 lm lx
  go_enter Tryz.func170, Tryz.ntmps170
  go_wp2_with fail
  go_step3
  go_wp2_with (go_at_call 138; refine (lower_46 _).mono ?_; rintro e w' ⟨rfl, rfl⟩)
  go_step3
  go_wp2_with fail
  go_loopg [2, 5, 7, 9, 13, 14, 15, 16, 17] (2 + n) (fun g mant tr i und sd sdg nd ndm dp wr => w = wr ∧ und = .bool false ∧ ∃ k : Nat, k + g = 2 + n ∧ i = .int .i64 k ∧ StF d k mant tr sd sdg nd ndm dp)
  case atStart => exact ⟨rfl, rfl, 0, by omega, rfl, .inl ⟨rfl, rfl, rfl, rfl, rfl, rfl, rfl, rfl⟩⟩
  case round =>
    obtain ⟨rfl, rfl, k, hk, rfl, hst⟩ := hrel
    rcases hst with ⟨rfl, rfl, rfl, rfl, rfl, rfl, rfl, rfl⟩ | ⟨rfl, rfl, rfl, rfl, rfl, rfl, rfl, rfl⟩ | ⟨j, rfl, rfl, rfl, rfl, rfl, rfl, rfl, rfl⟩
    · go_wp2_with fail
      go_roundg (gk - 1)
      case rel => exact ⟨rfl, rfl, 1, by omega, rfl, .inr (.inl ⟨rfl, rfl, rfl, rfl, rfl, rfl, rfl, rfl⟩)⟩
      case measure => omega
    · go_wp2_with fail
      go_roundg (gk - 1)
      case rel => exact ⟨rfl, rfl, 2, by omega, rfl, .inr (.inr ⟨0, rfl, rfl, rfl, rfl, rfl, rfl, rfl, rfl⟩)⟩
      case measure => omega
    · by_cases hj : j < n
      · obtain ⟨c, hc⟩ : ∃ c, d[j]? = some c := ⟨d[j]'(by have := HN.out; omega), List.getElem?_eq_getElem _⟩
        obtain ⟨d1, d2⟩ := HD.out c (List.mem_of_getElem? hc)
        have hc0 : c = 48 → j ≠ 0 := fun h1 h2 => HZ.out (by rw [← h2, hc, h1])
        have hK2 : 2 + j < S.size := by omega
        have g2 := G (2 + j) c (HLD.out j c hc) hK2
        have hKL : 2 + j < L := by omega
        have q95 : ((c.toNat : Int) == 95) = false := b_false (by omega)
        have q46 : ((c.toNat : Int) == 46) = false := b_false (by omega)
        by_cases h48 : c = 48
        · have hc1 := hc0 h48
          subst h48
          have qj : ((j : Int) == 0) = false := b_false (by omega)
          by_cases hj19 : j < 19
          · have hM := numD_lt 18 (d.take j) (fun c hc => HD.out c (List.mem_of_mem_take hc)) (by rw [List.length_take]; omega)
            rw [Nat.min_eq_left (show j ≤ 19 by omega), trD_lo (show j ≤ 19 by omega)]
            have HS := Lib.hid (show numD (d.take (min (j + 1) 19)) = numD (d.take j) * 10 by rw [Nat.min_eq_left (by omega)]; exact numD_take hc)
            have HT := Lib.hid (show trD d (j + 1) = false from trD_lo (by omega))
            generalize numD (d.take j) = M at *
            have hM2 : M < 1000000000000000000 := hM
            clear hM hc q95 q46 d1 d2 hc1 hc0
            go_wp2_with fail
            go_roundg (gk - 1)
            case rel => exact ⟨rfl, rfl, 2 + (j + 1), by omega, by go_num, .inr (.inr ⟨j + 1, rfl, by rw [HS.out]; go_num, by rw [HT.out], rfl, rfl, by go_num, by rw [Nat.min_eq_left (by omega)]; go_num, rfl⟩)⟩
            case measure => omega
          · rw [Nat.min_eq_right (show 19 ≤ j by omega)]
            have HS := Lib.hid (show numD (d.take (min (j + 1) 19)) = numD (d.take 19) by rw [Nat.min_eq_right (by omega)])
            have HT := Lib.hid (show trD d (j + 1) = trD d j by rw [trD_step hc (by omega)]; exact Bool.or_false _)
            generalize numD (d.take 19) = M at *
            generalize trD d j = T at *
            clear hc q95 q46 d1 d2 hc1 hc0
            go_wp2_with fail
            go_roundg (gk - 1)
            case rel => exact ⟨rfl, rfl, 2 + (j + 1), by omega, by go_num, .inr (.inr ⟨j + 1, rfl, by rw [HS.out], by rw [HT.out], rfl, rfl, by go_num, by rw [Nat.min_eq_right (by omega)]; rfl, rfl⟩)⟩
            case measure => omega
        · by_cases hj19 : j < 19
          · have hM := numD_lt 18 (d.take j) (fun c hc => HD.out c (List.mem_of_mem_take hc)) (by rw [List.length_take]; omega)
            rw [Nat.min_eq_left (show j ≤ 19 by omega), trD_lo (show j ≤ 19 by omega)]
            have HS := Lib.hid (show numD (d.take (min (j + 1) 19)) = numD (d.take j) * 10 + (c.toNat - 48) by rw [Nat.min_eq_left (by omega)]; exact numD_take hc)
            have HT := Lib.hid (show trD d (j + 1) = false from trD_lo (by omega))
            generalize numD (d.take j) = M at *
            have hM2 : M < 1000000000000000000 := hM
            clear hM hc
            have q48 : ((c.toNat : Int) == 48) = false := b_false (fun h => h48 ((byte_int (d := 48) rfl).1 h))
            have qn : ((c.toNat : Int) != 48) = true := n_true (fun h => h48 ((byte_int (d := 48) rfl).1 h))
            clear h48
            go_wp2_with fail
            go_roundg (gk - 1)
            case rel => exact ⟨rfl, rfl, 2 + (j + 1), by omega, by go_num, .inr (.inr ⟨j + 1, rfl, by rw [HS.out]; go_num, by rw [HT.out], rfl, rfl, by go_num, by rw [Nat.min_eq_left (by omega)]; go_num, rfl⟩)⟩
            case measure => omega
          · rw [Nat.min_eq_right (show 19 ≤ j by omega)]
            have HS := Lib.hid (show numD (d.take (min (j + 1) 19)) = numD (d.take 19) by rw [Nat.min_eq_right (by omega)])
            have HT := Lib.hid (show trD d (j + 1) = true by rw [trD_step hc (by omega), show (c != 48) = true from (by simpa using h48), Bool.or_true])
            generalize numD (d.take 19) = M at *
            generalize trD d j = T at *
            clear hc
            have q48 : ((c.toNat : Int) == 48) = false := b_false (fun h => h48 ((byte_int (d := 48) rfl).1 h))
            have qn : ((c.toNat : Int) != 48) = true := n_true (fun h => h48 ((byte_int (d := 48) rfl).1 h))
            clear h48
            go_wp2_with fail
            go_roundg (gk - 1)
            case rel => exact ⟨rfl, rfl, 2 + (j + 1), by omega, by go_num, .inr (.inr ⟨j + 1, rfl, by rw [HS.out], by rw [HT.out], rfl, rfl, by go_num, by rw [Nat.min_eq_right (by omega)]; rfl, rfl⟩)⟩
            case measure => omega
      · have hjn : j = n := by omega
        subst hjn
        have hK2 : 2 + j < S.size := by omega
        have g2 := G (2 + j) 101 HL2.out hK2
        have hKL : 2 + j < L := by omega
        have hM0 := numD_ne (j := min j 19) HD.out HZ.out (by have := HN.out; omega) (by omega)
        have hmn : min j 19 ≤ 19 := Nat.min_le_right _ _
        generalize hMM : numD (d.take (min j 19)) = M at *
        generalize hTT : trD d j = T at *
        generalize hmm : min j 19 = mn at *
        have HMM := Lib.hid hMM
        have HTT := Lib.hid hTT
        have Hmm := Lib.hid hmm
        clear hMM hTT hmm
        obtain ⟨c0, hc0⟩ : ∃ c, X[0]? = some c := ⟨X[0]'(by have := HX.out; omega), List.getElem?_eq_getElem _⟩
        obtain ⟨e1, e2⟩ := HXX.out c0 (List.mem_of_getElem? hc0)
        have hx0L := HLX.out 0 c0 hc0
        clear hc0
        cases ng
        · have hL3 : L = 2 + j + 1 + x := by have := HLE.out; simp at this; omega
          have HL3 := Lib.hid hL3
          have hK3 : 2 + j + 1 < S.size := by omega
          have g3 := G (2 + j + 1) c0 hx0L hK3
          have hK3L : 2 + j + 1 < L := by omega
          clear hx0L hL3
          have q43 : ((c0.toNat : Int) == 43) = false := b_false (by omega)
          have q45 : ((c0.toNat : Int) == 45) = false := b_false (by omega)
          have q58 : ¬ (57 : Int) < (c0.toNat : Int) := by omega
          have q47 : ¬ (c0.toNat : Int) < 48 := by omega
          go_wp2_with (go_at_call 138; refine (lower_101 _).mono ?_; rintro e w' ⟨rfl, rfl⟩)
          go_loop [7, 9, 20] (fun i u e => u = .bool false ∧ ∃ k : Nat, k ≤ x ∧ i = .int .i64 (2 + (j : Int) + 1 + (k : Int)) ∧ e = .int .i64 ((numD (X.take k) : Nat) : Int)) (fun i _ _ => L - (intOf i).toNat)
          case atStart => exact ⟨rfl, 0, Nat.zero_le _, by go_num, rfl⟩
          case round =>
            obtain ⟨rfl, k, hk, rfl, rfl⟩ := hrel
            by_cases hkx : k < x
            · obtain ⟨c, hc⟩ : ∃ c, X[k]? = some c := ⟨X[k]'(by have := HX.out; omega), List.getElem?_eq_getElem _⟩
              obtain ⟨f1, f2⟩ := HXX.out c (List.mem_of_getElem? hc)
              have hKk : 2 + j + 1 + k < S.size := by have := HL3.out; omega
              have gk' := G (2 + j + 1 + k) c (HLX.out k c hc) hKk
              have hKkL : 2 + j + 1 + k < L := by have := HL3.out; omega
              have q95 : ((c.toNat : Int) == 95) = false := b_false (by omega)
              have hM := numD_lt 3 (X.take k) (fun c hc => HXX.out c (List.mem_of_mem_take hc)) (by rw [List.length_take]; omega)
              have HS := Lib.hid (show numD (X.take (k + 1)) = numD (X.take k) * 10 + (c.toNat - 48) from numD_take hc)
              generalize numD (X.take k) = E at *
              have hM2 : E < 1000 := hM
              clear hM hc g3
              go_wp2_with fail
              go_round
              case rel => exact ⟨rfl, k + 1, by omega, by go_num, by rw [HS.out]; go_num⟩
              case measure => simp [intOf]; omega
            · have hkx2 : k = x := by omega
              subst hkx2
              have hLk : 2 + j + 1 + k = L := by have := HL3.out; omega
              have HLi := Lib.hid (show 2 + (j : Int) + 1 + (k : Int) = (L : Int) by omega)
              have HXt := Lib.hid (show numD (X.take k) = numD X by rw [List.take_of_length_le (by have := HX.out; omega)])
              have hE := numD_lt 4 (X.take k) (fun c hc => HXX.out c (List.mem_of_mem_take hc)) (by rw [List.length_take]; omega)
              generalize numD (X.take k) = E at *
              have hE2 : E < 10000 := hE
              clear hE g3 hkx
              go_wp2_with fail
              exact bodyPost_ret (v := .tuple #[.int .u64 (M : Int), .int .i64 (E - (mn : Int)), .bool false, .bool T, .bool false, .int .i64 (2 + (j : Int) + 1 + (k : Int)), .bool true]) (by simp [results, Tryz.results170, go_sem]) rfl ⟨by rw [Hmm.out, HMM.out, HTT.out, HLi.out, HXt.out], rfl⟩
        · have hL3 : L = 2 + j + 1 + 1 + x := by have := HLE.out; simp at this; omega
          have HL3 := Lib.hid hL3
          have hK4 : 2 + j + 1 < S.size := by omega
          have g4 := G (2 + j + 1) 45 (HLM.out rfl) hK4
          have hK4L : 2 + j + 1 < L := by omega
          have hK3 : 2 + j + 1 + 1 < S.size := by omega
          have g3 := G (2 + j + 1 + 1) c0 hx0L hK3
          have hK3L : 2 + j + 1 + 1 < L := by omega
          clear hx0L hL3
          have q58 : ¬ (57 : Int) < (c0.toNat : Int) := by omega
          have q47 : ¬ (c0.toNat : Int) < 48 := by omega
          go_wp2_with (go_at_call 138; refine (lower_101 _).mono ?_; rintro e w' ⟨rfl, rfl⟩)
          go_loop [7, 9, 20] (fun i u e => u = .bool false ∧ ∃ k : Nat, k ≤ x ∧ i = .int .i64 (2 + (j : Int) + 1 + 1 + (k : Int)) ∧ e = .int .i64 ((numD (X.take k) : Nat) : Int)) (fun i _ _ => L - (intOf i).toNat)
          case atStart => exact ⟨rfl, 0, Nat.zero_le _, by go_num, rfl⟩
          case round =>
            obtain ⟨rfl, k, hk, rfl, rfl⟩ := hrel
            by_cases hkx : k < x
            · obtain ⟨c, hc⟩ : ∃ c, X[k]? = some c := ⟨X[k]'(by have := HX.out; omega), List.getElem?_eq_getElem _⟩
              obtain ⟨f1, f2⟩ := HXX.out c (List.mem_of_getElem? hc)
              have hKk : 2 + j + 1 + 1 + k < S.size := by have := HL3.out; omega
              have gk' := G (2 + j + 1 + 1 + k) c (HLX.out k c hc) hKk
              have hKkL : 2 + j + 1 + 1 + k < L := by have := HL3.out; omega
              have q95 : ((c.toNat : Int) == 95) = false := b_false (by omega)
              have hM := numD_lt 3 (X.take k) (fun c hc => HXX.out c (List.mem_of_mem_take hc)) (by rw [List.length_take]; omega)
              have HS := Lib.hid (show numD (X.take (k + 1)) = numD (X.take k) * 10 + (c.toNat - 48) from numD_take hc)
              generalize numD (X.take k) = E at *
              have hM2 : E < 1000 := hM
              clear hM hc g3
              go_wp2_with fail
              go_round
              case rel => exact ⟨rfl, k + 1, by omega, by go_num, by rw [HS.out]; go_num⟩
              case measure => simp [intOf]; omega
            · have hkx2 : k = x := by omega
              subst hkx2
              have hLk : 2 + j + 1 + 1 + k = L := by have := HL3.out; omega
              have HLi := Lib.hid (show 2 + (j : Int) + 1 + 1 + (k : Int) = (L : Int) by omega)
              have HXt := Lib.hid (show numD (X.take k) = numD X by rw [List.take_of_length_le (by have := HX.out; omega)])
              have hE := numD_lt 4 (X.take k) (fun c hc => HXX.out c (List.mem_of_mem_take hc)) (by rw [List.length_take]; omega)
              generalize numD (X.take k) = E at *
              have hE2 : E < 10000 := hE
              clear hE g3 hkx
              go_wp2_with fail
              exact bodyPost_ret (v := .tuple #[.int .u64 (M : Int), .int .i64 (-E - (mn : Int)), .bool false, .bool T, .bool false, .int .i64 (2 + (j : Int) + 1 + 1 + (k : Int)), .bool true]) (by simp [results, Tryz.results170, go_sem]) rfl ⟨by rw [Hmm.out, HMM.out, HTT.out, HLi.out, HXt.out], rfl⟩
end Go.Proofs.YtijncfidjjfmiaaGreatDoor
