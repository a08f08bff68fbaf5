/- The text of a real, as a plain function; digits without noughts at the end; how the library's text is cut up. -/
import Derived.Test.YtijncfidjjfmiaaGreatDoorFloEnv
import Derived.Test.YtijncfidjjfmiaaGreatDoorFloTxtP
import Derived.Test.YtijncfidjjfmiaaGreatDoorShelf
import Derived.Lib.Replace
import Derived.Lib.IndexBytes
import Derived.Lib.Atoi
import Derived.Lib.ItoaMem
namespace Go.Proofs.YtijncfidjjfmiaaGreatDoor
open Go.RowKit FloM

/-- The text of 0.T times 10 to the e. -/
def txt (T : List UInt8) (e : Int) : List UInt8 :=
  if e ≤ 15 ∧ -3 ≤ e then
    if e ≤ 0 then [48, 46] ++ List.replicate (-e).toNat 48 ++ T
    else if T.length ≤ e.toNat then T ++ List.replicate (e.toNat - T.length) 48 ++ [46, 48]
    else T.take e.toNat ++ [46] ++ T.drop e.toNat
  else T.take 1 ++ [46] ++ (if T.drop 1 = [] then [48] else T.drop 1) ++ [69] ++ (if e < 1 then [126] ++ Lib.decDigits (1 - e).toNat else Lib.decDigits (e - 1).toNat)

theorem dec_ten (k : Nat) (hk : 0 < k) : Lib.decDigits (k * 10) = Lib.decDigits k ++ [48] := by
  rw [Lib.decDigits, dif_neg (by omega), show k * 10 / 10 = k by omega, show k * 10 % 10 = 0 by omega]
  rfl
theorem nd_tenD (k : Nat) (hk : 0 < k) : Lib.nDigits (k * 10) = Lib.nDigits k + 1 := by
  rw [Lib.nDigits_big (by omega), show k * 10 / 10 = k by omega]
theorem strip_pow (k : Nat) (hk : 0 < k) : ∀ j : Nat, stripZ (Lib.decDigits (k * 10 ^ j)) = stripZ (Lib.decDigits k) ∧ Lib.nDigits (k * 10 ^ j) = Lib.nDigits k + j
  | 0 => by rw [Nat.pow_zero, Nat.mul_one]; exact ⟨rfl, rfl⟩
  | j + 1 => by
    obtain ⟨h1, h2⟩ := strip_pow k hk j
    have hp : 0 < k * 10 ^ j := Nat.mul_pos hk (Nat.pow_pos (by decide))
    rw [Nat.pow_succ, ← Nat.mul_assoc, dec_ten _ hp, stripZ_snoc, if_pos rfl, nd_tenD _ hp, h1, h2]
    exact ⟨rfl, by omega⟩

theorem byte_nz {d : Nat} (h : d < 10) (h0 : d ≠ 0) : UInt8.ofNat (48 + d) ≠ 48 := by
  intro h2
  have := congrArg UInt8.toNat h2
  rw [UInt8.toNat_ofNat', Nat.mod_eq_of_lt (by omega)] at this
  have e : (48 : UInt8).toNat = 48 := rfl
  omega

theorem strip_nz (k : Nat) (h : k % 10 ≠ 0) : stripZ (Lib.decDigits k) = Lib.decDigits k := by
  rw [Lib.decDigits]
  split
  · have : [UInt8.ofNat (48 + k)] = [] ++ [UInt8.ofNat (48 + k)] := rfl
    rw [this, stripZ_snoc, if_neg (byte_nz (by omega) (by omega))]
  · rw [stripZ_snoc, if_neg (byte_nz (by omega) h)]

/-- Every positive number has digits that are no nought. -/
theorem strip_ne {k : Nat} (hk : 0 < k) : stripZ (Lib.decDigits k) ≠ [] := by
  induction k using Nat.strongRecOn with
  | _ k ih =>
    by_cases h : k % 10 = 0
    · have e : k = k / 10 * 10 ^ 1 := by omega
      rw [e, (strip_pow (k / 10) (by omega) 1).1]
      exact ih (k / 10) (by omega) (by omega)
    · rw [strip_nz k h]
      intro h2
      have := congrArg List.length h2
      rw [Lib.decDigits_length] at this
      have := Lib.nDigits_pos k
      simp at *
      omega

/-- The same number, the same digits and the same power. -/
theorem strip_same {k d : Nat} (hk : 0 < k) (hd : 0 < d) {a b : Nat} (h : k * 10 ^ a = d * 10 ^ b) :
    stripZ (Lib.decDigits k) = stripZ (Lib.decDigits d) ∧ (Lib.nDigits k : Int) + a = Lib.nDigits d + b := by
  obtain ⟨h1, h2⟩ := strip_pow k hk a
  obtain ⟨h3, h4⟩ := strip_pow d hd b
  rw [← h1, ← h3, h]
  rw [h] at h2
  exact ⟨rfl, by omega⟩

/-! Bytes that are digits. -/
def Digs (l : List UInt8) : Prop := ∀ c ∈ l, 48 ≤ c.toNat ∧ c.toNat ≤ 57
theorem decDigits_digs (u : Nat) : Digs (Lib.decDigits u) := by
  intro c hc
  rw [Lib.decDigits_eq] at hc
  obtain ⟨t, _, rfl⟩ := List.mem_map.1 hc
  unfold Lib.dg
  rw [UInt8.toNat_ofNat']
  have := Nat.mod_lt (u / 10 ^ (Lib.nDigits u - 1 - t)) (show 10 > 0 by decide)
  rw [Nat.mod_eq_of_lt (by omega)]
  omega
theorem Digs.strip {l : List UInt8} (h : Digs l) : Digs (stripZ l) := by
  intro c hc
  obtain ⟨k, hk, _⟩ := stripZ_prefix l
  rw [hk] at hc
  exact h c (List.mem_of_mem_take hc)
theorem Digs.not {l : List UInt8} (h : Digs l) {c : UInt8} (hc : c.toNat < 48 ∨ 57 < c.toNat) : c ∉ l := fun hm => by have := h c hm; omega

theorem index_miss : ∀ (a : List UInt8) (c : UInt8), c ∉ a → Lib.index a [c] = -1
  | [], c, _ => rfl
  | x :: a, c, h => by
    have h1 : c ≠ x := fun e => h (by rw [e]; exact List.mem_cons_self)
    have ih := index_miss a c (fun hm => h (List.mem_cons_of_mem _ hm))
    unfold Lib.index
    rw [ih, if_neg (by simp [List.isPrefixOf, h1])]; rfl
theorem index_hit : ∀ (a : List UInt8) (c : UInt8) (b : List UInt8), c ∉ a → Lib.index (a ++ c :: b) [c] = a.length
  | [], c, b, _ => by
    rw [List.nil_append, Lib.index, if_pos (by simp [List.isPrefixOf])]; rfl
  | x :: a, c, b, h => by
    have h1 : c ≠ x := fun e => h (by rw [e]; exact List.mem_cons_self)
    have ih := index_hit a c b (fun hm => h (List.mem_cons_of_mem _ hm))
    rw [List.cons_append, Lib.index, ih, if_neg (by simp [List.isPrefixOf, h1]), if_neg (by intro h2; have := beq_iff_eq.1 h2; omega)]
    simp

theorem cut_hit (a : List UInt8) (c : UInt8) (b : List UInt8) (h : c ∉ a) : Lib.cut (a ++ c :: b) [c] = (a, b, true) := by
  unfold Lib.cut
  rw [index_hit a c b h, if_pos (by omega), Int.toNat_natCast]
  rw [List.take_left, show a.length + [c].length = a.length + 1 from rfl, List.drop_append, List.drop_eq_nil_of_le (by omega), show a.length + 1 - a.length = 1 by omega]
  rfl

/-- The part ahead of the exponent. -/
def mText (c : UInt8) (T : List UInt8) : List UInt8 := [c] ++ (if T = [] then [] else [46] ++ T)
/-- The exponent's text. -/
def xText (neg : Bool) (e : Nat) : List UInt8 := [if neg then 45 else 43] ++ exDig e

theorem eText_eq (c : UInt8) (T : List UInt8) (neg : Bool) (e : Nat) : eText c T neg e = mText c T ++ 101 :: xText neg e := by
  unfold eText mText xText
  simp

theorem mText_not {c : UInt8} {T : List UInt8} (h : Digs (c :: T)) : (101 : UInt8) ∉ mText c T := by
  have h1 := h.not (c := 101) (.inr (by decide))
  unfold mText
  split
  · intro hm
    rw [List.append_nil, List.mem_singleton] at hm
    exact h1 (by rw [← hm]; exact List.mem_cons_self)
  · intro hm
    rw [List.mem_append, List.mem_singleton, List.mem_append, List.mem_singleton] at hm
    rcases hm with hm | hm | hm
    · exact h1 (by rw [← hm]; exact List.mem_cons_self)
    · exact absurd hm (by decide)
    · exact h1 (List.mem_cons_of_mem _ hm)

theorem cut_eText {c : UInt8} {T : List UInt8} (h : Digs (c :: T)) (neg : Bool) (e : Nat) : Lib.cut (eText c T neg e) [101] = (mText c T, xText neg e, true) := by
  rw [eText_eq]; exact cut_hit _ _ _ (mText_not h)

theorem rep_miss (l new : List UInt8) (c : UInt8) (h : c ∉ l) (hn : ([c] == new) = false) (n : Int) : Lib.replace l [c] new n = l := by
  have hi := index_miss l c h
  unfold Lib.replace
  rw [if_neg (by rw [hn]; exact Bool.false_ne_true)]
  generalize Lib.replaceNum l [c] n = k
  cases k with
  | zero => rfl
  | succ k => rw [Lib.replaceK, if_pos (by rw [hi]; rfl)]
theorem rep_hit (a b new : List UInt8) (c : UInt8) (h : c ∉ a) (hn : ([c] == new) = false) : Lib.replace (a ++ c :: b) [c] new 1 = a ++ new ++ b := by
  have hi := index_hit a c b h
  unfold Lib.replace
  have hk : Lib.replaceNum (a ++ c :: b) [c] 1 = 1 := by
    unfold Lib.replaceNum
    rw [Lib.count_hit (by simp) hi]
    rw [if_neg (by omega)]; rfl
  rw [if_neg (by rw [hn]; exact Bool.false_ne_true), hk, Lib.replaceK_hit [c] new 0 _ _ hi, List.take_left, show a.length + [c].length = a.length + 1 from rfl, List.drop_append, List.drop_eq_nil_of_le (by omega), show a.length + 1 - a.length = 1 by omega]
  rfl

theorem rep_mText {c : UInt8} {T : List UInt8} (h : Digs (c :: T)) : Lib.replace (mText c T) [46] [] 1 = c :: T := by
  have h1 := h.not (c := 46) (.inl (by decide))
  have hc : (46 : UInt8) ∉ [c] := fun hm => h1 (by rw [List.mem_singleton.1 hm]; exact List.mem_cons_self)
  unfold mText
  split
  · rename_i hT
    subst hT
    exact rep_miss _ _ _ (by rw [List.append_nil]; exact hc) rfl 1
  · exact rep_hit [c] T [] 46 hc rfl

def expOk (e : Nat) : Bool := (Lib.atoi (xText true e) == some (-(e : Int))) && (Lib.atoi (xText false e) == some (e : Int)) && (xText true e).length.ble 5 && (xText false e).length.ble 5
theorem exp_ok0 : below (fun j => expOk j) 500 = true := by decide +kernel
theorem exp_ok {e : Nat} (h : e < 500) (neg : Bool) : Lib.atoi (xText neg e) = some (if neg then -(e : Int) else e) ∧ (xText neg e).length ≤ 5 := by
  have := below_of exp_ok0 e h
  unfold expOk at this
  rw [Bool.and_eq_true, Bool.and_eq_true, Bool.and_eq_true, beq_iff_eq, beq_iff_eq, Nat.ble_eq, Nat.ble_eq] at this
  obtain ⟨⟨⟨h1, h2⟩, h3⟩, h4⟩ := this
  cases neg
  · exact ⟨h2, h4⟩
  · exact ⟨h1, h3⟩

/-- The program's exponent: a minus sign is written as a tilde. -/
theorem rep_itoa (z : Int) : Lib.replace (Lib.itoa z) [45] [126] 1 = if z < 0 then [126] ++ Lib.decDigits z.natAbs else Lib.decDigits z.toNat := by
  unfold Lib.itoa
  split
  · exact rep_hit [] (Lib.decDigits z.natAbs) [126] 45 (by simp) rfl
  · exact rep_miss _ _ _ ((decDigits_digs _).not (.inl (by decide))) rfl 1
theorem bytes_take (T : List UInt8) (m : Nat) : (ByteArray.mk T.toArray).extract 0 m = ByteArray.mk (T.take m).toArray := by
  apply ByteArray.ext
  simp
theorem bytes_drop (T : List UInt8) (m : Nat) : (ByteArray.mk T.toArray).extract m T.length = ByteArray.mk (T.drop m).toArray := by
  apply ByteArray.ext
  simp
  exact List.take_of_length_le (by simp)

abbrev RetT (w : World) (X : List UInt8) (e : Ending) (w' : World) : Prop := e = .returned (.string ⟨X.toArray⟩) ∧ Below w.heap.size w w'
theorem below_grow (w : World) (q : Nat) (os : Array Obj) : Below w.heap.size w (Sort.grow (w.drewN q) os) :=
  ⟨rfl, rfl, rfl, by simp [Sort.grow], fun i hi => by
    show ((w.drewN q).heap ++ os)[i]? = _
    rw [Array.getElem?_append_left (by show i < w.heap.size; omega)]
    rfl⟩

theorem itoa_any (z : Int) (h0 : -1000 ≤ z) (h1 : z ≤ 1000) (w : World) (ht : Env w) : Calls Tryz.prog 48 #[.int .i64 z] w (RetT w (Lib.itoa z)) := by
  refine (Tryz.strconv_Itoa z (by omega) (by omega) w ht.tab).mono ?_
  rintro e w' ⟨rfl, k, os, rfl⟩
  exact ⟨rfl, below_grow w k os⟩

end Go.Proofs.YtijncfidjjfmiaaGreatDoor
