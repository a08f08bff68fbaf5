/- The library's functions that the program's texts call, in the words of these proofs. -/
import Derived.Test.YtijncfidjjfmiaaGreatDoorFloTxtL
import Derived.Test.YtijncfidjjfmiaaGreatDoorFloTxtR
import Derived.Test.YtijncfidjjfmiaaGreatDoorShelf
import Derived.Lib.CountLaws
import Derived.Lib.Repeat
namespace Go.Proofs.YtijncfidjjfmiaaGreatDoor
open Go.RowKit FloM

theorem below_grow (w : World) (q : Nat) (os : Array Obj) : Below w.heap.size w (Sort.grow (w.drewN q) os) :=
  ⟨rfl, rfl, rfl, by simp [Sort.grow], fun i hi => by
    show ((w.drewN q).heap ++ os)[i]? = _
    rw [Array.getElem?_append_left (by show i < w.heap.size; omega)]
    rfl⟩

theorem repeatL_one (c : UInt8) : ∀ n : Nat, Lib.repeatL [c] n = List.replicate n c
  | 0 => rfl
  | n + 1 => by rw [Lib.repeatL, repeatL_one c n, List.replicate_succ]; rfl

theorem rep0_any (n : Nat) (hn : n ≤ 1000) (w : World) : Calls Tryz.prog 49 #[.string ⟨#[48]⟩, .int .i64 (n : Int)] w (RetT w (List.replicate n 48)) := by
  have h := Tryz.strings_Repeat ⟨#[48]⟩ n w (by omega) (by show 1 * n ≤ _; omega)
  rw [show Lib.repeatL (ByteArray.mk #[48]).data.toList n = List.replicate n 48 from repeatL_one 48 n] at h
  exact h

theorem itoa_any (z : Int) (h0 : -1000 ≤ z) (h1 : z ≤ 1000) (w : World) (ht : Env w) : Calls Tryz.prog 48 #[.int .i64 z] w (RetT w (Lib.itoa z)) := by
  refine (Tryz.strconv_Itoa z (by omega) (by omega) w ht.tab).mono ?_
  rintro e w' ⟨rfl, k, os, rfl⟩
  exact ⟨rfl, below_grow w k os⟩

/-- The exponent as it is written. -/
def exT (z : Int) : List UInt8 := if z < 0 then [126] ++ Lib.decDigits z.natAbs else Lib.decDigits z.toNat

theorem itoa_len (z : Int) (h0 : -401 ≤ z) (h1 : z ≤ 401) : (Lib.itoa z).length ≤ 1002 ∧ (exT z).length ≤ 1002 := by
  have e : ∀ k, k ≤ 401 → (Lib.decDigits k).length ≤ 1001 := fun k hk => by
    have := decZ_small' k hk
    exact this
  unfold Lib.itoa exT
  split
  · have := e z.natAbs (by omega); simp; omega
  · have := e z.toNat (by omega); simp; omega
where
  decZ_small' (k : Nat) (h : k ≤ 401) : (Lib.decDigits k).length ≤ 1001 := by
    rw [Lib.decDigits_length]
    have h1 : Lib.nDigits k ≤ 3 := by
      by_cases h1 : k < 10
      · rw [Lib.nDigits_small h1]; decide
      · rw [Lib.nDigits_big h1]
        by_cases h2 : k / 10 < 10
        · rw [Lib.nDigits_small h2]; decide
        · rw [Lib.nDigits_big h2, Lib.nDigits_small (by omega)]; decide
    omega

theorem repl_ex (z : Int) (h0 : -401 ≤ z) (h1 : z ≤ 401) (w : World) (ht : Env w) :
    Calls Tryz.prog 20 #[.string ⟨(Lib.itoa z).toArray⟩, .string ⟨#[45]⟩, .string ⟨#[126]⟩, .int .i64 1] w (RetT w (exT z)) := by
  obtain ⟨m, hm⟩ := ht.mxl
  have hl := (itoa_len z h0 h1).1
  have hs : (ByteArray.mk (Lib.itoa z).toArray).size = (Lib.itoa z).length := by simp [ByteArray.size]
  have hcn : Lib.countB ⟨(Lib.itoa z).toArray⟩ ⟨#[45]⟩ ≤ (Lib.itoa z).length + 1 := Lib.count_le _ _
  have h := Tryz.strings_Replace ⟨(Lib.itoa z).toArray⟩ ⟨#[45]⟩ ⟨#[126]⟩ 1 m w (by rw [hs]; omega) hm (by decide) (by
    rw [hs, show (ByteArray.mk #[126]).size = 1 from rfl]; omega)
  rw [show Lib.replace (ByteArray.mk (Lib.itoa z).toArray).data.toList (ByteArray.mk #[45]).data.toList (ByteArray.mk #[126]).data.toList 1 = exT z from rep_itoa z] at h
  exact h

theorem repl_pt {c : UInt8} {T : List UInt8} (hd : Digs (c :: T)) (hl : T.length ≤ 20) (w : World) (ht : Env w) :
    Calls Tryz.prog 20 #[.string ⟨(mText c T).toArray⟩, .string ⟨#[46]⟩, .string ⟨#[]⟩, .int .i64 1] w (RetT w (c :: T)) := by
  obtain ⟨m, hm⟩ := ht.mxl
  have hl2 : (mText c T).length ≤ 22 := by unfold mText; split <;> simp; omega
  have hs : (ByteArray.mk (mText c T).toArray).size = (mText c T).length := by simp [ByteArray.size]
  have h := Tryz.strings_Replace ⟨(mText c T).toArray⟩ ⟨#[46]⟩ ⟨#[]⟩ 1 m w (by rw [hs]; omega) hm (by decide) (by
    rw [hs, show (ByteArray.mk #[]).size = 0 from rfl]; omega)
  rw [show Lib.replace (ByteArray.mk (mText c T).toArray).data.toList (ByteArray.mk #[46]).data.toList (ByteArray.mk #[]).data.toList 1 = c :: T from rep_mText hd] at h
  exact h

theorem cut_txt {c : UInt8} {T : List UInt8} (hd : Digs (c :: T)) (hl : T.length ≤ 20) (neg : Bool) (x : Nat) (hx : x < 500) (w : World) (ht : Env w) :
    Calls Tryz.prog 19 #[.string ⟨(eText c T neg x).toArray⟩, .string ⟨#[101]⟩] w fun e w' => e = .returned (.tuple #[.string ⟨(mText c T).toArray⟩, .string ⟨(xText neg x).toArray⟩, .bool true]) ∧ Below w.heap.size w w' := by
  obtain ⟨m, hm⟩ := ht.mxl
  have h2 := (exp_ok hx neg).2
  have hl2 : (eText c T neg x).length ≤ 40 := by
    rw [eText_eq]
    have : (mText c T).length ≤ 22 := by unfold mText; split <;> simp; omega
    simp; omega
  have hs : (ByteArray.mk (eText c T neg x).toArray).size = (eText c T neg x).length := by simp [ByteArray.size]
  have h := Tryz.strings_Cut ⟨(eText c T neg x).toArray⟩ ⟨#[101]⟩ m w (by rw [hs]; omega) hm
  rw [show Lib.cut (ByteArray.mk (eText c T neg x).toArray).data.toList (ByteArray.mk #[101]).data.toList = (mText c T, xText neg x, true) from cut_eText hd neg x] at h
  refine h.mono ?_
  rintro e w' ⟨rfl, n, rfl⟩
  exact ⟨rfl, below_drewN (Below.refl _ _) n⟩

theorem atoi_txt (neg : Bool) (x : Nat) (hx : x < 500) (w : World) :
    Calls Tryz.prog 21 #[.string ⟨(xText neg x).toArray⟩] w fun e w' => e = .returned (.tuple #[.int .i64 (if neg then -(x : Int) else x), .nilIface]) ∧ Below w.heap.size w w' := by
  obtain ⟨h1, h2⟩ := exp_ok hx neg
  have hs : (ByteArray.mk (xText neg x).toArray).size = (xText neg x).length := by simp [ByteArray.size]
  refine (Tryz.strconv_Atoi ⟨(xText neg x).toArray⟩ _ (by rw [hs]; omega) h1 w).mono ?_
  rintro e w' ⟨rfl, t, rfl⟩
  exact ⟨rfl, Lib.bytesWorld_below _ _ _⟩
end Go.Proofs.YtijncfidjjfmiaaGreatDoor
