/- The shortest digits: all positive finite reals. -/
import Derived.Test.YtijncfidjjfmiaaGreatDoorFloFind
namespace FloM
theorem p2_ok0 : below (fun j => p2Ok (0 + j)) 128 = true := by decide +kernel
theorem p2_ok1 : below (fun j => p2Ok (128 + j)) 128 = true := by decide +kernel
theorem p2_ok2 : below (fun j => p2Ok (256 + j)) 128 = true := by decide +kernel
theorem p2_ok3 : below (fun j => p2Ok (384 + j)) 128 = true := by decide +kernel
theorem p2_ok4 : below (fun j => p2Ok (512 + j)) 128 = true := by decide +kernel
theorem p2_ok5 : below (fun j => p2Ok (640 + j)) 128 = true := by decide +kernel
theorem p2_ok6 : below (fun j => p2Ok (768 + j)) 128 = true := by decide +kernel
theorem p2_ok7 : below (fun j => p2Ok (896 + j)) 128 = true := by decide +kernel
theorem p2_ok8 : below (fun j => p2Ok (1024 + j)) 128 = true := by decide +kernel
theorem p2_ok9 : below (fun j => p2Ok (1152 + j)) 128 = true := by decide +kernel
theorem p2_ok10 : below (fun j => p2Ok (1280 + j)) 128 = true := by decide +kernel
theorem p2_ok11 : below (fun j => p2Ok (1408 + j)) 128 = true := by decide +kernel
theorem p2_ok12 : below (fun j => p2Ok (1536 + j)) 128 = true := by decide +kernel
theorem p2_ok13 : below (fun j => p2Ok (1664 + j)) 128 = true := by decide +kernel
theorem p2_ok14 : below (fun j => p2Ok (1792 + j)) 128 = true := by decide +kernel
theorem p2_ok15 : below (fun j => p2Ok (1920 + j)) 127 = true := by decide +kernel
theorem p2_ok (j : Nat) (hj : j < 2047) : p2Ok j = true := by
  rcases Nat.lt_or_ge j 128 with h0 | h0
  · have := below_of p2_ok0 (j - 0) (by omega)
    rwa [show 0 + (j - 0) = j by omega] at this
  rcases Nat.lt_or_ge j 256 with h1 | h1
  · have := below_of p2_ok1 (j - 128) (by omega)
    rwa [show 128 + (j - 128) = j by omega] at this
  rcases Nat.lt_or_ge j 384 with h2 | h2
  · have := below_of p2_ok2 (j - 256) (by omega)
    rwa [show 256 + (j - 256) = j by omega] at this
  rcases Nat.lt_or_ge j 512 with h3 | h3
  · have := below_of p2_ok3 (j - 384) (by omega)
    rwa [show 384 + (j - 384) = j by omega] at this
  rcases Nat.lt_or_ge j 640 with h4 | h4
  · have := below_of p2_ok4 (j - 512) (by omega)
    rwa [show 512 + (j - 512) = j by omega] at this
  rcases Nat.lt_or_ge j 768 with h5 | h5
  · have := below_of p2_ok5 (j - 640) (by omega)
    rwa [show 640 + (j - 640) = j by omega] at this
  rcases Nat.lt_or_ge j 896 with h6 | h6
  · have := below_of p2_ok6 (j - 768) (by omega)
    rwa [show 768 + (j - 768) = j by omega] at this
  rcases Nat.lt_or_ge j 1024 with h7 | h7
  · have := below_of p2_ok7 (j - 896) (by omega)
    rwa [show 896 + (j - 896) = j by omega] at this
  rcases Nat.lt_or_ge j 1152 with h8 | h8
  · have := below_of p2_ok8 (j - 1024) (by omega)
    rwa [show 1024 + (j - 1024) = j by omega] at this
  rcases Nat.lt_or_ge j 1280 with h9 | h9
  · have := below_of p2_ok9 (j - 1152) (by omega)
    rwa [show 1152 + (j - 1152) = j by omega] at this
  rcases Nat.lt_or_ge j 1408 with h10 | h10
  · have := below_of p2_ok10 (j - 1280) (by omega)
    rwa [show 1280 + (j - 1280) = j by omega] at this
  rcases Nat.lt_or_ge j 1536 with h11 | h11
  · have := below_of p2_ok11 (j - 1408) (by omega)
    rwa [show 1408 + (j - 1408) = j by omega] at this
  rcases Nat.lt_or_ge j 1664 with h12 | h12
  · have := below_of p2_ok12 (j - 1536) (by omega)
    rwa [show 1536 + (j - 1536) = j by omega] at this
  rcases Nat.lt_or_ge j 1792 with h13 | h13
  · have := below_of p2_ok13 (j - 1664) (by omega)
    rwa [show 1664 + (j - 1664) = j by omega] at this
  rcases Nat.lt_or_ge j 1920 with h14 | h14
  · have := below_of p2_ok14 (j - 1792) (by omega)
    rwa [show 1792 + (j - 1792) = j by omega] at this
  have := below_of p2_ok15 (j - 1920) (by omega)
  rwa [show 1920 + (j - 1920) = j by omega] at this

/-- The search of every positive finite real ends with the library's digits. -/
theorem ends_all (u : Nat) (h0 : 0 < u) (hf : u < cap) (e : Int) (h1 : val u * tB e < tA e * KK) (h2 : tA (e - 1) * KK ≤ val u * tB (e - 1)) : Ends u e := by
  have hcap : cap = 9218868437227405312 := by decide
  have two : ∀ j, j < 2047 → p2 j = u → Ends u e := by
    intro j hj hu
    have h := p2_ok j hj
    simp only [p2Ok, Bool.and_eq_true, Nat.blt_eq, Nat.ble_eq] at h
    obtain ⟨⟨k1, k2⟩, k3⟩ := h
    rw [hu] at k1 k2 k3
    have := pw_one h1 h2 k1 k2
    rw [this]
    exact srch_ends hf k3
  rcases Nat.lt_or_ge u (2 ^ 52) with hs | hs
  · rcases Nat.lt_or_ge u 3 with h3 | h3
    · have : u = 1 ∨ u = 2 := by omega
      rcases this with h | h
      · exact two 0 (by omega) (by rw [h]; decide)
      · exact two 1 (by omega) (by rw [h]; decide)
    · exact (in_sub u h3 hs).ends h1 h2
  · by_cases hin : u % 2 ^ 52 ≠ 0 ∨ u / 2 ^ 52 = 1
    · exact (in_norm u hs hf hin).ends h1 h2
    · refine two (u / 2 ^ 52) (by omega) ?_
      unfold p2
      have : Nat.blt (u / 2 ^ 52) 2 = false := by
        rw [← Bool.not_eq_true, Nat.blt_eq]; omega
      rw [this, cond_false]; omega
end FloM
