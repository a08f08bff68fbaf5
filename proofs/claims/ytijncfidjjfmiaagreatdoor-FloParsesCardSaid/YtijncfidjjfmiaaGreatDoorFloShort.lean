/- Go's shortest decimal of a 64-bit real, as a plain function on numbers. -/
import GoSem.PinnedTables
namespace FloM

def M64 : Nat := 2 ^ 64
/-- 10^p as the library's table has it, hi * 2^64 - lo, at place p + 348. -/
def pw (i : Nat) : Nat × Nat := Go.Pinned.pow10Rows.getD i (0, 0)

/-- floor (log10 2^x), floor (log2 10^x), the skewed one. -/
def l10p2 (x : Int) : Int := x * 78913 / 262144
def l2p10 (x : Int) : Int := x * 108853 / 32768
def skw (x : Int) : Int := (x * 631305 - 261663) / 2097152

/-- uscale. -/
def usc (x hi lo s : Nat) : Nat :=
  let h := x * hi / M64
  let mid := x * hi % M64
  if h / 2 ^ s * 2 ^ s ≠ h then (h / 2 ^ s) ||| 1
  else
    let mid2 := x * lo / M64
    let h' := if mid < mid2 then (h + M64 - 1) % M64 else h
    (h' / 2 ^ s) ||| (if 1 < (mid + M64 - mid2) % M64 then 1 else 0)

def uceil (u : Nat) : Nat := (u + 3) % M64 / 4
def ufloor (u : Nat) : Nat := u / 4
def uround (u : Nat) : Nat := (u + 1 + u / 4 % 2) % M64 / 4

def nudgeP (u d : Nat) : Nat := (u + d) % M64
def nudgeM (u d : Nat) : Nat := (u + M64 - d) % M64

/-- What is handed back, out of the three scaled numbers. -/
def pick (mn mx m hi lo s odd : Nat) (p : Int) : Nat × Int :=
  let dmin := uceil (nudgeP (usc mn hi lo s) odd)
  let dmax := ufloor (nudgeM (usc mx hi lo s) odd)
  let d := dmax / 10
  if dmin ≤ d * 10 then (d, 1 - p)
  else (if dmin < dmax then uround (usc m hi lo s) else dmin, - p)

/-- The significand, left-justified, and the power of two of a positive finite real's bits. -/
def mOf (u : Nat) : Nat := if u / 2 ^ 52 = 0 then u % 2 ^ 52 * 2 ^ (63 - (u % 2 ^ 52).log2) else (u % 2 ^ 52 + 2 ^ 52) * 2048
def eOf (u : Nat) : Int := if u / 2 ^ 52 = 0 then -1074 - ((63 - (u % 2 ^ 52).log2 : Nat) : Int) else ((u / 2 ^ 52 : Nat) : Int) - 1086

def pickN (m : Nat) (e : Int) : Nat × Int :=
  pick (m - 1024) (m + 1024) m (pw (348 - l10p2 (e + 11)).toNat).1 (pw (348 - l10p2 (e + 11)).toNat).2 (-(e + l2p10 (- l10p2 (e + 11)) + 3)).toNat (m / 2048 % 2) (- l10p2 (e + 11))
def pickK (m : Nat) (e : Int) : Nat × Int :=
  pick (m - 512) (m + 1024) m (pw (348 - skw (e + 11)).toNat).1 (pw (348 - skw (e + 11)).toNat).2 (-(e + l2p10 (- skw (e + 11)) + 3)).toNat (m / 2048 % 2) (- skw (e + 11))
def pickS (m : Nat) (e : Int) (z : Nat) : Nat × Int :=
  pick (m - 2 ^ (z - 1)) (m + 2 ^ (z - 1)) m (pw 672).1 (pw 672).2 (-(e + 1079)).toNat (m / 2 ^ z % 2) 324

/-- The shortest digits and their power of ten, of a positive finite real's bits (noughts at the end may be left). -/
def shortBits (u : Nat) : Nat × Int :=
  if u / 2 ^ 52 = 0 then pickS (mOf u) (eOf u) (63 - (u % 2 ^ 52).log2)
  else if u % 2 ^ 52 = 0 ∧ u / 2 ^ 52 ≠ 1 then pickK (mOf u) (eOf u) else pickN (mOf u) (eOf u)

example : shortBits 0x3FD3333333333334 = (30000000000000004, -17) := by decide +kernel
example : shortBits 1 = (5, -324) := by decide +kernel
example : shortBits 0x3FF0000000000000 = (1000000000000000, -15) := by decide +kernel
end FloM
