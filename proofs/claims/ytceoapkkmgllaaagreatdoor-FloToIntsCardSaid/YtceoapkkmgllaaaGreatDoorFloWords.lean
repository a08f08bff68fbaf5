/- What the model's operations on the 64 bits of reals are, in whole numbers of the least real. -/
import Derived.Test.YtceoapkkmgllaaaGreatDoorFloMath
namespace FloM
open Ieee

def sgn (u : Nat) : Bool := u / 2 ^ 63 % 2 == 1
def rg (u : Nat) : Nat := u % 2 ^ 63
def mg (r : Nat) : Nat := if r < 2 ^ 52 then r else 2 ^ 52 + r % 2 ^ 52
def up (r : Nat) : Nat := r / 2 ^ 52 - 1

theorem val_eq (r : Nat) : val r = mg r * 2 ^ up r := by
  unfold val mg up
  split
  · next h => rw [Nat.div_eq_of_lt h]; simp
  · rfl

theorem read_num {u : Nat} (h : rg u < cap) : double.read u = .number (sgn u) (mg (rg u)) (-1074 + (up (rg u) : Int)) := by
  unfold Format.read
  have hw : double.signWeight = 2 ^ 63 := by decide
  have hb : double.binade = 2 ^ 52 := rfl
  have hl : double.leastPlace = -1074 := by decide
  simp only [hw, hb, hl, infRung_cap]
  show (if rg u < 2 ^ 52 then _ else _) = _
  unfold mg up
  by_cases h1 : rg u < 2 ^ 52
  · rw [if_pos h1, if_pos h1, Nat.div_eq_of_lt h1]; rfl
  · rw [if_neg h1, if_neg h1]
    show (if rg u < cap then _ else _) = _
    rw [if_pos h]; rfl

theorem read_inf {u : Nat} (h : rg u = cap) : double.read u = .infinity (sgn u) := by
  unfold Format.read
  have hw : double.signWeight = 2 ^ 63 := by decide
  have hb : double.binade = 2 ^ 52 := rfl
  simp only [hw, hb, infRung_cap]
  show (if rg u < 2 ^ 52 then _ else if rg u < cap then _ else if rg u = cap then _ else _) = _
  rw [if_neg (by rw [h]; decide), if_neg (by omega), if_pos h]; rfl

theorem read_nan {u : Nat} (h : cap < rg u) : double.read u = .nan (sgn u) (rg u - cap) := by
  unfold Format.read
  have hw : double.signWeight = 2 ^ 63 := by decide
  have hb : double.binade = 2 ^ 52 := rfl
  simp only [hw, hb, infRung_cap]
  show (if rg u < 2 ^ 52 then _ else if rg u < cap then _ else if rg u = cap then _ else _) = _
  have hc : 2 ^ 52 ≤ cap := by decide
  rw [if_neg (by omega), if_neg (by omega), if_neg (by omega)]; rfl

def wd (neg : Bool) (r : Nat) : Nat := if neg then 2 ^ 63 + r else r
theorem word_wd (neg : Bool) (r : Nat) : double.word neg r = wd neg r := by
  unfold Format.word wd
  have hw : double.signWeight = 2 ^ 63 := by decide
  rw [hw]

theorem rq_le (A B : Nat) : rq A B ≤ cap := Nat.min_le_right _ _
theorem cap_lt : cap < 2 ^ 63 := by decide

theorem rg_wd (neg : Bool) (r : Nat) (h : r < 2 ^ 63) : rg (wd neg r) = r := by
  unfold rg wd; split <;> omega
theorem sgn_wd (neg : Bool) (r : Nat) (h : r < 2 ^ 63) : sgn (wd neg r) = neg := by
  unfold sgn wd
  cases neg
  · simp only [Bool.false_eq_true, if_false]
    rw [Nat.div_eq_of_lt h]; rfl
  · simp only [if_true]
    have : (2 ^ 63 + r) / 2 ^ 63 = 1 := by omega
    rw [this]; rfl
theorem wd_eq {u : Nat} (h : u < 2 ^ 64) : wd (sgn u) (rg u) = u := by
  unfold wd sgn rg
  have hd := Nat.div_add_mod u (2 ^ 63)
  have h2 : u / 2 ^ 63 < 2 := by omega
  rcases Nat.lt_or_ge (u / 2 ^ 63) 1 with h1 | h1
  · have : u / 2 ^ 63 = 0 := by omega
    rw [this]; simp; omega
  · have : u / 2 ^ 63 = 1 := by omega
    rw [this]; simp; omega
theorem wd_lt (neg : Bool) (r : Nat) (h : r < 2 ^ 63) : wd neg r < 2 ^ 64 := by
  unfold wd; split <;> omega
theorem rg_lt (u : Nat) : rg u < 2 ^ 63 := Nat.mod_lt _ (by omega)

/-- What finite bits stand for, in units of the least real. -/
def sv (u : Nat) : Int := if sgn u then -(val (rg u) : Int) else val (rg u)

/-- The number of a datum. -/
theorem signed_eq (neg : Bool) (m k : Nat) : signed neg m k = if neg then -((m * 2 ^ k : Nat) : Int) else ((m * 2 ^ k : Nat) : Int) := by
  unfold signed; rw [Nat.shiftLeft_eq]

/-- Numbers at a common base. -/
theorem sv_base (u : Nat) (base : Nat) (h : base ≤ up (rg u)) :
    sv u = signed (sgn u) (mg (rg u)) (up (rg u) - base) * (2 ^ base : Nat) := by
  unfold sv
  rw [signed_eq, val_eq]
  have : mg (rg u) * 2 ^ up (rg u) = mg (rg u) * 2 ^ (up (rg u) - base) * 2 ^ base := by
    rw [Nat.mul_assoc, ← Nat.pow_add, show up (rg u) - base + base = up (rg u) by omega]
  rw [this]
  split
  · rw [Int.neg_mul, Int.natCast_mul]
  · rw [Int.natCast_mul]

theorem add_core (s t : Bool) (m n i j : Nat) (x y : Int)
    (hx : x = signed s m (i - min i j) * (2 ^ min i j : Nat)) (hy : y = signed t n (j - min i j) * (2 ^ min i j : Nat)) :
    ((Datum.number s m (-1074 + (i : Int))).sum (.number t n (-1074 + (j : Int)))).map double.write
      = some (wd (if x + y = 0 then s && t else decide (x + y < 0)) (rq (x + y).natAbs 1)) := by
  simp only [Datum.sum, Option.map_some]
  have hb : min (-1074 + (i : Int)) (-1074 + (j : Int)) = -1074 + ((min i j : Nat) : Int) := by omega
  rw [hb]
  have e1 : (-1074 + (i : Int) - (-1074 + ((min i j : Nat) : Int))).toNat = i - min i j := by omega
  have e2 : (-1074 + (j : Int) - (-1074 + ((min i j : Nat) : Int))).toNat = j - min i j := by omega
  rw [e1, e2]
  generalize hb0 : min i j = b at *
  generalize hS : signed s m (i - b) = S at *
  generalize hT : signed t n (j - b) = T at *
  have hsum : x + y = (S + T) * ((2 ^ b : Nat) : Int) := by rw [hx, hy, Int.add_mul]
  have hp : (0 : Int) < ((2 ^ b : Nat) : Int) := by exact_mod_cast Nat.two_pow_pos b
  have hz : (x + y = 0) ↔ (S + T = 0) := by
    rw [hsum]
    constructor
    · intro h; rcases Int.mul_eq_zero.1 h with h | h
      · exact h
      · omega
    · intro h; rw [h, Int.zero_mul]
  have hn : (x + y < 0) ↔ (S + T < 0) := by
    rw [hsum]
    constructor
    · intro h
      rcases Int.lt_or_le (S + T) 0 with h1 | h1
      · exact h1
      · have := Int.mul_nonneg h1 (Int.le_of_lt hp); omega
    · intro h; exact Int.mul_neg_of_neg_of_pos h hp
  have ha : (x + y).natAbs = (S + T).natAbs * 2 ^ b := by rw [hsum, Int.natAbs_mul, Int.natAbs_natCast]
  simp only [Format.write]
  rw [nearest_rq _ _ _ 0 (by omega), word_wd]
  have e3 : (-1074 + (b : Int) + 1074 + ((0 : Nat) : Int)).toNat = b := by omega
  rw [e3, ← ha, Nat.pow_zero]
  simp only [hz, hn]

theorem add_fin {u v : Nat} (hu : rg u < cap) (hv : rg v < cap) :
    double.add u v = some (wd (if sv u + sv v = 0 then sgn u && sgn v else decide (sv u + sv v < 0)) (rq (sv u + sv v).natAbs 1)) := by
  unfold Format.add
  rw [read_num hu, read_num hv]
  exact add_core _ _ _ _ _ _ _ _ (sv_base u _ (Nat.min_le_left _ _)) (sv_base v _ (Nat.min_le_right _ _))

theorem signed_not (s : Bool) (m k : Nat) : signed (!s) m k = - signed s m k := by
  rw [signed_eq, signed_eq]; cases s <;> simp

theorem sub_fin {u v : Nat} (hu : rg u < cap) (hv : rg v < cap) :
    double.sub u v = some (wd (if sv u - sv v = 0 then sgn u && !sgn v else decide (sv u - sv v < 0)) (rq (sv u - sv v).natAbs 1)) := by
  unfold Format.sub
  rw [read_num hu, read_num hv]
  simp only [Datum.opposite]
  have := add_core (sgn u) (!sgn v) (mg (rg u)) (mg (rg v)) (up (rg u)) (up (rg v)) (sv u) (- sv v) (sv_base u _ (Nat.min_le_left _ _))
    (by rw [sv_base v _ (Nat.min_le_right (up (rg u)) _), signed_not, Int.neg_mul])
  rw [this]
  simp only [Int.sub_eq_add_neg]

theorem mul_fin {u v : Nat} (hu : rg u < cap) (hv : rg v < cap) :
    double.mul u v = some (wd (sgn u ^^ sgn v) (rq (val (rg u) * val (rg v)) KK)) := by
  unfold Format.mul
  rw [read_num hu, read_num hv]
  simp only [Datum.product, Option.map_some, Format.write]
  have h74 := e74_eq
  rw [nearest_rq _ _ _ e74 (by omega), word_wd, ← KK_eq]
  have : (-1074 + (up (rg u) : Int) + (-1074 + (up (rg v) : Int)) + 1074 + (e74 : Int)).toNat = up (rg u) + up (rg v) := by omega
  rw [this, val_eq, val_eq, Nat.pow_add]
  suffices h : mg (rg u) * mg (rg v) * (2 ^ up (rg u) * 2 ^ up (rg v)) = mg (rg u) * 2 ^ up (rg u) * (mg (rg v) * 2 ^ up (rg v)) by rw [h]
  generalize 2 ^ up (rg u) = a
  generalize 2 ^ up (rg v) = b
  rw [Nat.mul_assoc, Nat.mul_assoc]
  congr 1
  rw [Nat.mul_left_comm]

theorem rq_congr {A B A' B' : Nat} (hB : 0 < B) (hB' : 0 < B') (h : A * B' = A' * B) : rq A B = rq A' B' :=
  Nat.le_antisymm (rq_mono hB hB' (Nat.le_of_eq h)) (rq_mono hB' hB (Nat.le_of_eq h.symm))

/-- A quotient with a digit more, at whatever place that gives 54 digits. -/
theorem quot_rq (m n more : Nat) (i j : Nat) (neg : Bool) (hm : m ≠ 0) (hn : n ≠ 0) (hmore : 54 + n.log2 ≤ m.log2 + more) :
    double.nearest neg (2 * (m * 2 ^ more / n) + (m * 2 ^ more % n != 0).toNat) ((i : Int) - (j : Int) - (more : Int) - 1)
      = wd neg (rq (m * 2 ^ i * KK) (n * 2 ^ j)) := by
  have hb : (m * 2 ^ more % n != 0).toNat = if m * 2 ^ more % n = 0 then 0 else 1 := by
    by_cases h : m * 2 ^ more % n = 0 <;> simp [h]
  have hn0 : 0 < n := by omega
  rw [hb, nearest_rq _ _ _ (j + more + 1) (by omega), word_wd]
  have e : ((i : Int) - (j : Int) - (more : Int) - 1 + 1074 + ((j + more + 1 : Nat) : Int)).toNat = i + e74 := by rw [e74_eq]; omega
  rw [e, ← rq_sticky (m * 2 ^ more) n (i + e74) (j + more) hn0]
  · refine congrArg (wd neg) ?_
    apply rq_congr (Nat.mul_pos hn0 (Nat.two_pow_pos _)) (Nat.mul_pos hn0 (Nat.two_pow_pos _))
    rw [Nat.pow_add, Nat.pow_add, ← KK_eq]
    generalize 2 ^ more = a
    generalize 2 ^ i = b
    generalize 2 ^ j = c
    generalize KK = d
    simp only [Nat.mul_comm, Nat.mul_left_comm]
  · rw [Nat.le_log2]
    · rw [Nat.le_div_iff_mul_le hn0]
      have h1 := log2_le m hm
      have h2 := lt_log2 n
      calc 2 ^ 53 * n ≤ 2 ^ 53 * 2 ^ (n.log2 + 1) := Nat.mul_le_mul_left _ (Nat.le_of_lt h2)
        _ = 2 ^ (54 + n.log2) := by rw [← Nat.pow_add]; congr 1; omega
        _ ≤ 2 ^ (m.log2 + more) := Nat.pow_le_pow_right (by omega) hmore
        _ = 2 ^ m.log2 * 2 ^ more := Nat.pow_add _ _ _
        _ ≤ m * 2 ^ more := Nat.mul_le_mul_right _ h1
    · have : 0 < m * 2 ^ more / n := by
        apply Nat.div_pos _ hn0
        have h1 := log2_le m hm
        have h2 := lt_log2 n
        calc n ≤ 2 ^ (n.log2 + 1) := Nat.le_of_lt h2
          _ ≤ 2 ^ (m.log2 + more) := Nat.pow_le_pow_right (by omega) (by omega)
          _ = 2 ^ m.log2 * 2 ^ more := Nat.pow_add _ _ _
          _ ≤ m * 2 ^ more := Nat.mul_le_mul_right _ h1
      omega

theorem mg_zero {r : Nat} : mg r = 0 ↔ r = 0 := by
  unfold mg; split <;> omega

theorem rq_val0 {x c B : Nat} (h : x = 0) : rq (x * c) B = 0 := by rw [h, Nat.zero_mul, rq_zero]

theorem div_fin {u v : Nat} (hu : rg u < cap) (hv : rg v < cap) (h0 : rg v ≠ 0) :
    double.div u v = some (wd (sgn u ^^ sgn v) (rq (val (rg u) * KK) (val (rg v)))) := by
  unfold Format.div
  rw [read_num hu, read_num hv]
  have hn : mg (rg v) ≠ 0 := fun h => h0 (mg_zero.1 h)
  simp only [Datum.quotient]
  rw [if_neg hn]
  simp only [Option.map_some, Format.write]
  congr 1
  rcases Nat.eq_zero_or_pos (rg u) with hz | hz
  · have hm : mg (rg u) = 0 := mg_zero.2 hz
    rw [hm, rq_val0 (by rw [hz, val_zero])]
    simp only [Nat.shiftLeft_eq, Nat.zero_mul, Nat.zero_div, Nat.zero_mod, Nat.mul_zero, bne_self_eq_false, Bool.toNat_false, Nat.add_zero, Format.nearest, word_wd, if_true]
  · have hm : mg (rg u) ≠ 0 := fun h => by have := mg_zero.1 h; omega
    have hf : double.fractionBits + 2 = 54 := rfl
    rw [hf, Nat.shiftLeft_eq, val_eq, val_eq]
    have := quot_rq (mg (rg u)) (mg (rg v)) (54 + (mg (rg v)).log2 - (mg (rg u)).log2) (up (rg u)) (up (rg v)) (sgn u ^^ sgn v) hm hn (by omega)
    rw [← this]
    congr 1
    omega

theorem compare_mul (x y : Int) (c : Nat) (hc : 0 < c) : compare (x * (c : Int)) (y * (c : Int)) = compare x y := by
  have hp : (0 : Int) < (c : Int) := by exact_mod_cast hc
  rcases Int.lt_trichotomy x y with h | h | h
  · rw [Int.compare_eq_lt.2 h, Int.compare_eq_lt.2 (Int.mul_lt_mul_of_pos_right h hp)]
  · subst h; simp
  · rw [Int.compare_eq_gt.2 h, Int.compare_eq_gt.2 (Int.mul_lt_mul_of_pos_right h hp)]

theorem order_fin {u v : Nat} (hu : rg u < cap) (hv : rg v < cap) : double.order u v = some (compare (sv u) (sv v)) := by
  unfold Format.order
  rw [read_num hu, read_num hv]
  simp only [Datum.order]
  congr 1
  have hb : min (-1074 + (up (rg u) : Int)) (-1074 + (up (rg v) : Int)) = -1074 + ((min (up (rg u)) (up (rg v)) : Nat) : Int) := by omega
  rw [hb]
  have e1 : (-1074 + (up (rg u) : Int) - (-1074 + ((min (up (rg u)) (up (rg v)) : Nat) : Int))).toNat = up (rg u) - min (up (rg u)) (up (rg v)) := by omega
  have e2 : (-1074 + (up (rg v) : Int) - (-1074 + ((min (up (rg u)) (up (rg v)) : Nat) : Int))).toNat = up (rg v) - min (up (rg u)) (up (rg v)) := by omega
  rw [e1, e2, sv_base u _ (Nat.min_le_left _ (up (rg v))), sv_base v _ (Nat.min_le_right (up (rg u)) _), compare_mul _ _ _ (Nat.two_pow_pos _)]

end FloM
