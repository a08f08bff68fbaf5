/- The laws of the order, of sums and products, of ints: plain. -/
import Derived.Test.YtceoapkkmgllaaaGreatDoorFloInts
namespace FloM
open Ieee

theorem cmpI_eq (u v : Nat) : cmpI u v = (match double.order u v with | some .lt => -1 | some .gt => 1 | some .eq => 0 | none => 2) := by
  unfold cmpI
  rcases Nat.lt_or_ge cap (rg u) with h | h
  · rw [order_nan_l v h, if_pos (.inl h)]
  rcases Nat.lt_or_ge cap (rg v) with h2 | h2
  · rw [order_nan_r u h2, if_pos (.inr h2)]
  rw [order_all h h2, if_neg (by omega)]
  rcases Int.lt_trichotomy (sv u) (sv v) with h3 | h3 | h3
  · rw [if_pos h3, Int.compare_eq_lt.2 h3]
  · rw [if_neg (by omega), if_neg (by omega), Int.compare_eq_eq.2 h3]
  · rw [if_neg (by omega), if_pos h3, Int.compare_eq_gt.2 h3]

theorem cmpI_vals (u v : Nat) : cmpI u v = -1 ∨ cmpI u v = 0 ∨ cmpI u v = 1 ∨ cmpI u v = 2 := by
  unfold cmpI; split <;> (try split) <;> (try split) <;> omega

theorem cmpI_two (u v : Nat) : cmpI u v = 2 ↔ cap < rg u ∨ cap < rg v := by
  unfold cmpI
  constructor
  · intro h
    by_cases hc : cap < rg u ∨ cap < rg v
    · exact hc
    · rw [if_neg hc] at h; split at h <;> (try split at h) <;> omega
  · intro h; rw [if_pos h]

/-- A sum's datum: which reals, infinities too. -/
theorem add_all {u v z : Nat} (hu : rg u ≤ cap) (hv : rg v ≤ cap) (h : double.add u v = some z) :
    rg z ≤ cap ∧ sv z = (if rg v = cap then sv v else if rg u = cap then sv u else rv (sv u + sv v)) := by
  have hcl := cap_lt
  rcases Nat.lt_or_ge (rg u) cap with hu1 | hu1
  · rcases Nat.lt_or_ge (rg v) cap with hv1 | hv1
    · rw [add_fin hu1 hv1] at h
      injection h with h
      rw [if_neg (by omega), if_neg (by omega), ← h, sv_sum]
      exact ⟨by rw [rg_wd _ _ (rq_lt _ _)]; exact rq_le _ _, rfl⟩
    · have hv2 : rg v = cap := by omega
      unfold Format.add at h
      rw [read_num hu1, read_inf hv2] at h
      simp only [Datum.sum, Option.map_some, Format.write, infRung_cap, word_wd] at h
      injection h with h
      rw [if_pos hv2, ← h, rg_wd _ _ hcl, sv_wd hcl]
      refine ⟨Nat.le_refl _, ?_⟩
      unfold sv; rw [hv2]
  · have hu2 : rg u = cap := by omega
    rcases Nat.lt_or_ge (rg v) cap with hv1 | hv1
    · unfold Format.add at h
      rw [read_inf hu2, read_num hv1] at h
      simp only [Datum.sum, Option.map_some, Format.write, infRung_cap, word_wd] at h
      injection h with h
      rw [if_neg (by omega), if_pos hu2, ← h, rg_wd _ _ hcl, sv_wd hcl]
      refine ⟨Nat.le_refl _, ?_⟩
      unfold sv; rw [hu2]
    · have hv2 : rg v = cap := by omega
      unfold Format.add at h
      rw [read_inf hu2, read_inf hv2] at h
      simp only [Datum.sum] at h
      split at h
      · next hs =>
        simp only [Option.map_some, Format.write, infRung_cap, word_wd] at h
        injection h with h
        rw [if_pos hv2, ← h, rg_wd _ _ hcl, sv_wd hcl]
        refine ⟨Nat.le_refl _, ?_⟩
        unfold sv; rw [hv2, hs]
      · simp at h

theorem rv_le (S : Int) : - (val cap : Int) ≤ rv S ∧ rv S ≤ val cap := by
  unfold rv
  have := val_mono (rq_le S.natAbs 1)
  split <;> omega
theorem pv_le (S : Int) : - (val cap : Int) ≤ pv S ∧ pv S ≤ val cap := by
  unfold pv
  have := val_mono (rq_le S.natAbs KK)
  split <;> omega
theorem sv_le {u : Nat} (h : rg u ≤ cap) : - (val cap : Int) ≤ sv u ∧ sv u ≤ val cap := by
  unfold sv
  have := cap_le _ h
  split <;> omega
theorem sv_lt {u : Nat} (h : rg u < cap) : - (val cap : Int) < sv u ∧ sv u < val cap := by
  unfold sv
  have := val_lt h
  split <;> omega
theorem sv_inf {u : Nat} (h : rg u = cap) : sv u = -(val cap : Int) ∨ sv u = val cap := by
  unfold sv
  rw [h]
  cases sgn u <;> simp

/-- Greater reals have no lesser sums. -/
theorem add_rises {x y z a b : Nat} (hx : rg x ≤ cap) (hy : rg y ≤ cap) (hz : rg z ≤ cap) (hxy : sv x ≤ sv y)
    (ha : double.add x z = some a) (hb : double.add y z = some b) : sv a ≤ sv b := by
  obtain ⟨_, ea⟩ := add_all hx hz ha
  obtain ⟨_, eb⟩ := add_all hy hz hb
  rw [ea, eb]
  by_cases hzc : rg z = cap
  · rw [if_pos hzc, if_pos hzc]; omega
  rw [if_neg hzc, if_neg hzc]
  have bx := sv_le hx
  have by' := sv_le hy
  by_cases hxc : rg x = cap
  · rw [if_pos hxc]
    by_cases hyc : rg y = cap
    · rw [if_pos hyc]; omega
    · rw [if_neg hyc]
      have := sv_lt (u := y) (by omega)
      have := rv_le (sv y + sv z)
      rcases sv_inf hxc with h | h <;> omega
  · rw [if_neg hxc]
    by_cases hyc : rg y = cap
    · rw [if_pos hyc]
      have := sv_lt (u := x) (by omega)
      have := rv_le (sv x + sv z)
      rcases sv_inf hyc with h | h <;> omega
    · rw [if_neg hyc]
      exact rv_mono (by omega)

/-- A product's datum. -/
theorem mul_all {u v z : Nat} (hu : rg u ≤ cap) (hv : rg v ≤ cap) (h : double.mul u v = some z) :
    rg z ≤ cap ∧ ((rg u = cap ∨ rg v = cap) → sv u ≠ 0 ∧ sv v ≠ 0) ∧
    sv z = (if rg u = cap ∨ rg v = cap then (if sgn u = sgn v then (val cap : Int) else -(val cap : Int)) else pv (sv u * sv v)) := by
  have hcl := cap_lt
  have hcp := val_cap_pos
  have infnz : ∀ {w : Nat}, rg w = cap → sv w ≠ 0 := by
    intro w hw; rcases sv_inf hw with h | h <;> omega
  have finnz : ∀ {w : Nat}, mg (rg w) ≠ 0 → sv w ≠ 0 := by
    intro w hw h0
    have h1 := sv_natAbs w
    rw [h0] at h1
    have : rg w = 0 := val_eq_zero.1 h1.symm
    exact hw (mg_zero.2 this)
  have sgx : ∀ s t : Bool, (if (s ^^ t) = true then -(val cap : Int) else (val cap : Int)) = (if s = t then (val cap : Int) else -(val cap : Int)) := by
    intro s t; cases s <;> cases t <;> simp
  rcases Nat.lt_or_ge (rg u) cap with hu1 | hu1
  · rcases Nat.lt_or_ge (rg v) cap with hv1 | hv1
    · rw [mul_fin hu1 hv1] at h
      injection h with h
      rw [if_neg (by omega), ← h, sv_prod]
      exact ⟨by rw [rg_wd _ _ (rq_lt _ _)]; exact rq_le _ _, by omega, rfl⟩
    · have hv2 : rg v = cap := by omega
      unfold Format.mul at h
      rw [read_num hu1, read_inf hv2] at h
      simp only [Datum.product] at h
      split at h
      · simp at h
      · next hm =>
        simp only [Option.map_some, Format.write, infRung_cap, word_wd] at h
        injection h with h
        rw [if_pos (.inr hv2), ← h, rg_wd _ _ hcl, sv_wd hcl]
        refine ⟨Nat.le_refl _, fun _ => ⟨finnz hm, infnz hv2⟩, ?_⟩
        rw [Bool.xor_comm]; exact sgx _ _
  · have hu2 : rg u = cap := by omega
    rcases Nat.lt_or_ge (rg v) cap with hv1 | hv1
    · unfold Format.mul at h
      rw [read_inf hu2, read_num hv1] at h
      simp only [Datum.product] at h
      split at h
      · simp at h
      · next hm =>
        simp only [Option.map_some, Format.write, infRung_cap, word_wd] at h
        injection h with h
        rw [if_pos (.inl hu2), ← h, rg_wd _ _ hcl, sv_wd hcl]
        exact ⟨Nat.le_refl _, fun _ => ⟨infnz hu2, finnz hm⟩, sgx _ _⟩
    · have hv2 : rg v = cap := by omega
      unfold Format.mul at h
      rw [read_inf hu2, read_inf hv2] at h
      simp only [Datum.product, Option.map_some, Format.write, infRung_cap, word_wd] at h
      injection h with h
      rw [if_pos (.inl hu2), ← h, rg_wd _ _ hcl, sv_wd hcl]
      exact ⟨Nat.le_refl _, fun _ => ⟨infnz hu2, infnz hv2⟩, sgx _ _⟩

theorem sgn_of_neg {u : Nat} (h : sv u < 0) : sgn u = true := by
  unfold sv at h; cases hs : sgn u <;> simp_all <;> omega
theorem sgn_of_pos {u : Nat} (h : 0 < sv u) : sgn u = false := by
  unfold sv at h; cases hs : sgn u <;> simp_all <;> omega

/-- One of two: z not below 0, or below. -/
theorem mul_rises {x y z a b : Nat} (hx : rg x ≤ cap) (hy : rg y ≤ cap) (hz : rg z ≤ cap) (hxy : sv x ≤ sv y)
    (ha : double.mul x z = some a) (hb : double.mul y z = some b) : (0 ≤ sv z → sv a ≤ sv b) ∧ (sv z < 0 → sv b ≤ sv a) := by
  obtain ⟨_, na, ea⟩ := mul_all hx hz ha
  obtain ⟨_, nb, eb⟩ := mul_all hy hz hb
  rw [ea, eb]
  have bx := sv_le hx
  have by' := sv_le hy
  have p1 := pv_le (sv x * sv z)
  have p2 := pv_le (sv y * sv z)
  have mono : (0 ≤ sv z → pv (sv x * sv z) ≤ pv (sv y * sv z)) ∧ (sv z < 0 → pv (sv y * sv z) ≤ pv (sv x * sv z)) :=
    ⟨fun h => pv_mono (Int.mul_le_mul_of_nonneg_right hxy h), fun h => pv_mono (Int.mul_le_mul_of_nonpos_right hxy (by omega))⟩
  have sx := @sgn_of_neg x; have sx' := @sgn_of_pos x
  have sy := @sgn_of_neg y; have sy' := @sgn_of_pos y
  have sz := @sgn_of_neg z; have sz' := @sgn_of_pos z
  have ix := @sv_inf x; have iy := @sv_inf y; have iz := @sv_inf z
  have fx := @sv_lt x; have fy := @sv_lt y
  have hcp := val_cap_pos
  generalize pv (sv x * sv z) = P at *
  generalize pv (sv y * sv z) = Q at *
  generalize sv x = X at *
  generalize sv y = Y at *
  generalize sv z = Z at *
  generalize val cap = C at *
  by_cases hca : rg x = cap ∨ rg z = cap
  · obtain ⟨hx0, hz0⟩ := na hca
    rw [if_pos hca]
    by_cases hcb : rg y = cap ∨ rg z = cap
    · obtain ⟨hy0, _⟩ := nb hcb
      rw [if_pos hcb]
      refine ⟨fun hzp => ?_, fun hzn => ?_⟩
      · rw [sz' (by omega)]
        rcases Int.lt_or_le X 0 with h | h
        · rw [sx h]; simp; split <;> omega
        · rw [sx' (by omega), sy' (by omega)]; simp
      · rw [sz hzn]
        rcases Int.lt_or_le X 0 with h | h
        · rw [sx h]; simp; split <;> omega
        · rw [sx' (by omega), sy' (by omega)]; simp
    · rw [if_neg hcb]
      have hxc : rg x = cap := by omega
      have hf := fy (by omega)
      have hX : X = -C := by rcases ix hxc with h | h <;> omega
      rw [sx (by omega)]
      refine ⟨fun hzp => ?_, fun hzn => ?_⟩
      · rw [sz' (by omega)]; simp; omega
      · rw [sz hzn]; simp; omega
  · rw [if_neg hca]
    by_cases hcb : rg y = cap ∨ rg z = cap
    · obtain ⟨hy0, hz0⟩ := nb hcb
      rw [if_pos hcb]
      have hyc : rg y = cap := by omega
      have hf := fx (by omega)
      have hY : Y = C := by rcases iy hyc with h | h <;> omega
      rw [sy' (by omega)]
      refine ⟨fun hzp => ?_, fun hzn => ?_⟩
      · rw [sz' (by omega)]; simp; omega
      · rw [sz hzn]; simp; omega
    · rw [if_neg hcb]; exact mono

theorem sum_comm (d e : Datum) : d.sum e = e.sum d := by
  cases d <;> cases e <;> simp only [Datum.sum]
  · next s m i t n j =>
    rw [Int.min_comm j i, Int.add_comm (signed t n _), Bool.and_comm t s]
  · next s t => by_cases h : s = t
                · subst h; simp
                · rw [if_neg h, if_neg (fun h' => h h'.symm)]
theorem add_comm (u v : Nat) : double.add u v = double.add v u := by unfold Format.add; rw [sum_comm]
theorem product_comm (d e : Datum) : d.product e = e.product d := by
  cases d <;> cases e <;> simp only [Datum.product, Nat.mul_comm, Int.add_comm, Bool.xor_comm]
theorem mul_comm' (u v : Nat) : double.mul u v = double.mul v u := by unfold Format.mul; rw [product_comm]

/-- A difference turned is the negation, but for zeros. -/
theorem sub_turn (u v : Nat) : (double.sub u v = none ∧ double.sub v u = none) ∨
    ∃ a b, double.sub u v = some a ∧ double.sub v u = some b ∧ rg a ≤ cap ∧ rg b ≤ cap ∧
      ((rg a = 0 ∧ rg b = 0) ∨ (rg a = rg b ∧ sgn a = !sgn b)) := by
  have hcl := cap_lt
  rcases Nat.lt_or_ge cap (rg u) with hu | hu
  · left
    unfold Format.sub
    rw [read_nan hu]
    refine ⟨by simp [Datum.sum], ?_⟩
    cases double.read v <;> simp [Datum.sum, Datum.opposite]
  rcases Nat.lt_or_ge cap (rg v) with hv | hv
  · left
    unfold Format.sub
    rw [read_nan hv]
    refine ⟨?_, by simp [Datum.sum]⟩
    cases double.read u <;> simp [Datum.sum, Datum.opposite]
  rcases Nat.lt_or_ge (rg u) cap with hu1 | hu1
  · rcases Nat.lt_or_ge (rg v) cap with hv1 | hv1
    · right
      refine ⟨_, _, sub_fin hu1 hv1, sub_fin hv1 hu1, ?_⟩
      simp only [rg_wd _ _ (rq_lt _ _), sgn_wd _ _ (rq_lt _ _)]
      refine ⟨rq_le _ _, rq_le _ _, ?_⟩
      have e : sv v - sv u = -(sv u - sv v) := by omega
      rw [e]
      generalize sv u - sv v = S
      rw [Int.natAbs_neg]
      by_cases h0 : S = 0
      · subst h0; left; simp [rq_zero]
      · right
        refine ⟨rfl, ?_⟩
        rw [if_neg h0, if_neg (by omega)]
        by_cases h1 : S < 0
        · rw [decide_eq_true h1, decide_eq_false (by omega)]; rfl
        · rw [decide_eq_false h1, decide_eq_true (by omega)]; rfl
    · have hv2 : rg v = cap := by omega
      right
      unfold Format.sub
      rw [read_num hu1, read_inf hv2]
      simp only [Datum.sum, Datum.opposite, Option.map_some, Format.write, infRung_cap, word_wd]
      refine ⟨_, _, rfl, rfl, ?_⟩
      simp only [rg_wd _ _ hcl, sgn_wd _ _ hcl]
      exact ⟨Nat.le_refl _, Nat.le_refl _, .inr (by simp)⟩
  · have hu2 : rg u = cap := by omega
    rcases Nat.lt_or_ge (rg v) cap with hv1 | hv1
    · right
      unfold Format.sub
      rw [read_inf hu2, read_num hv1]
      simp only [Datum.sum, Datum.opposite, Option.map_some, Format.write, infRung_cap, word_wd]
      refine ⟨_, _, rfl, rfl, ?_⟩
      simp only [rg_wd _ _ hcl, sgn_wd _ _ hcl]
      exact ⟨Nat.le_refl _, Nat.le_refl _, .inr (by simp)⟩
    · have hv2 : rg v = cap := by omega
      unfold Format.sub
      rw [read_inf hu2, read_inf hv2]
      simp only [Datum.sum, Datum.opposite]
      by_cases h : sgn u = sgn v
      · left
        rw [h]
        cases sgn v <;> simp
      · right
        have h1 : sgn u = !sgn v := by cases hh : sgn u <;> cases hh2 : sgn v <;> simp_all
        have h2 : sgn v = !sgn u := by rw [h1]; simp
        rw [if_pos h1, if_pos h2]
        simp only [Option.map_some, Format.write, infRung_cap, word_wd]
        refine ⟨_, _, rfl, rfl, ?_⟩
        simp only [rg_wd _ _ hcl, sgn_wd _ _ hcl]
        exact ⟨Nat.le_refl _, Nat.le_refl _, .inr (by simpa using h1)⟩

/-- Whole numbers next to a real. -/
theorem ii_down {u : Nat} : ii .down u = sv u / (KK : Int) := by
  have hp := KK_pos
  unfold ii iv cutW sv
  generalize val (rg u) = n
  generalize KK = d at *
  have hdm := Nat.div_add_mod n d
  have hlt := Nat.mod_lt n hp
  cases sgn u
  · simp
  · simp only [Bool.true_and, if_true]
    symm
    by_cases h : n % d = 0
    · have : (n % d != 0).toNat = 0 := by simp [h]
      rw [this, Nat.add_zero]
      rw [h, Nat.add_zero] at hdm
      rw [← hdm, Nat.mul_div_cancel_left _ hp]
      rw [Int.natCast_mul, Int.neg_eq_neg_one_mul, Int.mul_left_comm, Int.mul_ediv_cancel_left _ (by omega)]
      omega
    · have : (n % d != 0).toNat = 1 := by simp [h]
      rw [this]
      have e : -(n : Int) = ((d - n % d : Nat) : Int) + (d : Int) * (-((n / d + 1 : Nat) : Int)) := by
        have h2 : (d : Int) * ((n / d + 1 : Nat) : Int) = (d : Int) * ((n / d : Nat) : Int) + d := by
          rw [Int.natCast_add, Int.mul_add]; simp
        rw [Int.mul_neg, h2]
        have h3 : (d : Int) * ((n / d : Nat) : Int) = ((d * (n / d) : Nat) : Int) := (Int.natCast_mul _ _).symm
        rw [h3]
        omega
      rw [e, Int.add_mul_ediv_left _ _ (by omega)]
      rw [Int.ediv_eq_zero_of_lt (by omega) (by omega)]
      omega

theorem ii_pair (u : Nat) : (ii .down u = ii .up u ∧ ii .zero u = ii .down u ∧ ii .even u = ii .down u ∧ sv u = ii .down u * KK) ∨
    (ii .up u = ii .down u + 1 ∧ (ii .zero u = ii .down u ∨ ii .zero u = ii .up u) ∧ (ii .even u = ii .down u ∨ ii .even u = ii .up u)
      ∧ ii .down u * KK < sv u ∧ sv u < ii .up u * KK) := by
  have hp := KK_pos
  unfold ii iv cutW sv
  generalize val (rg u) = n
  generalize KK = d at *
  have hdm := Nat.div_add_mod n d
  have hlt := Nat.mod_lt n hp
  have hr := rhe_le n d
  have hc : ((d * (n / d) : Nat) : Int) = (n / d : Nat) * (d : Int) := by rw [Nat.mul_comm, Int.natCast_mul]
  by_cases h : n % d = 0
  · left
    have hrh : rhe n d = n / d := by
      unfold rhe; rw [h, if_neg (by omega)]; omega
    have hb : (n % d != 0) = false := by simp [h]
    simp only [hrh, hb, Bool.and_false, Bool.toNat_false, Nat.add_zero]
    cases sgn u
    · simp only [Bool.false_eq_true, if_false, true_and]
      omega
    · simp only [if_true, true_and]
      rw [Int.neg_mul]
      omega
  · right
    have hb : (n % d != 0) = true := by simp [h]
    have hc1 : (((n / d + 1 : Nat) : Int)) * (d : Int) = ((d * (n / d) : Nat) : Int) + d := by
      rw [Int.natCast_add, Int.add_mul, hc]; simp
    simp only [hb, Bool.and_true]
    generalize rhe n d = e at *
    generalize n / d = q at *
    generalize d * q = P at *
    generalize hf : ((q + 1 : Nat) : Int) * (d : Int) = f at *
    generalize hg : (q : Int) * (d : Int) = g at *
    cases sgn u
    · simp only [Bool.false_eq_true, if_false, Bool.toNat_false, Bool.not_false, Bool.toNat_true, Nat.add_zero]
      rw [hf, hg]
      exact ⟨by omega, by simp, by omega, by omega, by omega⟩
    · simp only [if_true, Bool.toNat_true, Bool.not_true, Bool.toNat_false, Nat.add_zero]
      rw [Int.neg_mul, Int.neg_mul, hf, hg]
      exact ⟨by omega, by simp, by omega, by omega, by omega⟩

end FloM
