/- The reference's Parse; it is what the program's decimal hands back. -/
import Derived.Test.YtijncfidjjfmiaaGreatDoorFloRdB
import Derived.Test.YtijncfidjjfmiaaGreatDoorFloTxtG
import Derived.Test.YtijncfidjjfmiaaGreatDoorFloSlowKM
namespace Go.Proofs.YtijncfidjjfmiaaGreatDoor
open Go.RowKit FloM

/-- The digits, the exponent, where the number lies, what Parse tells. -/
def Parts.D (p : Parts) : List UInt8 := p.W ++ p.Pt
def Parts.M (p : Parts) : Int := if p.low then -(capM 0 p.X : Int) else capM 0 p.X
def Parts.e (p : Parts) : Int := p.M - p.Pt.length
def Parts.k (p : Parts) : Int := (decZ (numD p.D)).length + p.e
def parR (p : Parts) : Nat := if numD p.D = 0 ∨ p.k < -400 then 0 else if 400 < p.k then cap else rq (numD p.D * tA p.e * KK) (tB p.e)

theorem capM_min : ∀ (l : List UInt8) (n : Nat), n ≤ 1000000 → capM n l = min (n * 10 ^ l.length + numD l) 1000000
  | [], n, h => by show n = _; simp [numD]; omega
  | c :: t, n, h => by
    show capM (min (n * 10 + (c.toNat - 48)) 1000000) t = _
    rw [capM_min t _ (Nat.min_le_right _ _), numD_cons, List.length_cons, Nat.pow_succ]
    have hp : 1 ≤ 10 ^ t.length := Nat.pow_pos (by decide)
    generalize 10 ^ t.length = T at *
    generalize numD t = r at *
    generalize c.toNat - 48 = x at *
    rcases Nat.le_total (n * 10 + x) 1000000 with h1 | h1
    · rw [Nat.min_eq_left h1]
      have e : (n * 10 + x) * T + r = n * (T * 10) + (x * T + r) := by grind
      rw [e]
    · rw [Nat.min_eq_right h1]
      have h2 : 1000000 * 1 ≤ 1000000 * T := Nat.mul_le_mul_left _ hp
      have h3 : 1000000 * T ≤ (n * 10 + x) * T := Nat.mul_le_mul_right _ h1
      have e : (n * 10 + x) * T + r = n * (T * 10) + (x * T + r) := by grind
      omega
theorem numD_ge {d : List UInt8} (hd : Digs d) (hz : d[0]? ≠ some 48) (h0 : 0 < d.length) : 10 ^ (d.length - 1) ≤ numD d := by
  rcases d with _ | ⟨c, t⟩
  · simp at h0
  · rw [numD_cons, List.length_cons, Nat.add_sub_cancel]
    have h1 := hd c List.mem_cons_self
    have h2 : c.toNat ≠ 48 := fun h => hz (by simp only [List.getElem?_cons_zero]; exact congrArg some (UInt8.toNat_inj.1 h))
    have h3 : 1 * 10 ^ t.length ≤ (c.toNat - 48) * 10 ^ t.length := Nat.mul_le_mul_right _ (by omega)
    omega
theorem decZ_len {d : List UInt8} (hd : Digs d) (hz : d[0]? ≠ some 48) : (decZ (numD d)).length = d.length := by
  by_cases h0 : 0 < d.length
  · have h1 := numD_ge hd hz h0
    have h2 := numD_lt d.length d hd (Nat.le_refl _)
    have hp : 0 < 10 ^ (d.length - 1) := Nat.pow_pos (by decide)
    obtain ⟨k, hk⟩ : ∃ k, d.length = k + 1 := ⟨d.length - 1, by omega⟩
    unfold decZ
    rw [if_neg (by omega), Lib.decDigits_length, hk]
    rw [hk] at h1 h2
    exact Lib.nDigits_unique k _ h1 h2
  · have : d = [] := List.eq_nil_of_length_eq_zero (by omega)
    subst this; rfl
theorem Parts.Ok.hD {p : Parts} (h : p.Ok) : Digs p.D := fun c hc => (List.mem_append.1 hc).elim (h.hW c) (h.hP c)
theorem Parts.Ok.decLen {p : Parts} (h : p.Ok) : (decZ (numD p.D)).length = p.d.length := by
  rw [← numD_drop p.D]; exact decZ_len (dropZ_digs h.hD) (dropZ_head _)
theorem two_401 : ∃ a b : Nat, a = 1075 ∧ b = 401 ∧ 2 ^ a < 10 ^ b := ⟨1075, 401, rfl, rfl, by decide +kernel⟩
/-- The program's number is the reference's. -/
theorem par_dec (p : Parts) (hp : p.Ok) (hl : p.text.length ≤ 4096) : decV p (rq (numD p.d * tA (p.at_ - (p.d.length : Nat)) * KK) (tB (p.at_ - (p.d.length : Nat)))) = parR p := by
  obtain ⟨l1, l2⟩ := hp.len2
  have hdl := hp.decLen
  have hdd : Digs p.d := dropZ_digs hp.hD
  have hdz : p.d[0]? ≠ some 48 := dropZ_head _
  have hnd : numD p.d = numD p.D := numD_drop _
  have hln : p.d.length ≤ 4096 := by
    have h := dropZ_len (p.W ++ p.Pt)
    rw [List.length_append] at h
    exact Nat.le_trans h (by omega)
  have hM : (capM 0 p.X : Nat) = min (numD p.X) 1000000 := by rw [capM_min _ 0 (by decide)]; omega
  have hN : (capN 0 p.X : Nat) = min (numD p.X) 1099511627776 := by rw [capN_min _ 0 (by decide)]; omega
  unfold decV parR
  by_cases h0 : p.d = []
  · rw [if_pos h0, if_pos (.inl (by rw [← hnd, h0]; rfl))]
  · have hpos : 0 < p.d.length := List.length_pos_iff.2 h0
    have h1 := numD_ge hdd hdz hpos
    have h2 := numD_lt p.d.length p.d hdd (Nat.le_refl _)
    have hp0 : 0 < 10 ^ (p.d.length - 1) := Nat.pow_pos (by decide)
    rw [if_neg h0]
    have hk : p.k = (p.d.length : Int) + p.M - (p.Pt.length : Nat) := by unfold Parts.k Parts.e; rw [hdl]; omega
    have hat : p.at_ = min (max ((p.d.length : Int) - (p.Pt.length : Int) + p.N) (-1000)) 1000 := rfl
    have hMd : p.M = if p.low then -(capM 0 p.X : Int) else capM 0 p.X := rfl
    have hNd : p.N = if p.low then -(capN 0 p.X : Int) else capN 0 p.X := rfl
    rw [hM] at hMd
    rw [hN] at hNd
    have he : p.e = p.M - (p.Pt.length : Nat) := rfl
    rw [hnd] at h1 h2
    rw [hnd]
    generalize numD p.X = x at *
    generalize numD p.D = v at *
    generalize p.d.length = n at *
    generalize p.Pt.length = t at *
    generalize p.M = M at *
    generalize p.N = NN at *
    generalize p.k = k at *
    generalize p.at_ = z at *
    generalize p.e = e at *
    have hMN : (k < -400 → z ≤ -401) ∧ (400 < k → 401 ≤ z) ∧ (¬ k < -400 → ¬ 400 < k → z - n = e) := by
      cases hlo : p.low
      · rw [hlo, if_neg (by decide)] at hMd hNd
        refine ⟨fun _ => ?_, fun _ => ?_, fun _ _ => ?_⟩ <;> omega
      · rw [hlo, if_pos rfl] at hMd hNd
        refine ⟨fun _ => ?_, fun _ => ?_, fun _ _ => ?_⟩ <;> omega
    obtain ⟨g1, g2, g3⟩ := hMN
    by_cases c1 : k < -400
    · rw [if_pos (.inr c1)]
      have hz := g1 c1
      have ea : tA (z - n) = 1 := by unfold tA; rw [show (z - (n : Int)).toNat = 0 by omega]
      have eb : tB (z - n) = 10 ^ (n + (-z).toNat) := by unfold tB; congr 1; omega
      rw [ea, eb, Nat.mul_one]
      refine rq_small ?_
      obtain ⟨a, b, ha, hb, hab⟩ := two_401
      have h74 := e74_eq
      calc 2 * (v * KK) = v * (2 * KK) := by grind
        _ = v * 2 ^ a := by rw [KK_eq, ha, show (1075 : Nat) = e74 + 1 by omega, Nat.pow_succ]; grind
        _ < 10 ^ n * 10 ^ b := Nat.mul_lt_mul'' h2 hab
        _ ≤ 10 ^ n * 10 ^ (-z).toNat := Nat.mul_le_mul_left _ (Nat.pow_le_pow_right (by decide) (by omega))
        _ = _ := (Nat.pow_add _ _ _).symm
    · rw [if_neg (by rintro (h | h) <;> omega)]
      by_cases c2 : 400 < k
      · rw [if_pos c2]
        have hz := g2 c2
        refine Nat.le_antisymm (rq_le _ _) ?_
        obtain ⟨b, hb⟩ : ∃ b : Nat, b = 310 := ⟨_, rfl⟩
        have h5 : rq (10 ^ b * KK) 1 = cap := rq_over (fun b' hb' => by rw [hb', hb]; exact Nat.le_refl _)
        rw [← h5]
        refine rq_mono (by decide) (tB_pos _) ?_
        rw [Nat.mul_one]
        have h6 : 10 ^ b * tB (z - n) ≤ v * tA (z - n) := by
          refine Nat.le_trans ?_ (Nat.mul_le_mul_right _ h1)
          unfold tA tB
          rw [← Nat.pow_add, ← Nat.pow_add]
          exact Nat.pow_le_pow_right (by decide) (by omega)
        calc 10 ^ b * KK * tB (z - n) = 10 ^ b * tB (z - n) * KK := by grind
          _ ≤ v * tA (z - n) * KK := Nat.mul_le_mul_right _ h6
      · rw [if_neg c2, g3 c1 c2]
theorem sgF_wd (b : Bool) {R : Nat} (h : R < 2 ^ 63) : sgF b R = wd b R := by
  cases b
  · rfl
  · unfold sgF turnN wd; rw [if_pos rfl, if_pos rfl, if_pos h]
theorem parR_le (p : Parts) : parR p ≤ cap := by
  unfold parR
  split
  · exact Nat.zero_le _
  · split
    · exact Nat.le_refl _
    · exact rq_le _ _

/-- The parts of a text are one. -/
theorem tailL_parts {c : UInt8} {t : List UInt8} (h : tailL (c :: t) = true) : (c = 69 ∨ c = 101) ∧ trimT t ≠ [] ∧ lead (trimT t) = (trimT t).length := by
  unfold tailL at h
  dsimp only at h
  by_cases hc : c = 69 ∨ c = 101
  · rw [if_pos hc] at h
    refine ⟨hc, fun e => ?_, ?_⟩
    · rw [e] at h; simp at h
    · simp at h; omega
  · rw [if_neg hc] at h; cases h
theorem form_parts (s0 : List UInt8) (h : formL s0 = true) : ∃ p : Parts, p.Ok ∧ p.text = s0 := by
  rw [form_1] at h
  have h0 : lead (trimT s0) ≠ 0 := fun e => by
    unfold form1 at h
    rw [if_pos (.inl e)] at h; cases h
  cases hp : pointB ((trimT s0).drop (lead (trimT s0)))
  · have hb := behind_f h0 hp
    have hf := hb.2.2.2.2.2.2
    rw [h] at hf
    rcases hs : (trimT s0).drop (lead (trimT s0)) with _ | ⟨c, t⟩
    · rw [hs] at hf; cases hf
    · rw [hs] at hf hb
      obtain ⟨k1, k2, k3⟩ := tailL_parts hf.symm
      obtain ⟨p, a, b, _⟩ := ok_exp hb k1 k2 k3
      exact ⟨p, a, b⟩
  · rcases hs : (trimT s0).drop (lead (trimT s0)) with _ | ⟨c, t⟩
    · rw [hs] at hp; cases hp
    · rw [hs] at hp
      obtain rfl : c = 46 := by unfold pointB at hp; simpa using hp
      have hl : lead t ≠ 0 := fun e => by rw [form_no hs e] at h; cases h
      have hb := behind_t h0 hs hl
      have hf := hb.2.2.2.2.2.2
      rw [h] at hf
      rcases h3 : t.drop (lead t) with _ | ⟨c3, t3⟩
      · obtain ⟨p, a, b, _⟩ := ok_end hb h3
        exact ⟨p, a, b⟩
      · rw [h3] at hf hb
        obtain ⟨k1, k2, k3⟩ := tailL_parts hf.symm
        obtain ⟨p, a, b, _⟩ := ok_exp hb k1 k2 k3
        exact ⟨p, a, b⟩
theorem Parts.Ok.split {p : Parts} (h : p.Ok) : ∃ r, p.body = p.W ++ r ∧ lead p.body = p.W.length ∧ r = (if p.hasP then 46 :: p.Pt else []) ++ (if p.hasE then p.el :: p.ex else []) := by
  refine ⟨_, by unfold Parts.body Parts.amt; rw [List.append_assoc], ?_, rfl⟩
  cases hP : p.hasP
  · have hE : p.hasE = true := by rcases h.some_ with e | e; rw [hP] at e; cases e; exact e
    rw [Parts.body_f hP hE, lead_stop h.hW h.el_no]
  · rw [Parts.body_t hP, lead_stop h.hW (by rfl)]
theorem Parts.Ok.point {p : Parts} (h : p.Ok) : lead (p.Pt ++ (if p.hasE then p.el :: p.ex else [])) = p.Pt.length := by
  cases hE : p.hasE
  · rw [if_neg (by decide), List.append_nil, lead_digs h.hP]
  · rw [if_pos rfl, lead_stop h.hP h.el_no]
theorem Parts.uniq {p q : Parts} (hp : p.Ok) (hq : q.Ok) (h : p.text = q.text) : p.neg = q.neg ∧ p.W = q.W ∧ p.Pt = q.Pt ∧ p.low = q.low ∧ p.X = q.X := by
  have hn : p.neg = q.neg := by rw [← hp.has, ← hq.has, h]
  have hb : p.body = q.body := by rw [← hp.trim, ← hq.trim, h]
  obtain ⟨r, a1, a2, a3⟩ := hp.split
  obtain ⟨r', b1, b2, b3⟩ := hq.split
  have hl : p.W.length = q.W.length := by rw [← a2, ← b2, hb]
  rw [a1, b1] at hb
  obtain ⟨hW, hr⟩ := List.append_inj hb hl
  have hP : p.hasP = q.hasP ∧ p.Pt = q.Pt ∧ (if p.hasE then p.el :: p.ex else []) = (if q.hasE then q.el :: q.ex else []) := by
    rw [a3, b3] at hr
    have hno : ∀ {u v : Parts}, v.Ok → (46 :: u.Pt) ++ (if u.hasE then u.el :: u.ex else []) = ([] : List UInt8) ++ (if v.hasE then v.el :: v.ex else []) → False := fun {u v} hv e => by
      cases hE : v.hasE
      · rw [hE] at e; cases e
      · rw [hE, if_pos rfl] at e
        exact hv.el_46 (by injection e with e1 _; exact e1.symm)
    cases h1 : p.hasP <;> cases h2 : q.hasP
    · rw [h1, h2] at hr
      exact ⟨rfl, by rw [hp.zP h1, hq.zP h2], hr⟩
    · rw [h1, h2] at hr
      exact (hno hp hr.symm).elim
    · rw [h1, h2] at hr
      exact (hno hq hr).elim
    · rw [h1, h2, if_pos rfl, if_pos rfl, List.cons_append, List.cons_append] at hr
      injection hr with _ hr
      have hl2 : p.Pt.length = q.Pt.length := by rw [← hp.point, ← hq.point, hr]
      obtain ⟨e1, e2⟩ := List.append_inj hr hl2
      exact ⟨rfl, e1, e2⟩
  obtain ⟨_, hPt, hr2⟩ := hP
  refine ⟨hn, hW, hPt, ?_⟩
  cases h1 : p.hasE <;> cases h2 : q.hasE
  · obtain ⟨x1, y1⟩ := hp.zX h1
    obtain ⟨x2, y2⟩ := hq.zX h2
    exact ⟨by rw [y1, y2], by rw [x1, x2]⟩
  · rw [h1, h2] at hr2; cases hr2
  · rw [h1, h2] at hr2; cases hr2
  · rw [h1, h2, if_pos rfl, if_pos rfl] at hr2
    injection hr2 with _ hx
    exact ⟨by rw [← hp.hasX, ← hq.hasX, hx], by rw [← hp.trimX, ← hq.trimX, hx]⟩
theorem par_same {p q : Parts} (hp : p.Ok) (hq : q.Ok) (h : p.text = q.text) : wd p.neg (parR p) = wd q.neg (parR q) := by
  obtain ⟨h1, h2, h3, h4, h5⟩ := Parts.uniq hp hq h
  have hD : p.D = q.D := by unfold Parts.D; rw [h2, h3]
  have hM : p.M = q.M := by unfold Parts.M; rw [h4, h5]
  have he : p.e = q.e := by unfold Parts.e; rw [hM, h3]
  have hk : p.k = q.k := by unfold Parts.k; rw [hD, he]
  unfold parR
  rw [h1, hD, he, hk]

abbrev RetU2 (u : Nat) (n : Int) : Ending := .returned (.tuple #[.int .u64 (u : Int), .int .i64 n])
set_option maxRecDepth 100000 in
set_option maxHeartbeats 1000000 in
theorem rparse_long (S : ByteArray) (hs : 4096 < S.size) (w : World) :
    Calls Tryz.prog 11 #[.string S] w fun e w' => e = RetU2 0 2 ∧ w = w' := by
  have q := decide_eq_true hs
  go_enter Tryz.func11, Tryz.ntmps11
  go_wp2_with fail
  go_ret2
  exact ⟨rfl, rfl⟩
set_option maxRecDepth 100000 in
set_option maxHeartbeats 1000000 in
theorem rparse_no (s0 : List UInt8) (hs : s0.length ≤ 4096) (hf : formL s0 = false) (w : World) :
    Calls Tryz.prog 11 #[.string ⟨s0.toArray⟩] w fun e w' => e = RetU2 0 21 ∧ Below w.heap.size w w' := by
  have hsz : (ByteArray.mk s0.toArray).size = s0.length := size_mk s0
  have HR := Lib.hid (fun w => read_any s0 hs w)
  have HF := Lib.hid hf
  clear hf
  go_enter Tryz.func11, Tryz.ntmps11
  go_wp2_with fail
  go_at_call 31
  refine (HR.out _).mono ?_
  rintro e w1 ⟨bl, D, pt, low, X, ok, rfl, hok, hrd, hb⟩
  rw [HF.out] at hok
  subst hok
  clear hrd
  have HB := Lib.hid hb
  clear hb
  go_wp2_with fail
  go_ret2
  exact ⟨rfl, HB.out.alloc HB.out.size _⟩
-- WALKS
/-- The parts' box. -/
def FrC (w : World) (g : Nat) (p : Parts) : Prop := w.cell? ⟨g, 0, none⟩ = some (.bool p.neg) ∧ w.cell? ⟨g, 1, none⟩ = some (.string ⟨(p.W ++ p.Pt).toArray⟩) ∧ w.cell? ⟨g, 2, none⟩ = some (.int .i64 (p.Pt.length : Int)) ∧ w.cell? ⟨g, 3, none⟩ = some (.bool p.low) ∧ w.cell? ⟨g, 4, none⟩ = some (.string ⟨p.X.toArray⟩)
theorem FrC.below {w w' : World} {g B : Nat} {p : Parts} (h : FrC w g p) (hb : Below B w w') (hg : g < B) : FrC w' g p := by
  obtain ⟨h0, h1, h2, h3, h4⟩ := h
  exact ⟨(hb.cell (p := ⟨g, 0, none⟩) hg).trans h0, (hb.cell (p := ⟨g, 1, none⟩) hg).trans h1, (hb.cell (p := ⟨g, 2, none⟩) hg).trans h2, (hb.cell (p := ⟨g, 3, none⟩) hg).trans h3, (hb.cell (p := ⟨g, 4, none⟩) hg).trans h4⟩
def YesPost (s0 : List UInt8) (w : World) (e : Ending) (w' : World) : Prop := ∃ p : Parts, p.Ok ∧ p.text = s0 ∧ e = RetU2 (wd p.neg (parR p)) 0 ∧ Below w.heap.size w w'
def parK (p : Parts) : Int := (p.d.length : Nat) + p.e
theorem parK_eq {p : Parts} (h : p.Ok) : p.k = parK p := by unfold Parts.k parK; rw [h.decLen]
def R2 (R : Nat) (w : World) (e : Ending) (w' : World) : Prop := e = RetU2 R 0 ∧ Below w.heap.size w w'

set_option maxRecDepth 100000 in
set_option maxHeartbeats 1000000 in
theorem rparse_yes (s0 : List UInt8) (hs : s0.length ≤ 4096) (hf : formL s0 = true) (w : World) :
    Calls Tryz.prog 11 #[.string ⟨s0.toArray⟩] w (YesPost s0 w) := by
  have hsz : (ByteArray.mk s0.toArray).size = s0.length := size_mk s0
  have HR := Lib.hid (fun w => read_any s0 hs w)
  have HF := Lib.hid hf
  clear hf
  go_enter Tryz.func11, Tryz.ntmps11
  go_wp2_with fail
  go_at_call 31
  refine (HR.out _).mono ?_
  rintro e w1 ⟨bl, D, pt, low, X, ok, rfl, hok, hrd, hb⟩
  rw [HF.out] at hok
  subst hok
  obtain ⟨p, hp, ht, rfl, rfl, rfl, rfl, rfl⟩ := hrd rfl
  clear hrd
  obtain ⟨l1, l2⟩ := hp.len2
  rw [ht] at l1 l2
  have hkk := parK_eq hp
  have hdl := hp.decLen
  have hD := hp.hD
  have hX := hp.hX
  have hDl : p.D.length = p.W.length + p.Pt.length := List.length_append
  have hmM := capM_min p.X 0 (by decide)
  have hm1 : capM 0 p.X ≤ 1000000 := by rw [hmM]; exact Nat.min_le_right _ _
  have ht1 : p.Pt.length ≤ 4096 := by omega
  have hL1 : p.d.length ≤ 4096 := by
    have h := dropZ_len p.D
    exact Nat.le_trans h (by omega)
  have hKd : parK p = (p.d.length : Int) + ((if p.low then -(capM 0 p.X : Int) else capM 0 p.X) - (p.Pt.length : Nat)) := rfl
  have hed : p.e = (if p.low then -(capM 0 p.X : Int) else capM 0 p.X) - (p.Pt.length : Nat) := rfl
  have hpr : parR p = if numD p.D = 0 ∨ parK p < -400 then 0 else if 400 < parK p then cap else rq (numD p.D * tA p.e * KK) (tB p.e) := by unfold parR; rw [hkk]
  have hnd := nd_numD hD (by omega)
  have HB := Lib.hid hb
  have HOK := Lib.hid (And.intro hp ht)
  have HAM := Lib.hid (fun w => amount_any (p.W ++ p.Pt) hD (by have : (p.W ++ p.Pt).length = _ := hDl; omega) w)
  have HCA := Lib.hid (fun w => capped_any p.X hX (by omega) w)
  have HDG := Lib.hid (fun w v (h : D w v (numD p.D)) => digits_big v (numD p.D) w (Nat.le_trans hnd (by decide)) (by rw [hdl]; omega) h)
  have HDC := Lib.hid (fun w v (h1 : -6000 ≤ p.e) (h2 : p.e ≤ 6000) (h : D w v (numD p.D)) => dec_any v (numD p.D) p.e w (Nat.le_trans hnd (by decide)) h1 h2 h)
  have HDZ := Lib.hid (show (ByteArray.mk (decZ (numD p.D)).toArray).size = p.d.length by rw [size_mk]; exact hdl)
  have HNZ := Lib.hid (show (numD p.D = 0 ↔ nd (numD p.D) = 0) from nd_eq_zero.symm)
  have hnd2 := hnd
  change nd (numD p.D) ≤ 855 at hnd2
  clear hp ht hD hX hmM hnd hdl hkk hb hDl
  have HFR := Lib.hid (show FrC (w1.alloc (.cells #[.bool p.neg, .string ⟨(p.W ++ p.Pt).toArray⟩, .int .i64 (p.Pt.length : Int), .bool p.low, .string ⟨p.X.toArray⟩] 57)) w1.heap.size p from by
    have h := Blk.new w1 57 #[.bool p.neg, .string ⟨(p.W ++ p.Pt).toArray⟩, .int .i64 (p.Pt.length : Int), .bool p.low, .string ⟨p.X.toArray⟩]
    exact ⟨h.cell 0, h.cell 1, h.cell 2, h.cell 3, h.cell 4⟩)
  have HB1 := Lib.hid (HB.out.alloc HB.out.size (.cells #[.bool p.neg, .string ⟨(p.W ++ p.Pt).toArray⟩, .int .i64 (p.Pt.length : Int), .bool p.low, .string ⟨p.X.toArray⟩] 57))
  obtain ⟨m, hm⟩ : ∃ m, capM 0 p.X = m := ⟨_, rfl⟩
  obtain ⟨L, hLL⟩ : ∃ L, p.d.length = L := ⟨_, rfl⟩
  obtain ⟨N, hNN⟩ : ∃ N, numD p.D = N := ⟨_, rfl⟩
  obtain ⟨R, hRR⟩ : ∃ R, parR p = R := ⟨_, rfl⟩
  obtain ⟨E, hEE⟩ : ∃ E, p.e = E := ⟨_, rfl⟩
  have hRle := parR_le p
  have hcap := cap_lt
  rw [hm] at hm1 hKd hed HCA
  rw [hLL] at hL1 hKd HDZ
  rw [hRR] at hpr hRle
  rw [show numD (p.W ++ p.Pt) = N from hNN] at HAM
  rw [hNN] at hpr HDG HDC HDZ HNZ hnd2
  rw [hEE] at hed hpr HDC
  obtain ⟨K, hK⟩ : ∃ K, parK p = K := ⟨_, rfl⟩
  rw [hK] at hKd hpr
  have HRR := Lib.hid hRR
  have HPR := Lib.hid hpr
  have HSG := Lib.hid (fun (x : Int) (hx : x = (R : Int)) w => sgn_int p.neg R x w (by omega) hx)
  rw [size_mk] at HDZ
  generalize decZ N = Z at *
  have hZ := HDZ.out
  subst hZ
  clear HDZ
  clear hm hLL hNN hRR hEE hK hpr hRle hcap
  have hN0 : nd N = 0 ↔ N = 0 := HNZ.out.symm
  have hnL : nd N ≤ 855 := hnd2
  obtain ⟨n, hn⟩ : ∃ n, nd N = n := ⟨_, rfl⟩
  rw [hn] at hN0 hnL
  have HN := Lib.hid hn
  clear hn HNZ hnd2
  go_wp2_with fail
  go_at_call 32
  (with_reducible refine (HAM.out _).mono ?_)
  rintro e w2 ⟨va, rfl, hv, _, hb2⟩
  have HFR2 := Lib.hid (HFR.out.below hb2 (by simp))
  have HB2 := Lib.hid (HB1.out.trans (hb2.mono HB1.out.size))
  obtain ⟨A, c, rfl⟩ := hv.shape
  rw [HN.out] at hv ⊢
  have HV := Lib.hid hv
  have hsz2 := hb2.size
  clear hv hb2
  obtain ⟨c0, c1, c2, c3, c4⟩ := HFR2.out
  have HS2 := Lib.hid (show w1.heap.size < w2.heap.size from Nat.lt_of_lt_of_le (by simp) hsz2)
  clear hsz2
  cases hlo : p.low
  all_goals rw [hlo] at hKd hed c3
  · rw [if_neg (by decide)] at hKd hed
    by_cases k0 : n = 0
    · have q1 : ((n : Int) == 0) = true := b_true (by omega)
      have HR0 := Lib.hid (show (0 : Int) = (R : Int) by have := HPR.out; rw [if_pos (.inl (hN0.1 (by omega)))] at this; omega)
      clear k0 hKd hed hN0
      go_wp2_with (first
          | (go_at_call 33; ((with_reducible refine (HCA.out _).mono ?_); rintro e w' ⟨rfl, rfl⟩))
          | (go_at_call 26; ((with_reducible refine (HDG.out _ _ HV.out).mono ?_); rintro e w3 ⟨rfl, hb3⟩; have hs23 := hb3.size; have HFR3 := Lib.hid (HFR2.out.below hb3 HS2.out); have HB3 := Lib.hid (HB2.out.trans (hb3.mono HB2.out.size)); have HV3 := Lib.hid (HV.out.below hb3); clear hb3; have HFR3D := Lib.hid (HFR3.out.below (Below.drew (Below.refl w3.heap.size w3)) (Nat.lt_of_lt_of_le HS2.out hs23)); have HB3D := Lib.hid (HB3.out.drew); have HV3D := Lib.hid (HV3.out.below (Below.drew (Below.refl w3.heap.size w3))); have HS3 := Lib.hid (show w1.heap.size < w3.drew.heap.size from Nat.lt_of_lt_of_le HS2.out hs23); clear hs23; obtain ⟨d0, d1, d2, d3, d4⟩ := HFR3.out))
          | (go_at_call 34; ((with_reducible refine (HSG.out _ HR0.out _).mono ?_); rintro e w' ⟨rfl, rfl⟩)))
      go_ret2
      exact ⟨p, HOK.out.1, HOK.out.2, by rw [HRR.out]; rfl, HB3.out⟩
    · by_cases k1 : K < -400
      · have q1 : ((n : Int) == 0) = false := b_false (by omega)
        have q2 : decide (((Z.length : Int) + ((m : Int) - (p.Pt.length : Int))) < -400) = true := decide_eq_true (by omega)
        have HR0 := Lib.hid (show (0 : Int) = (R : Int) by have := HPR.out; rw [if_pos (.inr (by omega))] at this; omega)
        clear k0 hKd hed hN0 k1
        go_wp2_with (first
            | (go_at_call 33; ((with_reducible refine (HCA.out _).mono ?_); rintro e w' ⟨rfl, rfl⟩))
            | (go_at_call 26; ((with_reducible refine (HDG.out _ _ HV.out).mono ?_); rintro e w3 ⟨rfl, hb3⟩; have hs23 := hb3.size; have HFR3 := Lib.hid (HFR2.out.below hb3 HS2.out); have HB3 := Lib.hid (HB2.out.trans (hb3.mono HB2.out.size)); have HV3 := Lib.hid (HV.out.below hb3); clear hb3; have HFR3D := Lib.hid (HFR3.out.below (Below.drew (Below.refl w3.heap.size w3)) (Nat.lt_of_lt_of_le HS2.out hs23)); have HB3D := Lib.hid (HB3.out.drew); have HV3D := Lib.hid (HV3.out.below (Below.drew (Below.refl w3.heap.size w3))); have HS3 := Lib.hid (show w1.heap.size < w3.drew.heap.size from Nat.lt_of_lt_of_le HS2.out hs23); clear hs23; obtain ⟨d0, d1, d2, d3, d4⟩ := HFR3.out))
            | (go_at_call 34; ((with_reducible refine (HSG.out _ HR0.out _).mono ?_); rintro e w' ⟨rfl, rfl⟩)))
        go_ret2
        exact ⟨p, HOK.out.1, HOK.out.2, by rw [HRR.out]; rfl, HB3.out⟩
      · by_cases k2 : 400 < K
        · have q1 : ((n : Int) == 0) = false := b_false (by omega)
          have q2 : decide (((Z.length : Int) + ((m : Int) - (p.Pt.length : Int))) < -400) = false := decide_eq_false (by omega)
          have HP2 := Lib.hid (show R = (if 400 < K then cap else rq (N * tA E * KK) (tB E)) by have := HPR.out; rw [if_neg (by rintro (h | h) <;> omega)] at this; exact this)
          have q3 : decide ((400 : Int) < ((Z.length : Int) + ((m : Int) - (p.Pt.length : Int)))) = true := decide_eq_true (by omega)
          have HR0 := Lib.hid (show (9218868437227405312 : Int) = (R : Int) by have := HP2.out; rw [if_pos (by omega)] at this; rw [this]; rfl)
          clear k0 hKd hed hN0 k1 k2
          go_wp2_with (first
              | (go_at_call 33; ((with_reducible refine (HCA.out _).mono ?_); rintro e w' ⟨rfl, rfl⟩))
              | (go_at_call 26; ((with_reducible refine (HDG.out _ _ HV.out).mono ?_); rintro e w3 ⟨rfl, hb3⟩; have hs23 := hb3.size; have HFR3 := Lib.hid (HFR2.out.below hb3 HS2.out); have HB3 := Lib.hid (HB2.out.trans (hb3.mono HB2.out.size)); have HV3 := Lib.hid (HV.out.below hb3); clear hb3; have HFR3D := Lib.hid (HFR3.out.below (Below.drew (Below.refl w3.heap.size w3)) (Nat.lt_of_lt_of_le HS2.out hs23)); have HB3D := Lib.hid (HB3.out.drew); have HV3D := Lib.hid (HV3.out.below (Below.drew (Below.refl w3.heap.size w3))); have HS3 := Lib.hid (show w1.heap.size < w3.drew.heap.size from Nat.lt_of_lt_of_le HS2.out hs23); clear hs23; obtain ⟨d0, d1, d2, d3, d4⟩ := HFR3.out))
              | (go_at_call 34; ((with_reducible refine (HSG.out _ HR0.out _).mono ?_); rintro e w' ⟨rfl, rfl⟩)))
          go_ret2
          exact ⟨p, HOK.out.1, HOK.out.2, by rw [HRR.out]; rfl, HB3.out⟩
        · have q1 : ((n : Int) == 0) = false := b_false (by omega)
          have q2 : decide (((Z.length : Int) + ((m : Int) - (p.Pt.length : Int))) < -400) = false := decide_eq_false (by omega)
          have HP2 := Lib.hid (show R = (if 400 < K then cap else rq (N * tA E * KK) (tB E)) by have := HPR.out; rw [if_neg (by rintro (h | h) <;> omega)] at this; exact this)
          have q3 : decide ((400 : Int) < ((Z.length : Int) + ((m : Int) - (p.Pt.length : Int)))) = false := decide_eq_false (by omega)
          have HDC2 : Hid (∀ w v, D w v N → Calls Tryz.prog 35 #[v, .int .i64 ((m : Int) - (p.Pt.length : Int))] w (RetU w R)) := Lib.hid (fun w v h => by have := HDC.out w v (by omega) (by omega) h; rw [HP2.out, if_neg (by omega)]; rw [hed] at this ⊢; exact this)
          clear k0 hKd hed hN0 k1 k2
          go_wp2_with (first
              | (go_at_call 33; ((with_reducible refine (HCA.out _).mono ?_); rintro e w' ⟨rfl, rfl⟩))
              | (go_at_call 26; ((with_reducible refine (HDG.out _ _ HV.out).mono ?_); rintro e w3 ⟨rfl, hb3⟩; have hs23 := hb3.size; have HFR3 := Lib.hid (HFR2.out.below hb3 HS2.out); have HB3 := Lib.hid (HB2.out.trans (hb3.mono HB2.out.size)); have HV3 := Lib.hid (HV.out.below hb3); clear hb3; have HFR3D := Lib.hid (HFR3.out.below (Below.drew (Below.refl w3.heap.size w3)) (Nat.lt_of_lt_of_le HS2.out hs23)); have HB3D := Lib.hid (HB3.out.drew); have HV3D := Lib.hid (HV3.out.below (Below.drew (Below.refl w3.heap.size w3))); have HS3 := Lib.hid (show w1.heap.size < w3.drew.heap.size from Nat.lt_of_lt_of_le HS2.out hs23); clear hs23; obtain ⟨d0, d1, d2, d3, d4⟩ := HFR3.out)))
          go_region_held3 (fun w' => w'.cell? ⟨w1.heap.size, 0, none⟩ = some (.bool p.neg)) (first | exact (HFR4.out).1 | exact (HFR3D.out).1)
            (first
              | (go_at_call 35; ((with_reducible refine (HDC2.out _ _ HV3D.out).mono ?_); rintro e w4 ⟨rfl, hb4⟩; have HFR4 := Lib.hid (HFR3D.out.below hb4 HS3.out); have HB4 := Lib.hid (HB3D.out.trans (hb4.mono HB3D.out.size)); clear hb4))
              | (go_at_call 34; ((with_reducible refine (HSG.out _ rfl _).mono ?_); rintro e w' ⟨rfl, rfl⟩)))
          go_wp2_with fail
          go_ret2
          exact ⟨p, HOK.out.1, HOK.out.2, by rw [HRR.out]; rfl, HB4.out⟩
  · rw [if_pos rfl] at hKd hed
    by_cases k0 : n = 0
    · have q1 : ((n : Int) == 0) = true := b_true (by omega)
      have HR0 := Lib.hid (show (0 : Int) = (R : Int) by have := HPR.out; rw [if_pos (.inl (hN0.1 (by omega)))] at this; omega)
      clear k0 hKd hed hN0
      go_wp2_with (first
          | (go_at_call 33; ((with_reducible refine (HCA.out _).mono ?_); rintro e w' ⟨rfl, rfl⟩))
          | (go_at_call 26; ((with_reducible refine (HDG.out _ _ HV.out).mono ?_); rintro e w3 ⟨rfl, hb3⟩; have hs23 := hb3.size; have HFR3 := Lib.hid (HFR2.out.below hb3 HS2.out); have HB3 := Lib.hid (HB2.out.trans (hb3.mono HB2.out.size)); have HV3 := Lib.hid (HV.out.below hb3); clear hb3; have HFR3D := Lib.hid (HFR3.out.below (Below.drew (Below.refl w3.heap.size w3)) (Nat.lt_of_lt_of_le HS2.out hs23)); have HB3D := Lib.hid (HB3.out.drew); have HV3D := Lib.hid (HV3.out.below (Below.drew (Below.refl w3.heap.size w3))); have HS3 := Lib.hid (show w1.heap.size < w3.drew.heap.size from Nat.lt_of_lt_of_le HS2.out hs23); clear hs23; obtain ⟨d0, d1, d2, d3, d4⟩ := HFR3.out))
          | (go_at_call 34; ((with_reducible refine (HSG.out _ HR0.out _).mono ?_); rintro e w' ⟨rfl, rfl⟩)))
      go_ret2
      exact ⟨p, HOK.out.1, HOK.out.2, by rw [HRR.out]; rfl, HB3.out⟩
    · by_cases k1 : K < -400
      · have q1 : ((n : Int) == 0) = false := b_false (by omega)
        have q2 : decide (((Z.length : Int) + (-(m : Int) - (p.Pt.length : Int))) < -400) = true := decide_eq_true (by omega)
        have HR0 := Lib.hid (show (0 : Int) = (R : Int) by have := HPR.out; rw [if_pos (.inr (by omega))] at this; omega)
        clear k0 hKd hed hN0 k1
        go_wp2_with (first
            | (go_at_call 33; ((with_reducible refine (HCA.out _).mono ?_); rintro e w' ⟨rfl, rfl⟩))
            | (go_at_call 26; ((with_reducible refine (HDG.out _ _ HV.out).mono ?_); rintro e w3 ⟨rfl, hb3⟩; have hs23 := hb3.size; have HFR3 := Lib.hid (HFR2.out.below hb3 HS2.out); have HB3 := Lib.hid (HB2.out.trans (hb3.mono HB2.out.size)); have HV3 := Lib.hid (HV.out.below hb3); clear hb3; have HFR3D := Lib.hid (HFR3.out.below (Below.drew (Below.refl w3.heap.size w3)) (Nat.lt_of_lt_of_le HS2.out hs23)); have HB3D := Lib.hid (HB3.out.drew); have HV3D := Lib.hid (HV3.out.below (Below.drew (Below.refl w3.heap.size w3))); have HS3 := Lib.hid (show w1.heap.size < w3.drew.heap.size from Nat.lt_of_lt_of_le HS2.out hs23); clear hs23; obtain ⟨d0, d1, d2, d3, d4⟩ := HFR3.out))
            | (go_at_call 34; ((with_reducible refine (HSG.out _ HR0.out _).mono ?_); rintro e w' ⟨rfl, rfl⟩)))
        go_ret2
        exact ⟨p, HOK.out.1, HOK.out.2, by rw [HRR.out]; rfl, HB3.out⟩
      · by_cases k2 : 400 < K
        · have q1 : ((n : Int) == 0) = false := b_false (by omega)
          have q2 : decide (((Z.length : Int) + (-(m : Int) - (p.Pt.length : Int))) < -400) = false := decide_eq_false (by omega)
          have HP2 := Lib.hid (show R = (if 400 < K then cap else rq (N * tA E * KK) (tB E)) by have := HPR.out; rw [if_neg (by rintro (h | h) <;> omega)] at this; exact this)
          have q3 : decide ((400 : Int) < ((Z.length : Int) + (-(m : Int) - (p.Pt.length : Int)))) = true := decide_eq_true (by omega)
          have HR0 := Lib.hid (show (9218868437227405312 : Int) = (R : Int) by have := HP2.out; rw [if_pos (by omega)] at this; rw [this]; rfl)
          clear k0 hKd hed hN0 k1 k2
          go_wp2_with (first
              | (go_at_call 33; ((with_reducible refine (HCA.out _).mono ?_); rintro e w' ⟨rfl, rfl⟩))
              | (go_at_call 26; ((with_reducible refine (HDG.out _ _ HV.out).mono ?_); rintro e w3 ⟨rfl, hb3⟩; have hs23 := hb3.size; have HFR3 := Lib.hid (HFR2.out.below hb3 HS2.out); have HB3 := Lib.hid (HB2.out.trans (hb3.mono HB2.out.size)); have HV3 := Lib.hid (HV.out.below hb3); clear hb3; have HFR3D := Lib.hid (HFR3.out.below (Below.drew (Below.refl w3.heap.size w3)) (Nat.lt_of_lt_of_le HS2.out hs23)); have HB3D := Lib.hid (HB3.out.drew); have HV3D := Lib.hid (HV3.out.below (Below.drew (Below.refl w3.heap.size w3))); have HS3 := Lib.hid (show w1.heap.size < w3.drew.heap.size from Nat.lt_of_lt_of_le HS2.out hs23); clear hs23; obtain ⟨d0, d1, d2, d3, d4⟩ := HFR3.out))
              | (go_at_call 34; ((with_reducible refine (HSG.out _ HR0.out _).mono ?_); rintro e w' ⟨rfl, rfl⟩)))
          go_ret2
          exact ⟨p, HOK.out.1, HOK.out.2, by rw [HRR.out]; rfl, HB3.out⟩
        · have q1 : ((n : Int) == 0) = false := b_false (by omega)
          have q2 : decide (((Z.length : Int) + (-(m : Int) - (p.Pt.length : Int))) < -400) = false := decide_eq_false (by omega)
          have HP2 := Lib.hid (show R = (if 400 < K then cap else rq (N * tA E * KK) (tB E)) by have := HPR.out; rw [if_neg (by rintro (h | h) <;> omega)] at this; exact this)
          have q3 : decide ((400 : Int) < ((Z.length : Int) + (-(m : Int) - (p.Pt.length : Int)))) = false := decide_eq_false (by omega)
          have HDC2 : Hid (∀ w v, D w v N → Calls Tryz.prog 35 #[v, .int .i64 (-(m : Int) - (p.Pt.length : Int))] w (RetU w R)) := Lib.hid (fun w v h => by have := HDC.out w v (by omega) (by omega) h; rw [HP2.out, if_neg (by omega)]; rw [hed] at this ⊢; exact this)
          clear k0 hKd hed hN0 k1 k2
          go_wp2_with (first
              | (go_at_call 33; ((with_reducible refine (HCA.out _).mono ?_); rintro e w' ⟨rfl, rfl⟩))
              | (go_at_call 26; ((with_reducible refine (HDG.out _ _ HV.out).mono ?_); rintro e w3 ⟨rfl, hb3⟩; have hs23 := hb3.size; have HFR3 := Lib.hid (HFR2.out.below hb3 HS2.out); have HB3 := Lib.hid (HB2.out.trans (hb3.mono HB2.out.size)); have HV3 := Lib.hid (HV.out.below hb3); clear hb3; have HFR3D := Lib.hid (HFR3.out.below (Below.drew (Below.refl w3.heap.size w3)) (Nat.lt_of_lt_of_le HS2.out hs23)); have HB3D := Lib.hid (HB3.out.drew); have HV3D := Lib.hid (HV3.out.below (Below.drew (Below.refl w3.heap.size w3))); have HS3 := Lib.hid (show w1.heap.size < w3.drew.heap.size from Nat.lt_of_lt_of_le HS2.out hs23); clear hs23; obtain ⟨d0, d1, d2, d3, d4⟩ := HFR3.out)))
          go_region_held3 (fun w' => w'.cell? ⟨w1.heap.size, 0, none⟩ = some (.bool p.neg)) (first | exact (HFR4.out).1 | exact (HFR3D.out).1)
            (first
              | (go_at_call 35; ((with_reducible refine (HDC2.out _ _ HV3D.out).mono ?_); rintro e w4 ⟨rfl, hb4⟩; have HFR4 := Lib.hid (HFR3D.out.below hb4 HS3.out); have HB4 := Lib.hid (HB3D.out.trans (hb4.mono HB3D.out.size)); clear hb4))
              | (go_at_call 34; ((with_reducible refine (HSG.out _ rfl _).mono ?_); rintro e w' ⟨rfl, rfl⟩)))
          go_wp2_with fail
          go_ret2
          exact ⟨p, HOK.out.1, HOK.out.2, by rw [HRR.out]; rfl, HB4.out⟩
theorem rparse_at (p : Parts) (hp : p.Ok) (hl : p.text.length ≤ 4096) (w : World) :
    Calls Tryz.prog 11 #[.string ⟨p.text.toArray⟩] w fun e w' => e = RetU2 (wd p.neg (parR p)) 0 ∧ Below w.heap.size w w' :=
  (rparse_yes p.text hl hp.form w).mono fun e w' ⟨q, hq, ht, he, hb⟩ => ⟨by rw [he, par_same hq hp ht], hb⟩
end Go.Proofs.YtijncfidjjfmiaaGreatDoor
