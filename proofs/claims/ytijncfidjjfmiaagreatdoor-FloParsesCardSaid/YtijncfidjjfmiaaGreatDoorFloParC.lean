/- A text of the form, in its parts; the program's decimal at it. What is written of a finite real is read as that real: plain, and the program's Parse. The parts of a real's text. -/
import Derived.Test.YtijncfidjjfmiaaGreatDoorFloBackE
import Derived.Test.YtijncfidjjfmiaaGreatDoorFloParB
import Derived.Lib.IndexAny
namespace Go.Proofs.YtijncfidjjfmiaaGreatDoor
open Go.RowKit FloM

structure Parts where
  neg : Bool
  W : List UInt8
  hasP : Bool
  Pt : List UInt8
  hasE : Bool
  el : UInt8
  low : Bool
  X : List UInt8
def Parts.amt (p : Parts) : List UInt8 := p.W ++ (if p.hasP then 46 :: p.Pt else [])
def Parts.ex (p : Parts) : List UInt8 := (if p.low then [126] else []) ++ p.X
def Parts.body (p : Parts) : List UInt8 := p.amt ++ (if p.hasE then p.el :: p.ex else [])
def Parts.text (p : Parts) : List UInt8 := (if p.neg then [126] else []) ++ p.body
structure Parts.Ok (p : Parts) : Prop where
  hW : Digs p.W
  nW : p.W ≠ []
  hP : Digs p.Pt
  nP : p.hasP = true → p.Pt ≠ []
  zP : p.hasP = false → p.Pt = []
  hX : Digs p.X
  nX : p.hasE = true → p.X ≠ []
  zX : p.hasE = false → p.X = [] ∧ p.low = false
  hel : p.el = 69 ∨ p.el = 101
  some_ : p.hasP = true ∨ p.hasE = true

theorem trimT_cons (s : List UInt8) : trimT (126 :: s) = s := by
  unfold trimT Lib.trimPrefix Lib.hasPrefix
  simp [List.isPrefixOf]
theorem trimT_stop {c : UInt8} {s : List UInt8} (h : c ≠ 126) : trimT (c :: s) = c :: s := by
  unfold trimT Lib.trimPrefix Lib.hasPrefix
  have : (126 : UInt8) ≠ c := fun e => h e.symm
  simp [List.isPrefixOf, this]
theorem trimT_nil : trimT [] = [] := rfl
theorem hasT_cons (s : List UInt8) : Lib.hasPrefix (126 :: s) [126] = true := by unfold Lib.hasPrefix; simp [List.isPrefixOf]
theorem hasT_stop {c : UInt8} {s : List UInt8} (h : c ≠ 126) : Lib.hasPrefix (c :: s) [126] = false := by
  have : (126 : UInt8) ≠ c := fun e => h e.symm
  unfold Lib.hasPrefix; simp [List.isPrefixOf, this]
theorem digs_ne {l : List UInt8} (h : Digs l) (hn : l ≠ []) : ∃ c t, l = c :: t ∧ c ≠ 126 := by
  rcases l with _ | ⟨c, t⟩
  · exact absurd rfl hn
  · refine ⟨c, t, rfl, fun e => ?_⟩
    have := h c List.mem_cons_self
    rw [e] at this
    exact absurd this (by decide)
theorem lead_digs : ∀ {l : List UInt8}, Digs l → lead l = l.length
  | [], _ => rfl
  | c :: t, h => by
    have h1 : isD c = true := isD_iff.2 (h c List.mem_cons_self)
    have ih := lead_digs (l := t) (fun x hx => h x (List.mem_cons_of_mem _ hx))
    unfold lead at ih ⊢
    rw [List.takeWhile_cons, if_pos h1, List.length_cons, ih, List.length_cons]
theorem lead_stop : ∀ {l : List UInt8} {c : UInt8} {t : List UInt8}, Digs l → isD c = false → lead (l ++ c :: t) = l.length
  | [], c, t, _, hc => by unfold lead; rw [List.nil_append, List.takeWhile_cons, hc]; rfl
  | x :: l, c, t, h, hc => by
    have h1 : isD x = true := isD_iff.2 (h x List.mem_cons_self)
    have ih := lead_stop (l := l) (t := t) (fun y hy => h y (List.mem_cons_of_mem _ hy)) hc
    unfold lead at ih ⊢
    rw [List.cons_append, List.takeWhile_cons, if_pos h1, List.length_cons, ih, List.length_cons]
theorem digs_head {l t : List UInt8} (h : Digs l) (hn : l ≠ []) : ∃ c s, l ++ t = c :: s ∧ c ≠ 126 := by
  obtain ⟨c, s, rfl, hc⟩ := digs_ne h hn
  exact ⟨c, s ++ t, rfl, hc⟩

section
variable {p : Parts}
theorem Parts.Ok.body_head (h : p.Ok) : ∃ c s, p.body = c :: s ∧ c ≠ 126 := by
  unfold Parts.body Parts.amt
  rw [List.append_assoc]
  exact digs_head h.hW h.nW
theorem Parts.Ok.trim (h : p.Ok) : trimT p.text = p.body := by
  obtain ⟨c, s, e, hc⟩ := h.body_head
  unfold Parts.text
  cases p.neg
  · rw [if_neg (by decide), List.nil_append, e]; exact trimT_stop hc
  · exact trimT_cons _
theorem Parts.Ok.has (h : p.Ok) : Lib.hasPrefix p.text [126] = p.neg := by
  obtain ⟨c, s, e, hc⟩ := h.body_head
  unfold Parts.text
  cases p.neg
  · rw [if_neg (by decide), List.nil_append, e]; exact hasT_stop hc
  · exact hasT_cons _
theorem Parts.Ok.trimX (h : p.Ok) : trimT p.ex = p.X := by
  unfold Parts.ex
  cases hl : p.low
  · rw [if_neg (by decide), List.nil_append]
    by_cases hx : p.X = []
    · rw [hx]; rfl
    · obtain ⟨c, t, e, hc⟩ := digs_ne h.hX hx
      rw [e]; exact trimT_stop hc
  · exact trimT_cons _
theorem Parts.Ok.hasX (h : p.Ok) : Lib.hasPrefix p.ex [126] = p.low := by
  unfold Parts.ex
  cases hl : p.low
  · rw [if_neg (by decide), List.nil_append]
    by_cases hx : p.X = []
    · rw [hx]; rfl
    · obtain ⟨c, t, e, hc⟩ := digs_ne h.hX hx
      rw [e]; exact hasT_stop hc
  · exact hasT_cons _
theorem Parts.Ok.tail (h : p.Ok) (he : p.hasE = true) : tailL (p.el :: p.ex) = true := by
  have hx := h.nX he
  unfold tailL
  dsimp only
  rw [if_pos h.hel, h.trimX, lead_digs h.hX]
  have : p.X.isEmpty = false := by cases hh : p.X with | nil => exact absurd hh hx | cons => rfl
  rw [this]; simp
theorem Parts.Ok.el_no (h : p.Ok) : isD p.el = false := by rcases h.hel with e | e <;> rw [e] <;> rfl
theorem Parts.Ok.el_46 (h : p.Ok) : p.el ≠ 46 := by rcases h.hel with e | e <;> rw [e] <;> decide

theorem Parts.body_f (hP : p.hasP = false) (hE : p.hasE = true) : p.body = p.W ++ p.el :: p.ex := by
  unfold Parts.body Parts.amt; rw [hP, hE]; simp
theorem Parts.body_t (hP : p.hasP = true) : p.body = p.W ++ 46 :: (p.Pt ++ (if p.hasE then p.el :: p.ex else [])) := by
  unfold Parts.body Parts.amt; rw [hP]; simp
theorem app_ne (l : List UInt8) (c : UInt8) (t : List UInt8) : l.length ≠ (l ++ c :: t).length := by rw [List.length_append, List.length_cons]; omega
theorem Parts.Ok.form (h : p.Ok) : formL p.text = true := by
  have hW0 : p.W.length ≠ 0 := fun e => h.nW (List.eq_nil_of_length_eq_zero e)
  unfold formL
  rw [h.trim]
  cases hP : p.hasP
  · have hE : p.hasE = true := by rcases h.some_ with e | e; rw [hP] at e; cases e; exact e
    rw [Parts.body_f hP hE, lead_stop h.hW h.el_no, if_neg (fun hh => hh.elim hW0 (app_ne _ _ _)), List.drop_left]
    dsimp only
    rw [if_neg h.el_46]
    exact h.tail hE
  · rw [Parts.body_t hP, lead_stop h.hW (by rfl), if_neg (fun hh => hh.elim hW0 (app_ne _ _ _)), List.drop_left]
    dsimp only
    rw [if_pos rfl]
    have hP0 : p.Pt.length ≠ 0 := fun e => h.nP hP (List.eq_nil_of_length_eq_zero e)
    cases hE : p.hasE
    · rw [show (if false = true then p.el :: p.ex else []) = [] from rfl, List.append_nil, lead_digs h.hP, if_neg hP0, List.drop_length]; rfl
    · rw [if_pos rfl, lead_stop h.hP h.el_no, if_neg hP0, List.drop_left]
      exact h.tail hE
end

/-- The digits, their exponent's number, and where the point is put. -/
def Parts.d (p : Parts) : List UInt8 := dropZ (p.W ++ p.Pt)
def Parts.N (p : Parts) : Int := if p.low then -(capN 0 p.X : Int) else capN 0 p.X
def Parts.at_ (p : Parts) : Int := min (max ((p.d.length : Int) - (p.Pt.length : Int) + p.N) (-1000)) 1000
def sgF (neg : Bool) (R : Nat) : Nat := if neg then turnN R else R

theorem any_miss : ∀ {l : List UInt8}, (∀ c ∈ l, c ≠ 101 ∧ c ≠ 69) → Lib.indexAny l [101, 69] = -1
  | [], _ => rfl
  | x :: l, h => by
    have ih := any_miss (l := l) (fun c hc => h c (List.mem_cons_of_mem _ hc))
    have h1 := h x List.mem_cons_self
    unfold Lib.indexAny
    rw [ih, if_neg (by simp [h1.1, h1.2])]
    rfl
theorem any_hit : ∀ {l : List UInt8} {e : UInt8} {t : List UInt8}, (∀ c ∈ l, c ≠ 101 ∧ c ≠ 69) → e = 69 ∨ e = 101 → Lib.indexAny (l ++ e :: t) [101, 69] = l.length
  | [], e, t, _, he => by
    rw [List.nil_append, Lib.indexAny, if_pos (by rcases he with e | e <;> rw [e] <;> rfl)]; rfl
  | x :: l, e, t, h, he => by
    have ih := any_hit (l := l) (t := t) (fun c hc => h c (List.mem_cons_of_mem _ hc)) he
    have h1 := h x List.mem_cons_self
    rw [List.cons_append, Lib.indexAny, ih, if_neg (by simp [h1.1, h1.2]), if_neg (by intro h2; have := beq_iff_eq.1 h2; omega)]
    simp
theorem cut_miss (a : List UInt8) (c : UInt8) (h : c ∉ a) : Lib.cut a [c] = (a, [], false) := by
  unfold Lib.cut
  rw [index_miss a c h, if_neg (by decide)]

theorem cat9 {P : Program} (a b : List UInt8) (ha : a.length ≤ 9100) (hb : b.length ≤ 9100) (w : World) :
    (Op.stringOp .add ⟨a.toArray⟩ ⟨b.toArray⟩).run P w = .ok (.string ⟨(a ++ b).toArray⟩) w := run_string_add_lists w a b (by omega) (by omega)

section
variable {p : Parts}
theorem Parts.Ok.amt_no (h : p.Ok) : ∀ c ∈ p.amt, c ≠ 101 ∧ c ≠ 69 := by
  have hd : ∀ l, Digs l → ∀ c ∈ l, c ≠ 101 ∧ c ≠ 69 := fun l hl c hc =>
    ⟨fun e => by have := hl c hc; rw [e] at this; exact absurd this (by decide), fun e => by have := hl c hc; rw [e] at this; exact absurd this (by decide)⟩
  intro c hc
  unfold Parts.amt at hc
  rcases List.mem_append.1 hc with hc | hc
  · exact hd _ h.hW c hc
  · cases hP : p.hasP
    · rw [hP] at hc; cases hc
    · rw [hP, if_pos rfl] at hc
      rcases List.mem_cons.1 hc with e | hc
      · subst e; decide
      · exact hd _ h.hP c hc
theorem Parts.Ok.body_ascii (h : p.Ok) : ∀ (j : Nat) (b : UInt8), p.body[j]? = some b → b.toNat < 128 := by
  have hd : ∀ l, Digs l → ∀ c ∈ l, c.toNat < 128 := fun l hl c hc => by have := hl c hc; omega
  intro j b hb
  have hm := List.mem_of_getElem? hb
  unfold Parts.body Parts.amt Parts.ex at hm
  rcases List.mem_append.1 hm with hm | hm
  · rcases List.mem_append.1 hm with hm | hm
    · exact hd _ h.hW b hm
    · cases hP : p.hasP
      · rw [hP] at hm; cases hm
      · rw [hP, if_pos rfl] at hm
        rcases List.mem_cons.1 hm with e | hm
        · subst e; decide
        · exact hd _ h.hP b hm
  · cases hE : p.hasE
    · rw [hE] at hm; cases hm
    · rw [hE, if_pos rfl] at hm
      rcases List.mem_cons.1 hm with e | hm
      · subst e; rcases h.hel with e | e <;> rw [e] <;> decide
      · rcases List.mem_append.1 hm with hm | hm
        · cases hl : p.low
          · rw [hl] at hm; cases hm
          · rw [hl, if_pos rfl, List.mem_singleton] at hm
            subst hm; decide
        · exact hd _ h.hX b hm
theorem Parts.Ok.cut_ (h : p.Ok) : Lib.cut p.amt [46] = (p.W, p.Pt, p.hasP) := by
  have h46 : (46 : UInt8) ∉ p.W := h.hW.not (.inl (by decide))
  unfold Parts.amt
  cases hP : p.hasP
  · rw [if_neg (by decide), List.append_nil, cut_miss _ _ h46, h.zP hP]
  · rw [if_pos rfl, cut_hit _ _ _ h46]
theorem Parts.Ok.any_no (h : p.Ok) (hE : p.hasE = false) : Lib.indexAny p.body [101, 69] = -1 := by
  unfold Parts.body
  rw [hE, if_neg (by decide), List.append_nil]
  exact any_miss h.amt_no
theorem Parts.Ok.any_yes (h : p.Ok) (hE : p.hasE = true) : Lib.indexAny p.body [101, 69] = p.amt.length := by
  unfold Parts.body
  rw [hE, if_pos rfl]
  exact any_hit h.amt_no h.hel
theorem Parts.len (p : Parts) : p.body.length ≤ p.text.length ∧ p.W.length + p.Pt.length ≤ p.body.length + p.Pt.length ∧ p.amt.length ≤ p.body.length := by
  unfold Parts.text Parts.body Parts.amt
  simp only [List.length_append]
  omega
theorem Parts.Ok.len2 (h : p.Ok) : p.W.length + p.Pt.length ≤ p.text.length ∧ p.X.length ≤ p.text.length := by
  unfold Parts.text Parts.body Parts.amt Parts.ex
  cases hP : p.hasP <;> cases hE : p.hasE
  · rw [h.zP hP, (h.zX hE).1]; simp
  · rw [h.zP hP]; simp; omega
  · rw [(h.zX hE).1]; simp; omega
  · simp; omega
end

/-- What ParseFloat is to hand back. -/
def PfOk (d : List UInt8) (z : Int) (R : Nat) : Prop :=
  ∀ w, PEnv w → Calls Tryz.prog 65 #[.string ⟨(pfTxt d z).toArray⟩, .int .i64 64] w fun e w' => ∃ er, e = .returned (.tuple #[.float .f64 R, er]) ∧ Below w.heap.size w w'
def decV (p : Parts) (R : Nat) : Nat := if p.d = [] then 0 else R
abbrev DecP (p : Parts) (R : Nat) (w : World) (e : Ending) (w' : World) : Prop := e = .returned (.float .f64 (sgF p.neg (decV p R))) ∧ Below w.heap.size w w'

theorem sgF_no (R : Nat) : sgF false R = R := if_neg Bool.false_ne_true
theorem sgF_yes (R : Nat) : sgF true R = turnN R := if_pos rfl
theorem emp_cons {l : List UInt8} (h : l ≠ []) : (ByteArray.mk l.toArray).toList.isEmpty = false := by
  rw [emp_mk]
  cases l with
  | nil => exact absurd rfl h
  | cons => rfl

set_option maxHeartbeats 1000000 in
set_option maxRecDepth 100000 in
theorem decimal_any (p : Parts) (hp : p.Ok) (hl : p.text.length ≤ 4096) (R : Nat) (hR : R < 2 ^ 63) (hpf : p.d ≠ [] → PfOk p.d p.at_ R) (w : World) (hE0 : PEnv w) :
    Calls Tryz.prog 30 #[.string ⟨p.text.toArray⟩] w (DecP p R w) := by
  obtain ⟨l1, l2, l3⟩ := p.len
  obtain ⟨l4, l5⟩ := hp.len2
  have ld : p.d.length ≤ p.W.length + p.Pt.length := by
    have := dropZ_len (p.W ++ p.Pt)
    rw [List.length_append] at this
    exact this
  have hz : -1000 ≤ p.at_ ∧ p.at_ ≤ 1000 := by unfold Parts.at_; omega
  have li : (Lib.itoa p.at_).length ≤ 9000 := by
    have h := fun k hk => dec_len4 (k := k) hk
    unfold Lib.itoa
    split
    · have := h p.at_.natAbs (by omega); rw [List.length_cons]; omega
    · have := h p.at_.toNat (by omega); omega
  have HCP : ∀ w, Calls Tryz.prog 61 #[.string ⟨p.text.toArray⟩, .string ⟨#[126]⟩] w fun e w' => e = .returned (.tuple #[.string ⟨p.body.toArray⟩, .bool p.neg]) ∧ w = w' := fun w =>
    (Tryz.strings_CutPrefix ⟨p.text.toArray⟩ ⟨#[126]⟩ w).mono fun _ _ ⟨h, h2⟩ => ⟨h.trans (by
      show Ending.returned (.tuple #[.string ⟨(trimT p.text).toArray⟩, .bool (Lib.hasPrefix p.text [126])]) = _
      rw [hp.trim, hp.has]), h2.symm⟩
  have HIA : ∀ w, Calls Tryz.prog 62 #[.string ⟨p.body.toArray⟩, .string ⟨#[101, 69]⟩] w fun e w' => e = .returned (.int .i64 (Lib.indexAny p.body [101, 69])) ∧ Below w.heap.size w w' := fun w =>
    Tryz.strings_IndexAny_laid ⟨p.body.toArray⟩ ⟨#[101, 69]⟩ w (by rw [size_mk]; omega) (by decide) hp.body_ascii (fun j b hb => by
      match j, hb with
      | 0, hb => cases hb; decide
      | 1, hb => cases hb; decide
      | j + 2, hb => cases hb)
  have HCU : ∀ w, PEnv w → Calls Tryz.prog 19 #[.string ⟨p.amt.toArray⟩, .string ⟨#[46]⟩] w fun e w' => e = .returned (.tuple #[.string ⟨p.W.toArray⟩, .string ⟨p.Pt.toArray⟩, .bool p.hasP]) ∧ Below w.heap.size w w' := fun w hw => by
    obtain ⟨m, hm⟩ := hw.env.mxl
    refine (Tryz.strings_Cut ⟨p.amt.toArray⟩ ⟨#[46]⟩ m w (by rw [size_mk]; omega) hm).mono ?_
    rintro e w' ⟨rfl, n, rfl⟩
    refine ⟨?_, below_drewN (Below.refl _ _) n⟩
    show Ending.returned (.tuple #[.string ⟨(Lib.cut p.amt [46]).1.toArray⟩, .string ⟨(Lib.cut p.amt [46]).2.1.toArray⟩, .bool (Lib.cut p.amt [46]).2.2]) = _
    rw [hp.cut_]
  have k1 : ∀ w, (Op.stringOp .add ⟨p.W.toArray⟩ ⟨p.Pt.toArray⟩).run Tryz.prog w = .ok (.string ⟨(p.W ++ p.Pt).toArray⟩) w := fun w => cat9 _ _ (by omega) (by omega) w
  have HTL : ∀ w, Calls Tryz.prog 63 #[.string ⟨(p.W ++ p.Pt).toArray⟩, .string ⟨#[48]⟩] w fun e w' => e = .returned (.string ⟨p.d.toArray⟩) ∧ w = w' := fun w => trimL_any (p.W ++ p.Pt) (by rw [List.length_append]; omega) w
  have HTP : ∀ w, Calls Tryz.prog 59 #[.string ⟨p.ex.toArray⟩, .string ⟨#[126]⟩] w fun e w' => e = .returned (.string ⟨p.X.toArray⟩) ∧ w = w' := fun w => by
    have := trimT_any p.ex w
    rw [hp.trimX] at this
    exact this
  have HHP : ∀ w, Calls Tryz.prog 64 #[.string ⟨p.ex.toArray⟩, .string ⟨#[126]⟩] w fun e w' => e = .returned (.bool p.low) ∧ w = w' := fun w =>
    (Tryz.strings_HasPrefix ⟨p.ex.toArray⟩ ⟨#[126]⟩ w).mono fun _ _ ⟨h, h2⟩ => ⟨h.trans (by
      show Ending.returned (.bool (Lib.hasPrefix p.ex [126])) = _
      rw [hp.hasX]), h2.symm⟩
  have HH0 : ∀ w, Calls Tryz.prog 64 #[.string ⟨#[]⟩, .string ⟨#[126]⟩] w fun e w' => e = .returned (.bool false) ∧ w = w' := fun w =>
    (Tryz.strings_HasPrefix ⟨#[]⟩ ⟨#[126]⟩ w).mono fun _ _ ⟨h, h2⟩ => ⟨h, h2.symm⟩
  have k2 : ∀ w, (Op.stringOp .add ⟨#[48, 46]⟩ ⟨p.d.toArray⟩).run Tryz.prog w = .ok (.string ⟨([48, 46] ++ p.d).toArray⟩) w := fun w => cat9 [48, 46] p.d (by decide) (by omega) w
  have k3 : ∀ w, (Op.stringOp .add ⟨([48, 46] ++ p.d).toArray⟩ ⟨#[101]⟩).run Tryz.prog w = .ok (.string ⟨([48, 46] ++ p.d ++ [101]).toArray⟩) w := fun w => cat9 ([48, 46] ++ p.d) [101] (by simp; omega) (by decide) w
  have k4 : ∀ w, (Op.stringOp .add ⟨([48, 46] ++ p.d ++ [101]).toArray⟩ ⟨(Lib.itoa p.at_).toArray⟩).run Tryz.prog w = .ok (.string ⟨(pfTxt p.d p.at_).toArray⟩) w := fun w => cat9 ([48, 46] ++ p.d ++ [101]) (Lib.itoa p.at_) (by simp; omega) (by omega) w
  have HIT : ∀ w, PEnv w → Calls Tryz.prog 48 #[.int .i64 p.at_] w fun e w' => e = .returned (.string ⟨(Lib.itoa p.at_).toArray⟩) ∧ Below w.heap.size w w' := fun w hw => itoa_any p.at_ hz.1 hz.2 w hw.env
  unfold DecP decV
  cases hE : p.hasE
  · obtain ⟨hX0, hlow⟩ := hp.zX hE
    have hbody : p.amt = p.body := by unfold Parts.body; rw [hE]; simp
    rw [hbody] at HCU
    have HAT : min (max ((p.d.length : Int) - (p.Pt.length : Int) + (((0 : Nat) : Int))) (-1000)) 1000 = p.at_ := by unfold Parts.at_ Parts.N; rw [hlow, hX0]; rfl
    cases hn : p.neg <;> rw [hn] at HCP <;> by_cases hd : p.d = []
    · rw [if_pos hd, sgF_no]; exact fdec_n00 ⟨p.text.toArray⟩ ⟨p.body.toArray⟩ ⟨#[]⟩ ⟨#[]⟩ ⟨p.W.toArray⟩ ⟨p.Pt.toArray⟩ ⟨(p.W ++ p.Pt).toArray⟩ ⟨p.d.toArray⟩ ⟨#[]⟩ ⟨#[]⟩ ⟨#[]⟩ ⟨#[]⟩ [] _ 0 0 0 R p.hasP hR rfl HCP HIA (hp.any_no hE) HCU k1 HTL (fun w => trimT_any [] w) (fun c hc => by cases hc) (by decide) HH0 (by rw [emp_mk, hd]; rfl) w hE0
    · rw [if_neg hd, sgF_no]; exact fdec_n10 ⟨p.text.toArray⟩ ⟨p.body.toArray⟩ ⟨#[]⟩ ⟨#[]⟩ ⟨p.W.toArray⟩ ⟨p.Pt.toArray⟩ ⟨(p.W ++ p.Pt).toArray⟩ ⟨p.d.toArray⟩ ⟨([48, 46] ++ p.d).toArray⟩ ⟨([48, 46] ++ p.d ++ [101]).toArray⟩ ⟨(Lib.itoa p.at_).toArray⟩ ⟨(pfTxt p.d p.at_).toArray⟩ [] _ p.at_ 0 0 R p.hasP hR rfl HCP HIA (hp.any_no hE) HCU k1 HTL (fun w => trimT_any [] w) (fun c hc => by cases hc) (by decide) HH0 (emp_cons hd) (by rw [size_mk]; omega) (by rw [size_mk]; omega) (by rw [size_mk, size_mk]; exact HAT) k2 k3 k4 HIT (hpf hd) w hE0
    · rw [if_pos hd, sgF_yes]; exact fdec_n01 ⟨p.text.toArray⟩ ⟨p.body.toArray⟩ ⟨#[]⟩ ⟨#[]⟩ ⟨p.W.toArray⟩ ⟨p.Pt.toArray⟩ ⟨(p.W ++ p.Pt).toArray⟩ ⟨p.d.toArray⟩ ⟨#[]⟩ ⟨#[]⟩ ⟨#[]⟩ ⟨#[]⟩ [] _ 0 0 0 R p.hasP hR rfl HCP HIA (hp.any_no hE) HCU k1 HTL (fun w => trimT_any [] w) (fun c hc => by cases hc) (by decide) HH0 (by rw [emp_mk, hd]; rfl) w hE0
    · rw [if_neg hd, sgF_yes]; exact fdec_n11 ⟨p.text.toArray⟩ ⟨p.body.toArray⟩ ⟨#[]⟩ ⟨#[]⟩ ⟨p.W.toArray⟩ ⟨p.Pt.toArray⟩ ⟨(p.W ++ p.Pt).toArray⟩ ⟨p.d.toArray⟩ ⟨([48, 46] ++ p.d).toArray⟩ ⟨([48, 46] ++ p.d ++ [101]).toArray⟩ ⟨(Lib.itoa p.at_).toArray⟩ ⟨(pfTxt p.d p.at_).toArray⟩ [] _ p.at_ 0 0 R p.hasP hR rfl HCP HIA (hp.any_no hE) HCU k1 HTL (fun w => trimT_any [] w) (fun c hc => by cases hc) (by decide) HH0 (emp_cons hd) (by rw [size_mk]; omega) (by rw [size_mk]; omega) (by rw [size_mk, size_mk]; exact HAT) k2 k3 k4 HIT (hpf hd) w hE0
  · have hbl : p.body = p.amt ++ p.el :: p.ex := by unfold Parts.body; rw [hE]; simp
    have hlen : p.amt.length + 1 ≤ p.body.length := by rw [hbl, List.length_append, List.length_cons]; omega
    have xa : (ByteArray.mk p.body.toArray).extract 0 p.amt.length = ByteArray.mk p.amt.toArray := by rw [bytes_take, hbl, List.take_left]
    have xe : (ByteArray.mk p.body.toArray).extract (p.amt.length + 1) (ByteArray.mk p.body.toArray).size = ByteArray.mk p.ex.toArray := by
      rw [size_mk, bytes_drop, hbl, List.drop_append, List.drop_eq_nil_of_le (by omega), show p.amt.length + 1 - p.amt.length = 1 by omega]; rfl
    cases hlow : p.low
    · rw [hlow] at HHP
      have HAT : min (max ((p.d.length : Int) - (p.Pt.length : Int) + ((capN 0 p.X : Int))) (-1000)) 1000 = p.at_ := by unfold Parts.at_ Parts.N; rw [hlow]; rfl
      cases hn : p.neg <;> rw [hn] at HCP <;> by_cases hd : p.d = []
      · rw [if_pos hd, sgF_no]; exact fdec_p00 ⟨p.text.toArray⟩ ⟨p.body.toArray⟩ ⟨p.amt.toArray⟩ ⟨p.ex.toArray⟩ ⟨p.W.toArray⟩ ⟨p.Pt.toArray⟩ ⟨(p.W ++ p.Pt).toArray⟩ ⟨p.d.toArray⟩ ⟨#[]⟩ ⟨#[]⟩ ⟨#[]⟩ ⟨#[]⟩ p.X _ 0 p.amt.length (capN 0 p.X) R p.hasP hR rfl HCP HIA (hp.any_yes hE) (by omega) (by rw [size_mk]; omega) (by rw [size_mk]; omega) xa xe HCU k1 HTL HTP hp.hX (by omega) HHP (by rw [emp_mk, hd]; rfl) w hE0
      · rw [if_neg hd, sgF_no]; exact fdec_p10 ⟨p.text.toArray⟩ ⟨p.body.toArray⟩ ⟨p.amt.toArray⟩ ⟨p.ex.toArray⟩ ⟨p.W.toArray⟩ ⟨p.Pt.toArray⟩ ⟨(p.W ++ p.Pt).toArray⟩ ⟨p.d.toArray⟩ ⟨([48, 46] ++ p.d).toArray⟩ ⟨([48, 46] ++ p.d ++ [101]).toArray⟩ ⟨(Lib.itoa p.at_).toArray⟩ ⟨(pfTxt p.d p.at_).toArray⟩ p.X _ p.at_ p.amt.length (capN 0 p.X) R p.hasP hR rfl HCP HIA (hp.any_yes hE) (by omega) (by rw [size_mk]; omega) (by rw [size_mk]; omega) xa xe HCU k1 HTL HTP hp.hX (by omega) HHP (emp_cons hd) (by rw [size_mk]; omega) (by rw [size_mk]; omega) (by rw [size_mk, size_mk]; exact HAT) k2 k3 k4 HIT (hpf hd) w hE0
      · rw [if_pos hd, sgF_yes]; exact fdec_p01 ⟨p.text.toArray⟩ ⟨p.body.toArray⟩ ⟨p.amt.toArray⟩ ⟨p.ex.toArray⟩ ⟨p.W.toArray⟩ ⟨p.Pt.toArray⟩ ⟨(p.W ++ p.Pt).toArray⟩ ⟨p.d.toArray⟩ ⟨#[]⟩ ⟨#[]⟩ ⟨#[]⟩ ⟨#[]⟩ p.X _ 0 p.amt.length (capN 0 p.X) R p.hasP hR rfl HCP HIA (hp.any_yes hE) (by omega) (by rw [size_mk]; omega) (by rw [size_mk]; omega) xa xe HCU k1 HTL HTP hp.hX (by omega) HHP (by rw [emp_mk, hd]; rfl) w hE0
      · rw [if_neg hd, sgF_yes]; exact fdec_p11 ⟨p.text.toArray⟩ ⟨p.body.toArray⟩ ⟨p.amt.toArray⟩ ⟨p.ex.toArray⟩ ⟨p.W.toArray⟩ ⟨p.Pt.toArray⟩ ⟨(p.W ++ p.Pt).toArray⟩ ⟨p.d.toArray⟩ ⟨([48, 46] ++ p.d).toArray⟩ ⟨([48, 46] ++ p.d ++ [101]).toArray⟩ ⟨(Lib.itoa p.at_).toArray⟩ ⟨(pfTxt p.d p.at_).toArray⟩ p.X _ p.at_ p.amt.length (capN 0 p.X) R p.hasP hR rfl HCP HIA (hp.any_yes hE) (by omega) (by rw [size_mk]; omega) (by rw [size_mk]; omega) xa xe HCU k1 HTL HTP hp.hX (by omega) HHP (emp_cons hd) (by rw [size_mk]; omega) (by rw [size_mk]; omega) (by rw [size_mk, size_mk]; exact HAT) k2 k3 k4 HIT (hpf hd) w hE0
    · rw [hlow] at HHP
      have HAT : min (max ((p.d.length : Int) - (p.Pt.length : Int) + (-(capN 0 p.X : Int))) (-1000)) 1000 = p.at_ := by unfold Parts.at_ Parts.N; rw [hlow]; rfl
      cases hn : p.neg <;> rw [hn] at HCP <;> by_cases hd : p.d = []
      · rw [if_pos hd, sgF_no]; exact fdec_m00 ⟨p.text.toArray⟩ ⟨p.body.toArray⟩ ⟨p.amt.toArray⟩ ⟨p.ex.toArray⟩ ⟨p.W.toArray⟩ ⟨p.Pt.toArray⟩ ⟨(p.W ++ p.Pt).toArray⟩ ⟨p.d.toArray⟩ ⟨#[]⟩ ⟨#[]⟩ ⟨#[]⟩ ⟨#[]⟩ p.X _ 0 p.amt.length (capN 0 p.X) R p.hasP hR rfl HCP HIA (hp.any_yes hE) (by omega) (by rw [size_mk]; omega) (by rw [size_mk]; omega) xa xe HCU k1 HTL HTP hp.hX (by omega) HHP (by rw [emp_mk, hd]; rfl) w hE0
      · rw [if_neg hd, sgF_no]; exact fdec_m10 ⟨p.text.toArray⟩ ⟨p.body.toArray⟩ ⟨p.amt.toArray⟩ ⟨p.ex.toArray⟩ ⟨p.W.toArray⟩ ⟨p.Pt.toArray⟩ ⟨(p.W ++ p.Pt).toArray⟩ ⟨p.d.toArray⟩ ⟨([48, 46] ++ p.d).toArray⟩ ⟨([48, 46] ++ p.d ++ [101]).toArray⟩ ⟨(Lib.itoa p.at_).toArray⟩ ⟨(pfTxt p.d p.at_).toArray⟩ p.X _ p.at_ p.amt.length (capN 0 p.X) R p.hasP hR rfl HCP HIA (hp.any_yes hE) (by omega) (by rw [size_mk]; omega) (by rw [size_mk]; omega) xa xe HCU k1 HTL HTP hp.hX (by omega) HHP (emp_cons hd) (by rw [size_mk]; omega) (by rw [size_mk]; omega) (by rw [size_mk, size_mk]; exact HAT) k2 k3 k4 HIT (hpf hd) w hE0
      · rw [if_pos hd, sgF_yes]; exact fdec_m01 ⟨p.text.toArray⟩ ⟨p.body.toArray⟩ ⟨p.amt.toArray⟩ ⟨p.ex.toArray⟩ ⟨p.W.toArray⟩ ⟨p.Pt.toArray⟩ ⟨(p.W ++ p.Pt).toArray⟩ ⟨p.d.toArray⟩ ⟨#[]⟩ ⟨#[]⟩ ⟨#[]⟩ ⟨#[]⟩ p.X _ 0 p.amt.length (capN 0 p.X) R p.hasP hR rfl HCP HIA (hp.any_yes hE) (by omega) (by rw [size_mk]; omega) (by rw [size_mk]; omega) xa xe HCU k1 HTL HTP hp.hX (by omega) HHP (by rw [emp_mk, hd]; rfl) w hE0
      · rw [if_neg hd, sgF_yes]; exact fdec_m11 ⟨p.text.toArray⟩ ⟨p.body.toArray⟩ ⟨p.amt.toArray⟩ ⟨p.ex.toArray⟩ ⟨p.W.toArray⟩ ⟨p.Pt.toArray⟩ ⟨(p.W ++ p.Pt).toArray⟩ ⟨p.d.toArray⟩ ⟨([48, 46] ++ p.d).toArray⟩ ⟨([48, 46] ++ p.d ++ [101]).toArray⟩ ⟨(Lib.itoa p.at_).toArray⟩ ⟨(pfTxt p.d p.at_).toArray⟩ p.X _ p.at_ p.amt.length (capN 0 p.X) R p.hasP hR rfl HCP HIA (hp.any_yes hE) (by omega) (by rw [size_mk]; omega) (by rw [size_mk]; omega) xa xe HCU k1 HTL HTP hp.hX (by omega) HHP (emp_cons hd) (by rw [size_mk]; omega) (by rw [size_mk]; omega) (by rw [size_mk, size_mk]; exact HAT) k2 k3 k4 HIT (hpf hd) w hE0
end Go.Proofs.YtijncfidjjfmiaaGreatDoor

namespace Go.Proofs.YtijncfidjjfmiaaGreatDoor
open Go.RowKit FloM

theorem numD_app (a b : List UInt8) : numD (a ++ b) = numD a * 10 ^ b.length + numD b := by
  induction a with
  | nil => simp [numD]
  | cons c a ih =>
    rw [List.cons_append, numD_cons, numD_cons, ih, List.length_append, Nat.pow_add]
    grind
theorem numD_zeros (n : Nat) : numD (List.replicate n 48) = 0 := by
  induction n with
  | zero => rfl
  | succ n ih => rw [List.replicate_succ, numD_cons, ih]; show (48 - 48) * _ + 0 = 0; simp
theorem numD_drop (l : List UInt8) : numD (dropZ l) = numD l := by
  induction l with
  | nil => rfl
  | cons c l ih =>
    by_cases h : c = 48
    · subst h
      rw [dropZ_cons, ih, numD_cons]
      show _ = (48 - 48) * _ + _
      simp
    · rw [dropZ_stop h]
theorem dropZ_head (l : List UInt8) : (dropZ l)[0]? ≠ some 48 := by
  induction l with
  | nil => intro h; cases h
  | cons c l ih =>
    by_cases h : c = 48
    · subst h; rw [dropZ_cons]; exact ih
    · rw [dropZ_stop h]
      intro h2
      cases h2
      exact h rfl
theorem dropZ_digs {l : List UInt8} (h : Digs l) : Digs (dropZ l) := fun c hc => h c ((List.dropWhile_suffix _).subset hc)
theorem dropZ_rep (n : Nat) (l : List UInt8) : dropZ (List.replicate n 48 ++ l) = dropZ l := by
  induction n with
  | zero => rfl
  | succ n ih => rw [List.replicate_succ, List.cons_append, dropZ_cons, ih]
theorem capN_min : ∀ (l : List UInt8) (n : Nat), n ≤ 1099511627776 → capN n l = min (n * 10 ^ l.length + numD l) 1099511627776
  | [], n, h => by show n = _; simp [numD]; omega
  | c :: t, n, h => by
    show capN (min (10 * n + (c.toNat - 48)) 1099511627776) t = _
    rw [capN_min t _ (Nat.min_le_right _ _), numD_cons, List.length_cons, Nat.pow_succ]
    have hp : 0 < 10 ^ t.length := Nat.pow_pos (by decide)
    generalize 10 ^ t.length = P at *
    generalize numD t = D
    generalize c.toNat - 48 = x
    rcases Nat.le_total (10 * n + x) 1099511627776 with h1 | h1
    · rw [Nat.min_eq_left h1]
      congr 1
      grind
    · rw [Nat.min_eq_right h1]
      have a : 1099511627776 ≤ 1099511627776 * P := Nat.le_mul_of_pos_right _ hp
      have b := Nat.mul_le_mul_right P h1
      have e : (10 * n + x) * P = n * (P * 10) + x * P := by grind
      omega
theorem capN_dec {k : Nat} (h : k ≤ 1000000) : capN 0 (Lib.decDigits k) = k := by
  rw [capN_min _ 0 (by decide), numD_dec]; omega

end Go.Proofs.YtijncfidjjfmiaaGreatDoor
