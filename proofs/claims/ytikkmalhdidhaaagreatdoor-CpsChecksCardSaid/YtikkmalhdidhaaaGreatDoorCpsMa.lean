/- Lambda's checks, plain: which nodes are made, which have their form, which variables are free. Cps's checks, plain: which nodes are made, which have their form, which variables are free. Lambda, plain: how many variables are free at most; sets by their elements. Cps, plain: how many variables are free at most; steps of the free variables. -/
namespace LamM

structure Ky where
  k : Int
  i : Int
  t : List UInt8
structure Tm where
  k : Int
  n : Int
  i : Int
  b : Int
  t : List UInt8
  vars : List Int
  keys : List Ky
  args : List Int
structure Pm where
  args : Int
  raises : List Int

/-! ### Which nodes are made -/
def upd (f : Nat → Bool) (a : Nat) : Nat → Bool := fun j => (j == a) || f j
def stepA (i : Nat) : List Int → (Nat → Bool) × Bool → (Nat → Bool) × Bool
  | [], s => s
  | a :: l, s => stepA i l (if a < 0 ∨ (i : Int) ≤ a then (s.1, false) else (upd s.1 a.toNat, s.2))
def argsAt (L : List Tm) (i : Nat) : List Int := match L[i]? with | some t => t.args | none => []
def belowF (L : List Tm) : Nat → (Nat → Bool) × Bool → (Nat → Bool) × Bool
  | 0, s => s
  | i + 1, s => belowF L i (if s.1 i then stepA i (argsAt L i) s else s)
def below (L : List Tm) (root : Nat) : (Nat → Bool) × Bool := belowF L (root + 1) (upd (fun _ => false) root, true)

theorem upd_le {f : Nat → Bool} {a m : Nat} (h : ∀ j, f j = true → j ≤ m) (ha : a ≤ m) : ∀ j, upd f a j = true → j ≤ m := fun j hj => by
  unfold upd at hj
  rcases Bool.or_eq_true_iff.1 hj with h1 | h1
  · have := beq_iff_eq.1 h1; omega
  · exact h j h1
theorem stepA_le (i m : Nat) (hi : i ≤ m) : ∀ (l : List Int) (s : (Nat → Bool) × Bool), (∀ j, s.1 j = true → j ≤ m) → ∀ j, (stepA i l s).1 j = true → j ≤ m
  | [], s, h => h
  | a :: l, s, h => by
    unfold stepA
    refine stepA_le i m hi l _ ?_
    split
    · exact h
    · exact upd_le h (by omega)
theorem belowF_le (L : List Tm) (m : Nat) : ∀ (k : Nat) (s : (Nat → Bool) × Bool), k ≤ m + 1 → (∀ j, s.1 j = true → j ≤ m) → ∀ j, (belowF L k s).1 j = true → j ≤ m
  | 0, s, _, h => h
  | k + 1, s, hk, h => by
    unfold belowF
    refine belowF_le L m k _ (by omega) ?_
    split
    · exact stepA_le k m (by omega) _ _ h
    · exact h
/-- What is made lies at the root or below it. -/
theorem below_le (L : List Tm) (root j : Nat) (h : (below L root).1 j = true) : j ≤ root :=
  belowF_le L root (root + 1) _ (Nat.le_refl _) (upd_le (fun _ h => by cases h) (Nat.le_refl _)) j h
/-- Only lower places are marked by a node, and marks stay. -/
theorem stepA_hi (i : Nat) : ∀ (l : List Int) (s : (Nat → Bool) × Bool) (j : Nat), i ≤ j → (stepA i l s).1 j = s.1 j
  | [], _, _, _ => rfl
  | a :: l, s, j, h => by
    unfold stepA
    rw [stepA_hi i l _ j h]
    split
    · rfl
    · next hc =>
      show upd s.1 a.toNat j = s.1 j
      unfold upd
      rw [show (j == a.toNat) = false from beq_eq_false_iff_ne.2 (by omega), Bool.false_or]
theorem belowF_hi (L : List Tm) : ∀ (k : Nat) (s : (Nat → Bool) × Bool) (j : Nat), k ≤ j + 1 → (belowF L k s).1 j = s.1 j
  | 0, _, _, _ => rfl
  | k + 1, s, j, h => by
    unfold belowF
    rw [belowF_hi L k _ j (by omega)]
    split
    · exact stepA_hi k _ _ j (by omega)
    · rfl
theorem stepA_bad (i : Nat) : ∀ (l : List Int) (s : (Nat → Bool) × Bool), s.2 = false → (stepA i l s).2 = false
  | [], _, h => h
  | a :: l, s, h => by
    unfold stepA
    refine stepA_bad i l _ ?_
    split
    · rfl
    · exact h
theorem belowF_bad (L : List Tm) : ∀ (k : Nat) (s : (Nat → Bool) × Bool), s.2 = false → (belowF L k s).2 = false
  | 0, _, h => h
  | k + 1, s, h => by
    unfold belowF
    refine belowF_bad L k _ ?_
    split
    · exact stepA_bad k _ _ h
    · exact h
theorem stepA_ok (i : Nat) : ∀ (l : List Int) (s : (Nat → Bool) × Bool), (stepA i l s).2 = true → ∀ a ∈ l, 0 ≤ a ∧ a < (i : Int)
  | [], _, _, a, h => by cases h
  | a :: l, s, h, x, hx => by
    unfold stepA at h
    by_cases hc : a < 0 ∨ (i : Int) ≤ a
    · rw [if_pos hc, stepA_bad i l _ rfl] at h; cases h
    · rcases List.mem_cons.1 hx with rfl | hx
      · omega
      · exact stepA_ok i l _ h x hx
theorem belowF_ok (L : List Tm) : ∀ (k : Nat) (s : (Nat → Bool) × Bool), (belowF L k s).2 = true → ∀ i, i < k → (belowF L k s).1 i = true → ∀ a ∈ argsAt L i, 0 ≤ a ∧ a < (i : Int)
  | 0, _, _, i, hi, _ => by omega
  | k + 1, s, h, i, hi, hm => by
    unfold belowF at h hm
    rcases Nat.lt_or_ge i k with h1 | h1
    · exact belowF_ok L k _ h i h1 hm
    · obtain rfl : i = k := by omega
      rw [belowF_hi L i _ i (by omega)] at hm
      have hs : s.1 i = true := by
        cases hb : s.1 i
        · rw [hb] at hm; simp at hm; rw [hb] at hm; cases hm
        · rfl
      rw [hs, if_pos rfl] at h
      intro a ha
      have h2 : (stepA i (argsAt L i) s).2 = true := by
        cases hc : (stepA i (argsAt L i) s).2
        · rw [belowF_bad L i _ hc] at h; cases h
        · rfl
      exact stepA_ok i _ s h2 a ha
/-- Where all is well, a made node's arguments are lower. -/
theorem below_ok (L : List Tm) (root : Nat) (h : (below L root).2 = true) (i : Nat) (hm : (below L root).1 i = true) : ∀ a ∈ argsAt L i, 0 ≤ a ∧ a < (i : Int) :=
  belowF_ok L (root + 1) _ h i (by have := below_le L root i hm; omega) hm

/-! ### Sets of variables: strictly rising lists -/
abbrev SS (l : List Int) : Prop := l.Pairwise (· < ·)
theorem ss_cons {x : Int} {l : List Int} : SS (x :: l) ↔ (∀ y ∈ l, x < y) ∧ SS l := List.pairwise_cons
theorem ss_ext : ∀ {l m : List Int}, SS l → SS m → (∀ x, x ∈ l ↔ x ∈ m) → l = m
  | [], [], _, _, _ => rfl
  | [], y :: m, _, _, h => by have := (h y).2 List.mem_cons_self; cases this
  | x :: l, [], _, _, h => by have := (h x).1 List.mem_cons_self; cases this
  | x :: l, y :: m, hl, hm, h => by
    obtain ⟨l1, l2⟩ := ss_cons.1 hl
    obtain ⟨m1, m2⟩ := ss_cons.1 hm
    have hxy : x = y := by
      rcases List.mem_cons.1 ((h x).1 List.mem_cons_self) with e | e
      · exact e
      · rcases List.mem_cons.1 ((h y).2 List.mem_cons_self) with e2 | e2
        · exact e2.symm
        · have := m1 x e; have := l1 y e2; omega
    subst hxy
    rw [ss_ext l2 m2 (fun z => ?_)]
    have hz := h z
    rw [List.mem_cons, List.mem_cons] at hz
    constructor
    · intro hz1
      rcases hz.1 (.inr hz1) with e | e
      · have := l1 z hz1; omega
      · exact e
    · intro hz1
      rcases hz.2 (.inr hz1) with e | e
      · have := m1 z hz1; omega
      · exact e
def ins (v : Int) : List Int → List Int
  | [] => [v]
  | x :: s => if v < x then v :: x :: s else if v = x then x :: s else x :: ins v s
theorem mem_ins (v x : Int) : ∀ s : List Int, x ∈ ins v s ↔ x = v ∨ x ∈ s
  | [] => by simp [ins]
  | y :: s => by
    unfold ins
    split
    · simp
    · split
      · next h => subst h; simp
      · rw [List.mem_cons, mem_ins v x s, List.mem_cons]
        constructor
        · rintro (h | h | h)
          · exact .inr (.inl h)
          · exact .inl h
          · exact .inr (.inr h)
        · rintro (h | h | h)
          · exact .inr (.inl h)
          · exact .inl h
          · exact .inr (.inr h)
theorem ss_ins (v : Int) : ∀ {s : List Int}, SS s → SS (ins v s)
  | [], _ => by simp [ins, SS]
  | y :: s, h => by
    obtain ⟨h1, h2⟩ := ss_cons.1 h
    unfold ins
    split
    · next hv => exact ss_cons.2 ⟨fun z hz => by rcases List.mem_cons.1 hz with rfl | hz; exact hv; have := h1 z hz; omega, h⟩
    · split
      · exact h
      · next hv hv2 =>
        refine ss_cons.2 ⟨fun z hz => ?_, ss_ins v h2⟩
        rcases (mem_ins v z s).1 hz with rfl | hz
        · omega
        · exact h1 z hz
theorem ins_mem {v : Int} {s : List Int} (hs : SS s) (h : v ∈ s) : ins v s = s :=
  ss_ext (ss_ins v hs) hs fun x => by rw [mem_ins]; exact ⟨fun hx => hx.elim (fun e => e ▸ h) id, .inr⟩
/-- All of both. -/
def mrg (a b : List Int) : List Int := b.foldl (fun s v => ins v s) a
theorem ss_mrg : ∀ (b : List Int) {a : List Int}, SS a → SS (mrg a b)
  | [], _, h => h
  | v :: b, _, h => ss_mrg b (ss_ins v h)
theorem mem_mrg (x : Int) : ∀ (b a : List Int), x ∈ mrg a b ↔ x ∈ a ∨ x ∈ b
  | [], a => by simp [mrg]
  | v :: b, a => by
    show x ∈ mrg (ins v a) b ↔ _
    rw [mem_mrg x b (ins v a), mem_ins, List.mem_cons]
    constructor
    · rintro ((h | h) | h)
      · exact .inr (.inl h)
      · exact .inl h
      · exact .inr (.inr h)
    · rintro (h | h | h)
      · exact .inl (.inr h)
      · exact .inl (.inl h)
      · exact .inr h
theorem mrg_nil (a : List Int) : mrg a [] = a := rfl
theorem mrg_nil_left {b : List Int} (h : SS b) : mrg [] b = b := ss_ext (ss_mrg b (by simp [SS])) h fun x => by rw [mem_mrg]; simp
/-- The zip of two sets. -/
theorem mrg_lt {x y : Int} {a b : List Int} (ha : SS (x :: a)) (hb : SS (y :: b)) (h : x < y) : mrg (x :: a) (y :: b) = x :: mrg a (y :: b) := by
  obtain ⟨a1, a2⟩ := ss_cons.1 ha
  obtain ⟨b1, b2⟩ := ss_cons.1 hb
  refine ss_ext (ss_mrg _ ha) (ss_cons.2 ⟨fun z hz => ?_, ss_mrg _ a2⟩) fun z => ?_
  · rcases (mem_mrg z _ _).1 hz with h1 | h1
    · exact a1 z h1
    · rcases List.mem_cons.1 h1 with rfl | h1
      · exact h
      · have := b1 z h1; omega
  · simp only [mem_mrg, List.mem_cons, or_assoc]
theorem mrg_gt {x y : Int} {a b : List Int} (ha : SS (x :: a)) (hb : SS (y :: b)) (h : y < x) : mrg (x :: a) (y :: b) = y :: mrg (x :: a) b := by
  obtain ⟨a1, a2⟩ := ss_cons.1 ha
  obtain ⟨b1, b2⟩ := ss_cons.1 hb
  refine ss_ext (ss_mrg _ ha) (ss_cons.2 ⟨fun z hz => ?_, ss_mrg _ ha⟩) fun z => ?_
  · rcases (mem_mrg z _ _).1 hz with h1 | h1
    · rcases List.mem_cons.1 h1 with rfl | h1
      · exact h
      · have := a1 z h1; omega
    · exact b1 z h1
  · simp only [mem_mrg, List.mem_cons]
    constructor
    · rintro ((h | h) | h | h)
      · exact .inr (.inl (.inl h))
      · exact .inr (.inl (.inr h))
      · exact .inl h
      · exact .inr (.inr h)
    · rintro (h | (h | h) | h)
      · exact .inr (.inl h)
      · exact .inl (.inl h)
      · exact .inl (.inr h)
      · exact .inr (.inr h)
theorem mrg_eq {x : Int} {a b : List Int} (ha : SS (x :: a)) (hb : SS (x :: b)) : mrg (x :: a) (x :: b) = x :: mrg a b := by
  obtain ⟨a1, a2⟩ := ss_cons.1 ha
  obtain ⟨b1, b2⟩ := ss_cons.1 hb
  refine ss_ext (ss_mrg _ ha) (ss_cons.2 ⟨fun z hz => ?_, ss_mrg _ a2⟩) fun z => ?_
  · rcases (mem_mrg z _ _).1 hz with h1 | h1
    · exact a1 z h1
    · exact b1 z h1
  · simp only [mem_mrg, List.mem_cons]
    constructor
    · rintro ((h | h) | h | h)
      · exact .inl h
      · exact .inr (.inl h)
      · exact .inl h
      · exact .inr (.inr h)
    · rintro (h | h | h)
      · exact .inl (.inl h)
      · exact .inl (.inr h)
      · exact .inr (.inr h)
/-- All but some. -/
def wout (s b : List Int) : List Int := s.filter fun v => !b.contains v
theorem ss_wout {s : List Int} (b : List Int) (h : SS s) : SS (wout s b) := List.Pairwise.filter _ h

/-! ### Which variables are free -/
def raisesOf (prims : List Pm) (t : Tm) : List Int := if t.k = 15 then (if t.n < 0 then [] else match prims[t.n.toNat]? with | some p => p.raises | none => []) else []
def boundAt (t : Tm) (k : Nat) : List Int := if t.k = 8 then [t.n] else if t.k = 10 ∨ t.k = 14 then (if k = 1 then [t.n] else []) else if t.k = 11 then t.vars else []
def freeArgs (F : Nat → List Int) (t : Tm) (i : Nat) : Nat → List Int → List Int → List Int
  | _, [], acc => acc
  | k, a :: l, acc => freeArgs F t i (k + 1) l (if a < 0 ∨ (i : Int) ≤ a then acc else mrg acc (wout (F a.toNat) (boundAt t k)))
def freeHead (prims : List Pm) (t : Tm) : List Int := mrg (if t.k = 1 then [t.n] else []) (raisesOf prims t)
def freeNode (prims : List Pm) (inb : Bool) (F : Nat → List Int) (t : Tm) (i : Nat) : List Int := if inb then freeArgs F t i 0 t.args (freeHead prims t) else []
def freeAll (prims : List Pm) (inb : Nat → Bool) (L : List Tm) : Nat → Nat → List Int
  | 0, _ => []
  | i + 1, j => if j = i then (match L[i]? with | some t => freeNode prims (inb i) (freeAll prims inb L i) t i | none => []) else freeAll prims inb L i j
def freeOf (prims : List Pm) (L : List Tm) (root : Nat) : List Int := freeAll prims (below L root).1 L (root + 1) root
theorem ss_head (prims : List Pm) (t : Tm) : SS (freeHead prims t) := by
  unfold freeHead
  refine ss_mrg _ ?_
  split <;> simp [SS]
theorem ss_freeArgs (F : Nat → List Int) (t : Tm) (i : Nat) : ∀ (k : Nat) (l acc : List Int), SS acc → SS (freeArgs F t i k l acc)
  | _, [], _, h => h
  | k, a :: l, acc, h => by
    unfold freeArgs
    refine ss_freeArgs F t i (k + 1) l _ ?_
    split
    · exact h
    · exact ss_mrg _ h
theorem ss_freeNode (prims : List Pm) (inb : Bool) (F : Nat → List Int) (t : Tm) (i : Nat) : SS (freeNode prims inb F t i) := by
  unfold freeNode
  split
  · exact ss_freeArgs F t i 0 _ _ (ss_head prims t)
  · simp [SS]
theorem ss_freeAll (prims : List Pm) (inb : Nat → Bool) (L : List Tm) : ∀ (i j : Nat), SS (freeAll prims inb L i j)
  | 0, _ => by simp [freeAll, SS]
  | i + 1, j => by
    unfold freeAll
    split
    · split
      · exact ss_freeNode ..
      · simp [SS]
    · exact ss_freeAll prims inb L i j

/-! ### The form of a node; what Check tells -/
def keyOk (y : Ky) : Bool := y.k == 1 || y.k == 2 || (y.k == 3 && decide (y.t.length ≤ 65536))
def kindAt (L : List Tm) (a : Int) : Int := match L[a.toNat]? with | some u => u.k | none => 0
def fixGo (L : List Tm) : List Int → List Int → Bool
  | v :: vs, a :: as => !(decide (v < 0) || kindAt L a != 8) && fixGo L vs as
  | [], _ => true
  | _ :: _, [] => false
def fixOk (L : List Tm) (t : Tm) : Bool := if t.vars.length = 0 ∨ t.args.length ≠ t.vars.length + 1 then false else fixGo L t.vars t.args
def formed (L : List Tm) (t : Tm) : Bool :=
  if t.k = 1 then decide (t.args.length = 0 ∧ 0 ≤ t.n)
  else if t.k = 2 then decide (t.args.length = 0 ∧ -4611686018427387904 ≤ t.i ∧ t.i ≤ 4611686018427387903)
  else if t.k = 3 then decide (t.args.length = 0)
  else if t.k = 4 then decide (t.args.length = 0 ∧ t.t.length ≤ 65536)
  else if t.k = 5 then decide (1 ≤ t.args.length ∧ t.args.length ≤ 1024)
  else if t.k = 6 ∨ t.k = 7 ∨ t.k = 8 then decide (t.args.length = 1 ∧ 0 ≤ t.n)
  else if t.k = 9 then decide (t.args.length = 2)
  else if t.k = 10 ∨ t.k = 14 then decide (t.args.length = 2 ∧ 0 ≤ t.n)
  else if t.k = 11 then fixOk L t
  else if t.k = 12 then decide (t.args.length = t.keys.length + 1 ∨ t.args.length = t.keys.length + 2) && t.keys.all keyOk
  else if t.k = 13 then decide (t.args.length = 1)
  else decide (t.k = 15)
def primOk (prims : List Pm) (t : Tm) : Bool := decide (0 ≤ t.n) && (match prims[t.n.toNat]? with | some p => p.args == (t.args.length : Int) | none => false)
/-- Have the made nodes below a place their form? Do their primitives fit? -/
def formAll (inb : Nat → Bool) (L : List Tm) : Nat → Bool
  | 0 => true
  | i + 1 => formAll inb L i && (!inb i || (match L[i]? with | some t => formed L t | none => true))
def primAll (prims : List Pm) (inb : Nat → Bool) (L : List Tm) : Nat → Bool
  | 0 => true
  | i + 1 => primAll prims inb L i && (!inb i || (match L[i]? with | some t => decide (t.k ≠ 15) || primOk prims t | none => true))
def checkOf (prims : List Pm) (L : List Tm) (root : Int) : Int :=
  if root < 0 ∨ (L.length : Int) ≤ root then 110
  else if (below L root.toNat).2 = false then 110
  else if formAll (below L root.toNat).1 L (root.toNat + 1) = false then 110
  else if primAll prims (below L root.toNat).1 L (root.toNat + 1) = false then 112
  else if 262144 < L.length then 3
  else if freeOf prims L root.toNat = [] then 0
  else 111
theorem formAll_beyond (inb : Nat → Bool) (L : List Tm) (m : Nat) (h : ∀ j, inb j = true → j < m) : ∀ k, formAll inb L (m + k) = formAll inb L m
  | 0 => rfl
  | k + 1 => by
    show (formAll inb L (m + k) && _) = _
    rw [formAll_beyond inb L m h k]
    have : inb (m + k) = false := by
      cases hb : inb (m + k)
      · rfl
      · have := h _ hb; omega
    rw [show m.add k = m + k from rfl, this]; simp
theorem primAll_beyond (prims : List Pm) (inb : Nat → Bool) (L : List Tm) (m : Nat) (h : ∀ j, inb j = true → j < m) : ∀ k, primAll prims inb L (m + k) = primAll prims inb L m
  | 0 => rfl
  | k + 1 => by
    show (primAll prims inb L (m + k) && _) = _
    rw [primAll_beyond prims inb L m h k]
    have : inb (m + k) = false := by
      cases hb : inb (m + k)
      · rfl
      · have := h _ hb; omega
    rw [show m.add k = m + k from rfl, this]; simp
theorem formAll_false {inb : Nat → Bool} {L : List Tm} : ∀ {i m : Nat}, i ≤ m → formAll inb L i = false → formAll inb L m = false
  | i, m, h, hf => by
    obtain ⟨k, rfl⟩ : ∃ k, m = i + k := ⟨m - i, by omega⟩
    clear h
    induction k with
    | zero => exact hf
    | succ k ih =>
      show (formAll inb L (i + k) && _) = false
      rw [ih, Bool.false_and]
theorem primAll_false {prims : List Pm} {inb : Nat → Bool} {L : List Tm} : ∀ {i m : Nat}, i ≤ m → primAll prims inb L i = false → primAll prims inb L m = false
  | i, m, h, hf => by
    obtain ⟨k, rfl⟩ : ∃ k, m = i + k := ⟨m - i, by omega⟩
    clear h
    induction k with
    | zero => exact hf
    | succ k ih =>
      show (primAll prims inb L (i + k) && _) = false
      rw [ih, Bool.false_and]
end LamM

namespace CpsM
open LamM

structure Fl where
  k : Int
  n : Int
  m : Int
  i : Int
  b : Int
  t : List UInt8
  vars : List Int
  keys : List Ky
  args : List Int

/-- A node as the small language's: the same arguments. -/
def Fl.tm (f : Fl) : Tm := ⟨f.k, f.n, f.i, f.b, f.t, f.vars, f.keys, f.args⟩
def tms (L : List Fl) : List Tm := L.map Fl.tm
theorem tms_len (L : List Fl) : (tms L).length = L.length := by unfold tms; simp
theorem tms_at {L : List Fl} {i : Nat} {t : Fl} (h : L[i]? = some t) : (tms L)[i]? = some t.tm := by unfold tms; rw [List.getElem?_map, h]; rfl
theorem argsC_at {L : List Fl} {i : Nat} {t : Fl} (h : L[i]? = some t) : argsAt (tms L) i = t.args := by unfold argsAt; rw [tms_at h]; rfl
def belowC (L : List Fl) (root : Nat) : (Nat → Bool) × Bool := below (tms L) root
/-- Where all is well, a made node's arguments are lower. -/
theorem belowC_ok (L : List Fl) (root : Nat) (h : (belowC L root).2 = true) (i : Nat) (t : Fl) (ht : L[i]? = some t) (hm : (belowC L root).1 i = true) : ∀ a ∈ t.args, 0 ≤ a ∧ a < (i : Int) := by
  have := below_ok (tms L) root h i hm
  rw [argsC_at ht] at this
  exact this

/-! ### Atoms, moves -/
def atomB (k : Int) : Bool := decide (1 ≤ k) && decide (k ≤ 4)
def moveB (k : Int) : Bool := decide (5 ≤ k) && decide (k ≤ 14) && decide (k ≠ 10)
def kindC (L : List Fl) (a : Int) : Int := match L[a.toNat]? with | some u => u.k | none => 0
def atomsB (L : List Fl) (l : List Int) : Bool := l.all fun a => atomB (kindC L a)
def movesB (L : List Fl) (l : List Int) : Bool := l.all fun a => moveB (kindC L a)
theorem kindC_at {L : List Fl} {a : Int} {t : Fl} (h : L[a.toNat]? = some t) : kindC L a = t.k := by unfold kindC; rw [h]

/-! ### The form of a node -/
def parGo : List Int → List Int → Bool
  | _, [] => true
  | seen, v :: r => !(decide (v < 0) || seen.contains v) && parGo (seen ++ [v]) r
/-- May variables be a function's parameters? -/
def parOk (l : List Int) : Bool := parGo [] l && decide (l.length ≤ 64)
def fixGoC (L : List Fl) : List Int → List Int → Bool
  | v :: vs, a :: as => !(decide (v < 0) || kindC L a != 10) && fixGoC L vs as
  | [], _ => true
  | _ :: _, [] => false
def fixOkC (L : List Fl) (t : Fl) : Bool := decide (t.vars.length ≠ 0 ∧ t.args.length = t.vars.length + 1) && (movesB L (t.args.drop t.vars.length) && fixGoC L t.vars t.args)
def formedC (L : List Fl) (t : Fl) : Bool :=
  if t.k = 1 then decide (t.args.length = 0 ∧ 0 ≤ t.n)
  else if t.k = 2 then decide (t.args.length = 0 ∧ -4611686018427387904 ≤ t.i ∧ t.i ≤ 4611686018427387903)
  else if t.k = 3 then decide (t.args.length = 0)
  else if t.k = 4 then decide (t.args.length = 0 ∧ t.t.length ≤ 65536)
  else if t.k = 5 then decide (2 ≤ t.args.length ∧ t.args.length ≤ 1025 ∧ 0 ≤ t.n) && (atomsB L (t.args.take (t.args.length - 1)) && movesB L (t.args.drop (t.args.length - 1)))
  else if t.k = 6 ∨ t.k = 7 then decide (t.args.length = 2 ∧ 0 ≤ t.n ∧ 0 ≤ t.m) && (atomsB L (t.args.take 1) && movesB L (t.args.drop 1))
  else if t.k = 8 then decide (0 ≤ t.n)
  else if t.k = 9 then fixOkC L t
  else if t.k = 10 then decide (t.args.length = 1) && (parOk t.vars && movesB L t.args)
  else if t.k = 11 then decide (1 ≤ t.args.length ∧ t.args.length ≤ 65) && atomsB L t.args
  else if t.k = 12 then decide (t.args.length = 1 + t.keys.length ∨ t.args.length = 2 + t.keys.length) && (t.keys.all keyOk && (atomsB L (t.args.take 1) && movesB L (t.args.drop 1)))
  else if t.k = 13 ∨ t.k = 14 then decide (t.args.length = 1) && atomsB L t.args
  else false
/-- Has a primitive's node what its primitive wants? -/
def wantsOf (p : Pm) : Int := p.args + 1 + (if p.raises.length = 0 then 0 else 1)
def primOkC (prims : List Pm) (t : Fl) : Bool := decide (0 ≤ t.m) && (match prims[t.m.toNat]? with | some p => decide ((t.args.length : Int) = wantsOf p) | none => false)
/-- A primitive's arguments in their order, where it fits. -/
def orderC (prims : List Pm) (L : List Fl) (t : Fl) : Bool := decide (t.k ≠ 8) || !primOkC prims t || (match prims[t.m.toNat]? with | some p => atomsB L (t.args.take p.args.toNat) && movesB L (t.args.drop p.args.toNat) | none => true)
def formedP (prims : List Pm) (L : List Fl) (t : Fl) : Bool := formedC L t && orderC prims L t
def fitsC (prims : List Pm) (t : Fl) : Bool := decide (t.k ≠ 8) || primOkC prims t

/-! ### What holds of all made nodes below a place -/
def allC (P : Fl → Bool) (inb : Nat → Bool) (L : List Fl) : Nat → Bool
  | 0 => true
  | i + 1 => allC P inb L i && (!inb i || (match L[i]? with | some t => P t | none => true))
theorem allC_beyond (P : Fl → Bool) (inb : Nat → Bool) (L : List Fl) (m : Nat) (h : ∀ j, inb j = true → j < m) : ∀ k, allC P inb L (m + k) = allC P inb L m
  | 0 => rfl
  | k + 1 => by
    show (allC P inb L (m + k) && _) = _
    rw [allC_beyond P inb L m h k]
    have : inb (m + k) = false := by
      cases hb : inb (m + k)
      · rfl
      · have := h _ hb; omega
    rw [show m.add k = m + k from rfl, this]; simp
theorem allC_false {P : Fl → Bool} {inb : Nat → Bool} {L : List Fl} : ∀ {i m : Nat}, i ≤ m → allC P inb L i = false → allC P inb L m = false
  | i, m, h, hf => by
    obtain ⟨k, rfl⟩ : ∃ k, m = i + k := ⟨m - i, by omega⟩
    clear h
    induction k with
    | zero => exact hf
    | succ k ih =>
      show (allC P inb L (i + k) && _) = false
      rw [ih, Bool.false_and]

/-! ### Which variables are free -/
def bindsC (t : Fl) : List Int := if t.k = 5 ∨ t.k = 6 ∨ t.k = 7 ∨ t.k = 8 then [t.n] else if t.k = 9 ∨ t.k = 10 then t.vars else []
def freeArgsC (L : List Fl) (F : Nat → List Int) (t : Fl) (i : Nat) : List Int → List Int → List Int
  | [], acc => acc
  | a :: l, acc => freeArgsC L F t i l (if a < 0 ∨ (i : Int) ≤ a then acc else mrg acc (if atomB (kindC L a) then F a.toNat else wout (F a.toNat) (bindsC t)))
def freeHeadC (t : Fl) : List Int := if t.k = 1 then [t.n] else []
def freeNodeC (inb : Bool) (L : List Fl) (F : Nat → List Int) (t : Fl) (i : Nat) : List Int := if inb then freeArgsC L F t i t.args (freeHeadC t) else []
def freeAllC (inb : Nat → Bool) (L : List Fl) : Nat → Nat → List Int
  | 0, _ => []
  | i + 1, j => if j = i then (match L[i]? with | some t => freeNodeC (inb i) L (freeAllC inb L i) t i | none => []) else freeAllC inb L i j
def freeOfC (L : List Fl) (root : Nat) : List Int := freeAllC (belowC L root).1 L (root + 1) root
theorem ss_headC (t : Fl) : SS (freeHeadC t) := by
  unfold freeHeadC
  split <;> simp [SS]
theorem ss_freeArgsC (L : List Fl) (F : Nat → List Int) (t : Fl) (i : Nat) : ∀ (l acc : List Int), SS acc → SS (freeArgsC L F t i l acc)
  | [], _, h => h
  | a :: l, acc, h => by
    unfold freeArgsC
    refine ss_freeArgsC L F t i l _ ?_
    split
    · exact h
    · exact ss_mrg _ h
theorem ss_freeNodeC (inb : Bool) (L : List Fl) (F : Nat → List Int) (t : Fl) (i : Nat) : SS (freeNodeC inb L F t i) := by
  unfold freeNodeC
  split
  · exact ss_freeArgsC L F t i _ _ (ss_headC t)
  · simp [SS]
theorem ss_freeAllC (inb : Nat → Bool) (L : List Fl) : ∀ (i j : Nat), SS (freeAllC inb L i j)
  | 0, _ => by simp [freeAllC, SS]
  | i + 1, j => by
    unfold freeAllC
    split
    · split
      · exact ss_freeNodeC ..
      · simp [SS]
    · exact ss_freeAllC inb L i j

/-! ### What Check tells -/
def checkC (prims : List Pm) (L : List Fl) (root : Int) : Int :=
  if root < 0 ∨ (L.length : Int) ≤ root then 130
  else if moveB (kindC L root) = false then 130
  else if (belowC L root.toNat).2 = false then 130
  else if allC (formedP prims L) (belowC L root.toNat).1 L (root.toNat + 1) = false then 130
  else if allC (fitsC prims) (belowC L root.toNat).1 L (root.toNat + 1) = false then 112
  else if 262144 < L.length then 3
  else if freeOfC L root.toNat = [] then 0
  else 111
end CpsM

namespace LamM

theorem nodup_sub : ∀ (l m : List Int), SS l → (∀ x ∈ l, x ∈ m) → l.length ≤ m.length
  | [], _, _, _ => Nat.zero_le _
  | x :: l, m, hp, hs => by
    obtain ⟨h1, h2⟩ := ss_cons.1 hp
    have hx := hs x List.mem_cons_self
    have := nodup_sub l (m.erase x) h2 fun y hy => by
      have := h1 y hy
      exact (List.mem_erase_of_ne (by omega)).2 (hs y (List.mem_cons_of_mem _ hy))
    rw [List.length_erase_of_mem hx] at this
    have := List.length_pos_of_mem hx
    simp; omega
/-- Where a free variable comes from: a node, or what primitives raise. -/
def pool (L : List Tm) : List Int := L.map (·.n) ++ [1, 2, 3, 4, 5, 6, 7, 8]
theorem pool_len (L : List Tm) : (pool L).length = L.length + 8 := by simp [pool]
/-- A set of such. -/
structure In (L : List Tm) (l : List Int) : Prop where
  ss : SS l
  sub : ∀ x ∈ l, x ∈ pool L
theorem In.len {L : List Tm} {l : List Int} (h : In L l) : l.length ≤ L.length + 8 := by
  have := nodup_sub l _ h.ss h.sub
  rw [pool_len] at this; exact this
theorem In.nil (L : List Tm) : In L [] := ⟨by simp [SS], fun x h => by cases h⟩
theorem In.mrg {L : List Tm} {a b : List Int} (ha : In L a) (hb : ∀ x ∈ b, x ∈ pool L) : In L (mrg a b) :=
  ⟨ss_mrg _ ha.ss, fun x hx => ((mem_mrg x _ _).1 hx).elim (ha.sub x) (hb x)⟩
theorem In.ins {L : List Tm} {a : List Int} {v : Int} (ha : In L a) (hv : v ∈ pool L) : In L (ins v a) :=
  ⟨ss_ins v ha.ss, fun x hx => ((mem_ins v x a).1 hx).elim (fun h => h ▸ hv) (ha.sub x)⟩
theorem wout_sub {s b : List Int} {x : Int} (h : x ∈ wout s b) : x ∈ s := (List.mem_filter.1 h).1
theorem In.wout {L : List Tm} {s : List Int} (hs : In L s) (b : List Int) : In L (wout s b) := ⟨ss_wout b hs.ss, fun x hx => hs.sub x (wout_sub hx)⟩
/-- What primitives raise is small. -/
def Small (prims : List Pm) : Prop := ∀ p ∈ prims, SS p.raises ∧ ∀ x ∈ p.raises, 1 ≤ x ∧ x ≤ 8
theorem small_pool {L : List Tm} {x : Int} (h : 1 ≤ x ∧ x ≤ 8) : x ∈ pool L := by
  unfold pool
  refine List.mem_append_right _ ?_
  obtain ⟨h1, h2⟩ := h
  rcases (by omega : x = 1 ∨ x = 2 ∨ x = 3 ∨ x = 4 ∨ x = 5 ∨ x = 6 ∨ x = 7 ∨ x = 8) with rfl | rfl | rfl | rfl | rfl | rfl | rfl | rfl <;> decide
theorem node_pool {L : List Tm} {t : Tm} (h : t ∈ L) : t.n ∈ pool L := List.mem_append_left _ (List.mem_map.2 ⟨t, h, rfl⟩)
theorem raises_in {prims : List Pm} (hp : Small prims) (L : List Tm) (t : Tm) : In L (raisesOf prims t) := by
  unfold raisesOf
  split
  · split
    · exact In.nil L
    · split
      · next p h =>
        obtain ⟨h1, h2⟩ := hp p (List.mem_of_getElem? h)
        exact ⟨h1, fun x hx => small_pool (h2 x hx)⟩
      · exact In.nil L
  · exact In.nil L
theorem head_in {prims : List Pm} (hp : Small prims) {L : List Tm} {t : Tm} (ht : t ∈ L) : In L (freeHead prims t) := by
  unfold freeHead
  refine In.mrg ?_ (raises_in hp L t).sub
  split
  · exact ⟨by simp [SS], fun x hx => by rw [List.mem_singleton.1 hx]; exact node_pool ht⟩
  · exact In.nil L
theorem args_in {L : List Tm} {F : Nat → List Int} (hF : ∀ j, In L (F j)) (t : Tm) (i : Nat) : ∀ (k : Nat) (l acc : List Int), In L acc → In L (freeArgs F t i k l acc)
  | _, [], _, h => h
  | k, a :: l, acc, h => by
    unfold freeArgs
    refine args_in hF t i (k + 1) l _ ?_
    split
    · exact h
    · exact h.mrg ((hF _).wout _).sub
theorem node_in {prims : List Pm} (hp : Small prims) {L : List Tm} {F : Nat → List Int} (hF : ∀ j, In L (F j)) (inb : Bool) {t : Tm} (ht : t ∈ L) (i : Nat) : In L (freeNode prims inb F t i) := by
  unfold freeNode
  split
  · exact args_in hF t i 0 _ _ (head_in hp ht)
  · exact In.nil L
theorem all_in {prims : List Pm} (hp : Small prims) (inb : Nat → Bool) (L : List Tm) : ∀ (i j : Nat), In L (freeAll prims inb L i j)
  | 0, _ => In.nil L
  | i + 1, j => by
    unfold freeAll
    split
    · split
      · next t h => exact node_in hp (all_in hp inb L i) _ (List.mem_of_getElem? h) i
      · exact In.nil L
    · exact all_in hp inb L i j
/-- Steps of the node's head and arguments. -/
theorem head_var {prims : List Pm} {t : Tm} (h : t.k = 1) : freeHead prims t = [t.n] := by
  unfold freeHead raisesOf
  rw [if_pos h, if_neg (by omega)]; rfl
theorem head_prim {prims : List Pm} (hp : Small prims) {t : Tm} {p : Pm} (h : t.k = 15) (h0 : 0 ≤ t.n) (hg : prims[t.n.toNat]? = some p) : freeHead prims t = p.raises := by
  unfold freeHead raisesOf
  rw [if_neg (by omega), if_pos h, if_neg (by omega), hg]
  exact mrg_nil_left (hp p (List.mem_of_getElem? hg)).1
theorem head_prim_no {prims : List Pm} {t : Tm} (h : t.k = 15) (h0 : t.n < 0 ∨ (prims.length : Int) ≤ t.n) : freeHead prims t = [] := by
  unfold freeHead raisesOf
  rw [if_neg (by omega), if_pos h]
  split
  · rfl
  · rw [List.getElem?_eq_none (by omega)]; rfl
theorem head_other {prims : List Pm} {t : Tm} (h1 : t.k ≠ 1) (h2 : t.k ≠ 15) : freeHead prims t = [] := by
  unfold freeHead raisesOf
  rw [if_neg h1, if_neg h2]; rfl
theorem args_step {F : Nat → List Int} {t : Tm} {i k : Nat} {a : Int} {l acc : List Int} : freeArgs F t i k (a :: l) acc = freeArgs F t i (k + 1) l (if a < 0 ∨ (i : Int) ≤ a then acc else mrg acc (wout (F a.toNat) (boundAt t k))) := rfl
theorem mrgw_step {acc b l : List Int} {x : Int} : mrg acc (wout (x :: l) b) = if b.contains x then mrg acc (wout l b) else mrg (ins x acc) (wout l b) := by
  unfold wout
  rw [List.filter_cons]
  cases b.contains x <;> rfl
theorem all_last {prims : List Pm} {inb : Nat → Bool} {L : List Tm} {i : Nat} {t : Tm} (h : L[i]? = some t) : freeAll prims inb L (i + 1) i = freeNode prims (inb i) (freeAll prims inb L i) t i := by
  show (if i = i then _ else _) = _
  rw [if_pos rfl, h]
theorem all_other {prims : List Pm} {inb : Nat → Bool} {L : List Tm} {i j : Nat} (h : j ≠ i) : freeAll prims inb L (i + 1) j = freeAll prims inb L i j := by
  show (if j = i then _ else _) = _
  rw [if_neg h]
theorem all_beyond {prims : List Pm} {inb : Nat → Bool} {L : List Tm} : ∀ {i j : Nat}, i ≤ j → freeAll prims inb L i j = []
  | 0, _, _ => rfl
  | i + 1, j, h => by rw [all_other (by omega)]; exact all_beyond (by omega)
end LamM

namespace CpsM
open LamM

/-- A set of numbers of nodes. -/
theorem node_poolC {L : List Fl} {t : Fl} (h : t ∈ L) : t.n ∈ pool (tms L) :=
  node_pool (L := tms L) (t := t.tm) (List.mem_map.2 ⟨t, h, rfl⟩)
theorem head_inC {L : List Fl} {t : Fl} (ht : t ∈ L) : In (tms L) (freeHeadC t) := by
  unfold freeHeadC
  split
  · exact ⟨by simp [SS], fun x hx => by rw [List.mem_singleton.1 hx]; exact node_poolC ht⟩
  · exact In.nil _
theorem args_inC {L : List Fl} {F : Nat → List Int} (hF : ∀ j, In (tms L) (F j)) (t : Fl) (i : Nat) : ∀ (l acc : List Int), In (tms L) acc → In (tms L) (freeArgsC L F t i l acc)
  | [], _, h => h
  | a :: l, acc, h => by
    unfold freeArgsC
    refine args_inC hF t i l _ ?_
    split
    · exact h
    · split
      · exact h.mrg (hF _).sub
      · exact h.mrg ((hF _).wout _).sub
theorem node_inC {L : List Fl} {F : Nat → List Int} (hF : ∀ j, In (tms L) (F j)) (inb : Bool) {t : Fl} (ht : t ∈ L) (i : Nat) : In (tms L) (freeNodeC inb L F t i) := by
  unfold freeNodeC
  split
  · exact args_inC hF t i _ _ (head_inC ht)
  · exact In.nil _
theorem all_inC (inb : Nat → Bool) (L : List Fl) : ∀ (i j : Nat), In (tms L) (freeAllC inb L i j)
  | 0, _ => In.nil _
  | i + 1, j => by
    unfold freeAllC
    split
    · split
      · next t h => exact node_inC (all_inC inb L i) _ (List.mem_of_getElem? h) i
      · exact In.nil _
    · exact all_inC inb L i j
theorem args_stepC {L : List Fl} {F : Nat → List Int} {t : Fl} {i : Nat} {a : Int} {l acc : List Int} : freeArgsC L F t i (a :: l) acc = freeArgsC L F t i l (if a < 0 ∨ (i : Int) ≤ a then acc else mrg acc (if atomB (kindC L a) then F a.toNat else wout (F a.toNat) (bindsC t))) := rfl
theorem all_lastC {inb : Nat → Bool} {L : List Fl} {i : Nat} {t : Fl} (h : L[i]? = some t) : freeAllC inb L (i + 1) i = freeNodeC (inb i) L (freeAllC inb L i) t i := by
  show (if i = i then _ else _) = _
  rw [if_pos rfl, h]
theorem all_otherC {inb : Nat → Bool} {L : List Fl} {i j : Nat} (h : j ≠ i) : freeAllC inb L (i + 1) j = freeAllC inb L i j := by
  show (if j = i then _ else _) = _
  rw [if_neg h]
theorem all_beyondC {inb : Nat → Bool} {L : List Fl} : ∀ {i j : Nat}, i ≤ j → freeAllC inb L i j = []
  | 0, _, _ => rfl
  | i + 1, j, h => by rw [all_otherC (by omega)]; exact all_beyondC (by omega)
def updS (F : Nat → List Int) (i : Nat) (l : List Int) : Nat → List Int := fun j => if j = i then l else F j
theorem updS_at {F : Nat → List Int} {i : Nat} {l : List Int} : updS F i l i = l := if_pos rfl
theorem updS_ne {F : Nat → List Int} {i j : Nat} {l : List Int} (h : j ≠ i) : updS F i l j = F j := if_neg h
theorem updS_two {F : Nat → List Int} {i : Nat} {l m : List Int} : updS (updS F i l) i m = updS F i m := by
  funext j
  by_cases h : j = i
  · subst h; rw [updS_at, updS_at]
  · rw [updS_ne h, updS_ne h, updS_ne h]
theorem updS_id {F : Nat → List Int} {i : Nat} (h : F i = []) : updS F i [] = F := by
  funext j
  by_cases e : j = i
  · subst e; rw [updS_at, h]
  · rw [updS_ne e]
theorem all_nodeC {inb : Nat → Bool} {L : List Fl} {i : Nat} {t : Fl} (h : L[i]? = some t) (hb : inb i = true) :
    freeAllC inb L (i + 1) = updS (freeAllC inb L i) i (freeArgsC L (freeAllC inb L i) t i t.args (freeHeadC t)) := by
  funext j
  by_cases e : j = i
  · subst e; rw [updS_at, all_lastC h]; unfold freeNodeC; rw [if_pos hb]
  · rw [updS_ne e, all_otherC e]
theorem all_skipC {inb : Nat → Bool} {L : List Fl} {i : Nat} {t : Fl} (h : L[i]? = some t) (hb : inb i = false) :
    freeAllC inb L (i + 1) = freeAllC inb L i := by
  funext j
  by_cases e : j = i
  · subst e; rw [all_lastC h, all_beyondC (Nat.le_refl _)]; unfold freeNodeC; rw [hb]; rfl
  · rw [all_otherC e]
/-- The reference puts one variable after the other. -/
theorem mrg_step {acc l : List Int} {x : Int} : mrg acc (x :: l) = mrg (ins x acc) l := rfl
theorem wout_step {acc b l : List Int} {x : Int} : mrg acc (wout (x :: l) b) = if b.contains x then mrg acc (wout l b) else mrg (ins x acc) (wout l b) := mrgw_step
/-- What may go in of a lower node: all of an atom's, what is not bound of a move's. -/
def sel (atom : Bool) (b s : List Int) : List Int := if atom then s else wout s b
theorem sel_nil {atom : Bool} {b acc : List Int} : mrg acc (sel atom b []) = acc := by unfold sel; cases atom <;> rfl
theorem sel_step {atom : Bool} {b acc l : List Int} {x : Int} : mrg acc (sel atom b (x :: l)) = mrg (if atom || !b.contains x then ins x acc else acc) (sel atom b l) := by
  cases atom
  · show mrg acc (wout (x :: l) b) = mrg (if (false || !b.contains x) = true then ins x acc else acc) (wout l b)
    rw [wout_step]
    cases b.contains x <;> rfl
  · rfl
theorem sel_in {L : List Tm} {s b : List Int} (atom : Bool) (h : In L s) : In L (sel atom b s) := by
  unfold sel
  cases atom
  · exact h.wout b
  · exact h
theorem parGo_all {l : List Int} : parGo [] l = true ↔ (∀ x ∈ l, 0 ≤ x) ∧ l.Nodup := by
  have key : ∀ (l seen : List Int), parGo seen l = true ↔ (∀ x ∈ l, 0 ≤ x ∧ x ∉ seen) ∧ l.Nodup := by
    intro l
    induction l with
    | nil => intro seen; simp [parGo]
    | cons v r ih =>
      intro seen
      simp only [parGo, Bool.and_eq_true, Bool.not_eq_true', Bool.or_eq_false_iff, decide_eq_false_iff_not, List.nodup_cons, List.mem_cons, ih]
      rw [show (seen.contains v = false) ↔ v ∉ seen by rw [← Bool.not_eq_true, List.contains_iff_mem]]
      constructor
      · rintro ⟨⟨h1, h2⟩, h3, h4⟩
        refine ⟨fun x hx => ?_, fun hv => ?_, h4⟩
        · rcases hx with rfl | hx
          · exact ⟨by omega, h2⟩
          · exact ⟨(h3 x hx).1, fun hs => (h3 x hx).2 (List.mem_append_left _ hs)⟩
        · exact (h3 v hv).2 (List.mem_append_right _ (by simp))
      · rintro ⟨h1, h2, h3⟩
        refine ⟨⟨by have := (h1 v (.inl rfl)).1; omega, (h1 v (.inl rfl)).2⟩, fun x hx => ⟨(h1 x (.inr hx)).1, fun hs => ?_⟩, h3⟩
        rcases List.mem_append.1 hs with hs | hs
        · exact (h1 x (.inr hx)).2 hs
        · rw [List.mem_singleton.1 hs] at hx; exact h2 hx
  simpa using key l []
end CpsM
