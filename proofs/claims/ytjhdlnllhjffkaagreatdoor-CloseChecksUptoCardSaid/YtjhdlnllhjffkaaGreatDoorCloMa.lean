/- Lambda's checks, plain: which nodes are made, which have their form, which variables are free. Cps's checks, plain: which nodes are made, which have their form, which variables are free. Lambda, plain: how many variables are free at most; sets by their elements. Cps, plain: how many variables are free at most; steps of the free variables. Close's checks, plain: which nodes several roots make. Close, plain: the free variables where no node binds a function's. Close's checks, plain: what the program's way and the reference's tell is the same. Close's checks, plain: both ways tell the same. -/
namespace LamM

structure Ky where
  k : Int
  i : Int
  t : List UInt8
structure Tm where
  k : Int
  n : Int
  i : Int
  b : Int
  t : List UInt8
  vars : List Int
  keys : List Ky
  args : List Int
structure Pm where
  args : Int
  raises : List Int

/-! ### Which nodes are made -/
def upd (f : Nat → Bool) (a : Nat) : Nat → Bool := fun j => (j == a) || f j
def stepA (i : Nat) : List Int → (Nat → Bool) × Bool → (Nat → Bool) × Bool
  | [], s => s
  | a :: l, s => stepA i l (if a < 0 ∨ (i : Int) ≤ a then (s.1, false) else (upd s.1 a.toNat, s.2))
def argsAt (L : List Tm) (i : Nat) : List Int := match L[i]? with | some t => t.args | none => []
def belowF (L : List Tm) : Nat → (Nat → Bool) × Bool → (Nat → Bool) × Bool
  | 0, s => s
  | i + 1, s => belowF L i (if s.1 i then stepA i (argsAt L i) s else s)
def below (L : List Tm) (root : Nat) : (Nat → Bool) × Bool := belowF L (root + 1) (upd (fun _ => false) root, true)

theorem upd_le {f : Nat → Bool} {a m : Nat} (h : ∀ j, f j = true → j ≤ m) (ha : a ≤ m) : ∀ j, upd f a j = true → j ≤ m := fun j hj => by
  unfold upd at hj
  rcases Bool.or_eq_true_iff.1 hj with h1 | h1
  · have := beq_iff_eq.1 h1; omega
  · exact h j h1
theorem stepA_le (i m : Nat) (hi : i ≤ m) : ∀ (l : List Int) (s : (Nat → Bool) × Bool), (∀ j, s.1 j = true → j ≤ m) → ∀ j, (stepA i l s).1 j = true → j ≤ m
  | [], s, h => h
  | a :: l, s, h => by
    unfold stepA
    refine stepA_le i m hi l _ ?_
    split
    · exact h
    · exact upd_le h (by omega)
theorem belowF_le (L : List Tm) (m : Nat) : ∀ (k : Nat) (s : (Nat → Bool) × Bool), k ≤ m + 1 → (∀ j, s.1 j = true → j ≤ m) → ∀ j, (belowF L k s).1 j = true → j ≤ m
  | 0, s, _, h => h
  | k + 1, s, hk, h => by
    unfold belowF
    refine belowF_le L m k _ (by omega) ?_
    split
    · exact stepA_le k m (by omega) _ _ h
    · exact h
/-- What is made lies at the root or below it. -/
theorem below_le (L : List Tm) (root j : Nat) (h : (below L root).1 j = true) : j ≤ root :=
  belowF_le L root (root + 1) _ (Nat.le_refl _) (upd_le (fun _ h => by cases h) (Nat.le_refl _)) j h
/-- Only lower places are marked by a node, and marks stay. -/
theorem stepA_hi (i : Nat) : ∀ (l : List Int) (s : (Nat → Bool) × Bool) (j : Nat), i ≤ j → (stepA i l s).1 j = s.1 j
  | [], _, _, _ => rfl
  | a :: l, s, j, h => by
    unfold stepA
    rw [stepA_hi i l _ j h]
    split
    · rfl
    · next hc =>
      show upd s.1 a.toNat j = s.1 j
      unfold upd
      rw [show (j == a.toNat) = false from beq_eq_false_iff_ne.2 (by omega), Bool.false_or]
theorem belowF_hi (L : List Tm) : ∀ (k : Nat) (s : (Nat → Bool) × Bool) (j : Nat), k ≤ j + 1 → (belowF L k s).1 j = s.1 j
  | 0, _, _, _ => rfl
  | k + 1, s, j, h => by
    unfold belowF
    rw [belowF_hi L k _ j (by omega)]
    split
    · exact stepA_hi k _ _ j (by omega)
    · rfl
theorem stepA_bad (i : Nat) : ∀ (l : List Int) (s : (Nat → Bool) × Bool), s.2 = false → (stepA i l s).2 = false
  | [], _, h => h
  | a :: l, s, h => by
    unfold stepA
    refine stepA_bad i l _ ?_
    split
    · rfl
    · exact h
theorem belowF_bad (L : List Tm) : ∀ (k : Nat) (s : (Nat → Bool) × Bool), s.2 = false → (belowF L k s).2 = false
  | 0, _, h => h
  | k + 1, s, h => by
    unfold belowF
    refine belowF_bad L k _ ?_
    split
    · exact stepA_bad k _ _ h
    · exact h
theorem stepA_ok (i : Nat) : ∀ (l : List Int) (s : (Nat → Bool) × Bool), (stepA i l s).2 = true → ∀ a ∈ l, 0 ≤ a ∧ a < (i : Int)
  | [], _, _, a, h => by cases h
  | a :: l, s, h, x, hx => by
    unfold stepA at h
    by_cases hc : a < 0 ∨ (i : Int) ≤ a
    · rw [if_pos hc, stepA_bad i l _ rfl] at h; cases h
    · rcases List.mem_cons.1 hx with rfl | hx
      · omega
      · exact stepA_ok i l _ h x hx
theorem belowF_ok (L : List Tm) : ∀ (k : Nat) (s : (Nat → Bool) × Bool), (belowF L k s).2 = true → ∀ i, i < k → (belowF L k s).1 i = true → ∀ a ∈ argsAt L i, 0 ≤ a ∧ a < (i : Int)
  | 0, _, _, i, hi, _ => by omega
  | k + 1, s, h, i, hi, hm => by
    unfold belowF at h hm
    rcases Nat.lt_or_ge i k with h1 | h1
    · exact belowF_ok L k _ h i h1 hm
    · obtain rfl : i = k := by omega
      rw [belowF_hi L i _ i (by omega)] at hm
      have hs : s.1 i = true := by
        cases hb : s.1 i
        · rw [hb] at hm; simp at hm; rw [hb] at hm; cases hm
        · rfl
      rw [hs, if_pos rfl] at h
      intro a ha
      have h2 : (stepA i (argsAt L i) s).2 = true := by
        cases hc : (stepA i (argsAt L i) s).2
        · rw [belowF_bad L i _ hc] at h; cases h
        · rfl
      exact stepA_ok i _ s h2 a ha
/-- Where all is well, a made node's arguments are lower. -/
theorem below_ok (L : List Tm) (root : Nat) (h : (below L root).2 = true) (i : Nat) (hm : (below L root).1 i = true) : ∀ a ∈ argsAt L i, 0 ≤ a ∧ a < (i : Int) :=
  belowF_ok L (root + 1) _ h i (by have := below_le L root i hm; omega) hm

/-! ### Sets of variables: strictly rising lists -/
abbrev SS (l : List Int) : Prop := l.Pairwise (· < ·)
theorem ss_cons {x : Int} {l : List Int} : SS (x :: l) ↔ (∀ y ∈ l, x < y) ∧ SS l := List.pairwise_cons
theorem ss_ext : ∀ {l m : List Int}, SS l → SS m → (∀ x, x ∈ l ↔ x ∈ m) → l = m
  | [], [], _, _, _ => rfl
  | [], y :: m, _, _, h => by have := (h y).2 List.mem_cons_self; cases this
  | x :: l, [], _, _, h => by have := (h x).1 List.mem_cons_self; cases this
  | x :: l, y :: m, hl, hm, h => by
    obtain ⟨l1, l2⟩ := ss_cons.1 hl
    obtain ⟨m1, m2⟩ := ss_cons.1 hm
    have hxy : x = y := by
      rcases List.mem_cons.1 ((h x).1 List.mem_cons_self) with e | e
      · exact e
      · rcases List.mem_cons.1 ((h y).2 List.mem_cons_self) with e2 | e2
        · exact e2.symm
        · have := m1 x e; have := l1 y e2; omega
    subst hxy
    rw [ss_ext l2 m2 (fun z => ?_)]
    have hz := h z
    rw [List.mem_cons, List.mem_cons] at hz
    constructor
    · intro hz1
      rcases hz.1 (.inr hz1) with e | e
      · have := l1 z hz1; omega
      · exact e
    · intro hz1
      rcases hz.2 (.inr hz1) with e | e
      · have := m1 z hz1; omega
      · exact e
def ins (v : Int) : List Int → List Int
  | [] => [v]
  | x :: s => if v < x then v :: x :: s else if v = x then x :: s else x :: ins v s
theorem mem_ins (v x : Int) : ∀ s : List Int, x ∈ ins v s ↔ x = v ∨ x ∈ s
  | [] => by simp [ins]
  | y :: s => by
    unfold ins
    split
    · simp
    · split
      · next h => subst h; simp
      · rw [List.mem_cons, mem_ins v x s, List.mem_cons]
        constructor
        · rintro (h | h | h)
          · exact .inr (.inl h)
          · exact .inl h
          · exact .inr (.inr h)
        · rintro (h | h | h)
          · exact .inr (.inl h)
          · exact .inl h
          · exact .inr (.inr h)
theorem ss_ins (v : Int) : ∀ {s : List Int}, SS s → SS (ins v s)
  | [], _ => by simp [ins, SS]
  | y :: s, h => by
    obtain ⟨h1, h2⟩ := ss_cons.1 h
    unfold ins
    split
    · next hv => exact ss_cons.2 ⟨fun z hz => by rcases List.mem_cons.1 hz with rfl | hz; exact hv; have := h1 z hz; omega, h⟩
    · split
      · exact h
      · next hv hv2 =>
        refine ss_cons.2 ⟨fun z hz => ?_, ss_ins v h2⟩
        rcases (mem_ins v z s).1 hz with rfl | hz
        · omega
        · exact h1 z hz
theorem ins_mem {v : Int} {s : List Int} (hs : SS s) (h : v ∈ s) : ins v s = s :=
  ss_ext (ss_ins v hs) hs fun x => by rw [mem_ins]; exact ⟨fun hx => hx.elim (fun e => e ▸ h) id, .inr⟩
/-- All of both. -/
def mrg (a b : List Int) : List Int := b.foldl (fun s v => ins v s) a
theorem ss_mrg : ∀ (b : List Int) {a : List Int}, SS a → SS (mrg a b)
  | [], _, h => h
  | v :: b, _, h => ss_mrg b (ss_ins v h)
theorem mem_mrg (x : Int) : ∀ (b a : List Int), x ∈ mrg a b ↔ x ∈ a ∨ x ∈ b
  | [], a => by simp [mrg]
  | v :: b, a => by
    show x ∈ mrg (ins v a) b ↔ _
    rw [mem_mrg x b (ins v a), mem_ins, List.mem_cons]
    constructor
    · rintro ((h | h) | h)
      · exact .inr (.inl h)
      · exact .inl h
      · exact .inr (.inr h)
    · rintro (h | h | h)
      · exact .inl (.inr h)
      · exact .inl (.inl h)
      · exact .inr h
theorem mrg_nil (a : List Int) : mrg a [] = a := rfl
theorem mrg_nil_left {b : List Int} (h : SS b) : mrg [] b = b := ss_ext (ss_mrg b (by simp [SS])) h fun x => by rw [mem_mrg]; simp
/-- The zip of two sets. -/
theorem mrg_lt {x y : Int} {a b : List Int} (ha : SS (x :: a)) (hb : SS (y :: b)) (h : x < y) : mrg (x :: a) (y :: b) = x :: mrg a (y :: b) := by
  obtain ⟨a1, a2⟩ := ss_cons.1 ha
  obtain ⟨b1, b2⟩ := ss_cons.1 hb
  refine ss_ext (ss_mrg _ ha) (ss_cons.2 ⟨fun z hz => ?_, ss_mrg _ a2⟩) fun z => ?_
  · rcases (mem_mrg z _ _).1 hz with h1 | h1
    · exact a1 z h1
    · rcases List.mem_cons.1 h1 with rfl | h1
      · exact h
      · have := b1 z h1; omega
  · simp only [mem_mrg, List.mem_cons, or_assoc]
theorem mrg_gt {x y : Int} {a b : List Int} (ha : SS (x :: a)) (hb : SS (y :: b)) (h : y < x) : mrg (x :: a) (y :: b) = y :: mrg (x :: a) b := by
  obtain ⟨a1, a2⟩ := ss_cons.1 ha
  obtain ⟨b1, b2⟩ := ss_cons.1 hb
  refine ss_ext (ss_mrg _ ha) (ss_cons.2 ⟨fun z hz => ?_, ss_mrg _ ha⟩) fun z => ?_
  · rcases (mem_mrg z _ _).1 hz with h1 | h1
    · rcases List.mem_cons.1 h1 with rfl | h1
      · exact h
      · have := a1 z h1; omega
    · exact b1 z h1
  · simp only [mem_mrg, List.mem_cons]
    constructor
    · rintro ((h | h) | h | h)
      · exact .inr (.inl (.inl h))
      · exact .inr (.inl (.inr h))
      · exact .inl h
      · exact .inr (.inr h)
    · rintro (h | (h | h) | h)
      · exact .inr (.inl h)
      · exact .inl (.inl h)
      · exact .inl (.inr h)
      · exact .inr (.inr h)
theorem mrg_eq {x : Int} {a b : List Int} (ha : SS (x :: a)) (hb : SS (x :: b)) : mrg (x :: a) (x :: b) = x :: mrg a b := by
  obtain ⟨a1, a2⟩ := ss_cons.1 ha
  obtain ⟨b1, b2⟩ := ss_cons.1 hb
  refine ss_ext (ss_mrg _ ha) (ss_cons.2 ⟨fun z hz => ?_, ss_mrg _ a2⟩) fun z => ?_
  · rcases (mem_mrg z _ _).1 hz with h1 | h1
    · exact a1 z h1
    · exact b1 z h1
  · simp only [mem_mrg, List.mem_cons]
    constructor
    · rintro ((h | h) | h | h)
      · exact .inl h
      · exact .inr (.inl h)
      · exact .inl h
      · exact .inr (.inr h)
    · rintro (h | h | h)
      · exact .inl (.inl h)
      · exact .inl (.inr h)
      · exact .inr (.inr h)
/-- All but some. -/
def wout (s b : List Int) : List Int := s.filter fun v => !b.contains v
theorem ss_wout {s : List Int} (b : List Int) (h : SS s) : SS (wout s b) := List.Pairwise.filter _ h

/-! ### Which variables are free -/
def raisesOf (prims : List Pm) (t : Tm) : List Int := if t.k = 15 then (if t.n < 0 then [] else match prims[t.n.toNat]? with | some p => p.raises | none => []) else []
def boundAt (t : Tm) (k : Nat) : List Int := if t.k = 8 then [t.n] else if t.k = 10 ∨ t.k = 14 then (if k = 1 then [t.n] else []) else if t.k = 11 then t.vars else []
def freeArgs (F : Nat → List Int) (t : Tm) (i : Nat) : Nat → List Int → List Int → List Int
  | _, [], acc => acc
  | k, a :: l, acc => freeArgs F t i (k + 1) l (if a < 0 ∨ (i : Int) ≤ a then acc else mrg acc (wout (F a.toNat) (boundAt t k)))
def freeHead (prims : List Pm) (t : Tm) : List Int := mrg (if t.k = 1 then [t.n] else []) (raisesOf prims t)
def freeNode (prims : List Pm) (inb : Bool) (F : Nat → List Int) (t : Tm) (i : Nat) : List Int := if inb then freeArgs F t i 0 t.args (freeHead prims t) else []
def freeAll (prims : List Pm) (inb : Nat → Bool) (L : List Tm) : Nat → Nat → List Int
  | 0, _ => []
  | i + 1, j => if j = i then (match L[i]? with | some t => freeNode prims (inb i) (freeAll prims inb L i) t i | none => []) else freeAll prims inb L i j
def freeOf (prims : List Pm) (L : List Tm) (root : Nat) : List Int := freeAll prims (below L root).1 L (root + 1) root
theorem ss_head (prims : List Pm) (t : Tm) : SS (freeHead prims t) := by
  unfold freeHead
  refine ss_mrg _ ?_
  split <;> simp [SS]
theorem ss_freeArgs (F : Nat → List Int) (t : Tm) (i : Nat) : ∀ (k : Nat) (l acc : List Int), SS acc → SS (freeArgs F t i k l acc)
  | _, [], _, h => h
  | k, a :: l, acc, h => by
    unfold freeArgs
    refine ss_freeArgs F t i (k + 1) l _ ?_
    split
    · exact h
    · exact ss_mrg _ h
theorem ss_freeNode (prims : List Pm) (inb : Bool) (F : Nat → List Int) (t : Tm) (i : Nat) : SS (freeNode prims inb F t i) := by
  unfold freeNode
  split
  · exact ss_freeArgs F t i 0 _ _ (ss_head prims t)
  · simp [SS]
theorem ss_freeAll (prims : List Pm) (inb : Nat → Bool) (L : List Tm) : ∀ (i j : Nat), SS (freeAll prims inb L i j)
  | 0, _ => by simp [freeAll, SS]
  | i + 1, j => by
    unfold freeAll
    split
    · split
      · exact ss_freeNode ..
      · simp [SS]
    · exact ss_freeAll prims inb L i j

/-! ### The form of a node; what Check tells -/
def keyOk (y : Ky) : Bool := y.k == 1 || y.k == 2 || (y.k == 3 && decide (y.t.length ≤ 65536))
def kindAt (L : List Tm) (a : Int) : Int := match L[a.toNat]? with | some u => u.k | none => 0
def fixGo (L : List Tm) : List Int → List Int → Bool
  | v :: vs, a :: as => !(decide (v < 0) || kindAt L a != 8) && fixGo L vs as
  | [], _ => true
  | _ :: _, [] => false
def fixOk (L : List Tm) (t : Tm) : Bool := if t.vars.length = 0 ∨ t.args.length ≠ t.vars.length + 1 then false else fixGo L t.vars t.args
def formed (L : List Tm) (t : Tm) : Bool :=
  if t.k = 1 then decide (t.args.length = 0 ∧ 0 ≤ t.n)
  else if t.k = 2 then decide (t.args.length = 0 ∧ -4611686018427387904 ≤ t.i ∧ t.i ≤ 4611686018427387903)
  else if t.k = 3 then decide (t.args.length = 0)
  else if t.k = 4 then decide (t.args.length = 0 ∧ t.t.length ≤ 65536)
  else if t.k = 5 then decide (1 ≤ t.args.length ∧ t.args.length ≤ 1024)
  else if t.k = 6 ∨ t.k = 7 ∨ t.k = 8 then decide (t.args.length = 1 ∧ 0 ≤ t.n)
  else if t.k = 9 then decide (t.args.length = 2)
  else if t.k = 10 ∨ t.k = 14 then decide (t.args.length = 2 ∧ 0 ≤ t.n)
  else if t.k = 11 then fixOk L t
  else if t.k = 12 then decide (t.args.length = t.keys.length + 1 ∨ t.args.length = t.keys.length + 2) && t.keys.all keyOk
  else if t.k = 13 then decide (t.args.length = 1)
  else decide (t.k = 15)
def primOk (prims : List Pm) (t : Tm) : Bool := decide (0 ≤ t.n) && (match prims[t.n.toNat]? with | some p => p.args == (t.args.length : Int) | none => false)
/-- Have the made nodes below a place their form? Do their primitives fit? -/
def formAll (inb : Nat → Bool) (L : List Tm) : Nat → Bool
  | 0 => true
  | i + 1 => formAll inb L i && (!inb i || (match L[i]? with | some t => formed L t | none => true))
def primAll (prims : List Pm) (inb : Nat → Bool) (L : List Tm) : Nat → Bool
  | 0 => true
  | i + 1 => primAll prims inb L i && (!inb i || (match L[i]? with | some t => decide (t.k ≠ 15) || primOk prims t | none => true))
def checkOf (prims : List Pm) (L : List Tm) (root : Int) : Int :=
  if root < 0 ∨ (L.length : Int) ≤ root then 110
  else if (below L root.toNat).2 = false then 110
  else if formAll (below L root.toNat).1 L (root.toNat + 1) = false then 110
  else if primAll prims (below L root.toNat).1 L (root.toNat + 1) = false then 112
  else if 262144 < L.length then 3
  else if freeOf prims L root.toNat = [] then 0
  else 111
theorem formAll_beyond (inb : Nat → Bool) (L : List Tm) (m : Nat) (h : ∀ j, inb j = true → j < m) : ∀ k, formAll inb L (m + k) = formAll inb L m
  | 0 => rfl
  | k + 1 => by
    show (formAll inb L (m + k) && _) = _
    rw [formAll_beyond inb L m h k]
    have : inb (m + k) = false := by
      cases hb : inb (m + k)
      · rfl
      · have := h _ hb; omega
    rw [show m.add k = m + k from rfl, this]; simp
theorem primAll_beyond (prims : List Pm) (inb : Nat → Bool) (L : List Tm) (m : Nat) (h : ∀ j, inb j = true → j < m) : ∀ k, primAll prims inb L (m + k) = primAll prims inb L m
  | 0 => rfl
  | k + 1 => by
    show (primAll prims inb L (m + k) && _) = _
    rw [primAll_beyond prims inb L m h k]
    have : inb (m + k) = false := by
      cases hb : inb (m + k)
      · rfl
      · have := h _ hb; omega
    rw [show m.add k = m + k from rfl, this]; simp
theorem formAll_false {inb : Nat → Bool} {L : List Tm} : ∀ {i m : Nat}, i ≤ m → formAll inb L i = false → formAll inb L m = false
  | i, m, h, hf => by
    obtain ⟨k, rfl⟩ : ∃ k, m = i + k := ⟨m - i, by omega⟩
    clear h
    induction k with
    | zero => exact hf
    | succ k ih =>
      show (formAll inb L (i + k) && _) = false
      rw [ih, Bool.false_and]
theorem primAll_false {prims : List Pm} {inb : Nat → Bool} {L : List Tm} : ∀ {i m : Nat}, i ≤ m → primAll prims inb L i = false → primAll prims inb L m = false
  | i, m, h, hf => by
    obtain ⟨k, rfl⟩ : ∃ k, m = i + k := ⟨m - i, by omega⟩
    clear h
    induction k with
    | zero => exact hf
    | succ k ih =>
      show (primAll prims inb L (i + k) && _) = false
      rw [ih, Bool.false_and]
end LamM

namespace CpsM
open LamM

structure Fl where
  k : Int
  n : Int
  m : Int
  i : Int
  b : Int
  t : List UInt8
  vars : List Int
  keys : List Ky
  args : List Int

/-- A node as the small language's: the same arguments. -/
def Fl.tm (f : Fl) : Tm := ⟨f.k, f.n, f.i, f.b, f.t, f.vars, f.keys, f.args⟩
def tms (L : List Fl) : List Tm := L.map Fl.tm
theorem tms_len (L : List Fl) : (tms L).length = L.length := by unfold tms; simp
theorem tms_at {L : List Fl} {i : Nat} {t : Fl} (h : L[i]? = some t) : (tms L)[i]? = some t.tm := by unfold tms; rw [List.getElem?_map, h]; rfl
theorem argsC_at {L : List Fl} {i : Nat} {t : Fl} (h : L[i]? = some t) : argsAt (tms L) i = t.args := by unfold argsAt; rw [tms_at h]; rfl
def belowC (L : List Fl) (root : Nat) : (Nat → Bool) × Bool := below (tms L) root
/-- Where all is well, a made node's arguments are lower. -/
theorem belowC_ok (L : List Fl) (root : Nat) (h : (belowC L root).2 = true) (i : Nat) (t : Fl) (ht : L[i]? = some t) (hm : (belowC L root).1 i = true) : ∀ a ∈ t.args, 0 ≤ a ∧ a < (i : Int) := by
  have := below_ok (tms L) root h i hm
  rw [argsC_at ht] at this
  exact this

/-! ### Atoms, moves -/
def atomB (k : Int) : Bool := decide (1 ≤ k) && decide (k ≤ 4)
def moveB (k : Int) : Bool := decide (5 ≤ k) && decide (k ≤ 14) && decide (k ≠ 10)
def kindC (L : List Fl) (a : Int) : Int := match L[a.toNat]? with | some u => u.k | none => 0
def atomsB (L : List Fl) (l : List Int) : Bool := l.all fun a => atomB (kindC L a)
def movesB (L : List Fl) (l : List Int) : Bool := l.all fun a => moveB (kindC L a)
theorem kindC_at {L : List Fl} {a : Int} {t : Fl} (h : L[a.toNat]? = some t) : kindC L a = t.k := by unfold kindC; rw [h]

/-! ### The form of a node -/
def parGo : List Int → List Int → Bool
  | _, [] => true
  | seen, v :: r => !(decide (v < 0) || seen.contains v) && parGo (seen ++ [v]) r
/-- May variables be a function's parameters? -/
def parOk (l : List Int) : Bool := parGo [] l && decide (l.length ≤ 64)
def fixGoC (L : List Fl) : List Int → List Int → Bool
  | v :: vs, a :: as => !(decide (v < 0) || kindC L a != 10) && fixGoC L vs as
  | [], _ => true
  | _ :: _, [] => false
def fixOkC (L : List Fl) (t : Fl) : Bool := decide (t.vars.length ≠ 0 ∧ t.args.length = t.vars.length + 1) && (movesB L (t.args.drop t.vars.length) && fixGoC L t.vars t.args)
def formedC (L : List Fl) (t : Fl) : Bool :=
  if t.k = 1 then decide (t.args.length = 0 ∧ 0 ≤ t.n)
  else if t.k = 2 then decide (t.args.length = 0 ∧ -4611686018427387904 ≤ t.i ∧ t.i ≤ 4611686018427387903)
  else if t.k = 3 then decide (t.args.length = 0)
  else if t.k = 4 then decide (t.args.length = 0 ∧ t.t.length ≤ 65536)
  else if t.k = 5 then decide (2 ≤ t.args.length ∧ t.args.length ≤ 1025 ∧ 0 ≤ t.n) && (atomsB L (t.args.take (t.args.length - 1)) && movesB L (t.args.drop (t.args.length - 1)))
  else if t.k = 6 ∨ t.k = 7 then decide (t.args.length = 2 ∧ 0 ≤ t.n ∧ 0 ≤ t.m) && (atomsB L (t.args.take 1) && movesB L (t.args.drop 1))
  else if t.k = 8 then decide (0 ≤ t.n)
  else if t.k = 9 then fixOkC L t
  else if t.k = 10 then decide (t.args.length = 1) && (parOk t.vars && movesB L t.args)
  else if t.k = 11 then decide (1 ≤ t.args.length ∧ t.args.length ≤ 65) && atomsB L t.args
  else if t.k = 12 then decide (t.args.length = 1 + t.keys.length ∨ t.args.length = 2 + t.keys.length) && (t.keys.all keyOk && (atomsB L (t.args.take 1) && movesB L (t.args.drop 1)))
  else if t.k = 13 ∨ t.k = 14 then decide (t.args.length = 1) && atomsB L t.args
  else false
/-- Has a primitive's node what its primitive wants? -/
def wantsOf (p : Pm) : Int := p.args + 1 + (if p.raises.length = 0 then 0 else 1)
def primOkC (prims : List Pm) (t : Fl) : Bool := decide (0 ≤ t.m) && (match prims[t.m.toNat]? with | some p => decide ((t.args.length : Int) = wantsOf p) | none => false)
/-- A primitive's arguments in their order, where it fits. -/
def orderC (prims : List Pm) (L : List Fl) (t : Fl) : Bool := decide (t.k ≠ 8) || !primOkC prims t || (match prims[t.m.toNat]? with | some p => atomsB L (t.args.take p.args.toNat) && movesB L (t.args.drop p.args.toNat) | none => true)
def formedP (prims : List Pm) (L : List Fl) (t : Fl) : Bool := formedC L t && orderC prims L t
def fitsC (prims : List Pm) (t : Fl) : Bool := decide (t.k ≠ 8) || primOkC prims t

/-! ### What holds of all made nodes below a place -/
def allC (P : Fl → Bool) (inb : Nat → Bool) (L : List Fl) : Nat → Bool
  | 0 => true
  | i + 1 => allC P inb L i && (!inb i || (match L[i]? with | some t => P t | none => true))
theorem allC_beyond (P : Fl → Bool) (inb : Nat → Bool) (L : List Fl) (m : Nat) (h : ∀ j, inb j = true → j < m) : ∀ k, allC P inb L (m + k) = allC P inb L m
  | 0 => rfl
  | k + 1 => by
    show (allC P inb L (m + k) && _) = _
    rw [allC_beyond P inb L m h k]
    have : inb (m + k) = false := by
      cases hb : inb (m + k)
      · rfl
      · have := h _ hb; omega
    rw [show m.add k = m + k from rfl, this]; simp
theorem allC_false {P : Fl → Bool} {inb : Nat → Bool} {L : List Fl} : ∀ {i m : Nat}, i ≤ m → allC P inb L i = false → allC P inb L m = false
  | i, m, h, hf => by
    obtain ⟨k, rfl⟩ : ∃ k, m = i + k := ⟨m - i, by omega⟩
    clear h
    induction k with
    | zero => exact hf
    | succ k ih =>
      show (allC P inb L (i + k) && _) = false
      rw [ih, Bool.false_and]

/-! ### Which variables are free -/
def bindsC (t : Fl) : List Int := if t.k = 5 ∨ t.k = 6 ∨ t.k = 7 ∨ t.k = 8 then [t.n] else if t.k = 9 ∨ t.k = 10 then t.vars else []
def freeArgsC (L : List Fl) (F : Nat → List Int) (t : Fl) (i : Nat) : List Int → List Int → List Int
  | [], acc => acc
  | a :: l, acc => freeArgsC L F t i l (if a < 0 ∨ (i : Int) ≤ a then acc else mrg acc (if atomB (kindC L a) then F a.toNat else wout (F a.toNat) (bindsC t)))
def freeHeadC (t : Fl) : List Int := if t.k = 1 then [t.n] else []
def freeNodeC (inb : Bool) (L : List Fl) (F : Nat → List Int) (t : Fl) (i : Nat) : List Int := if inb then freeArgsC L F t i t.args (freeHeadC t) else []
def freeAllC (inb : Nat → Bool) (L : List Fl) : Nat → Nat → List Int
  | 0, _ => []
  | i + 1, j => if j = i then (match L[i]? with | some t => freeNodeC (inb i) L (freeAllC inb L i) t i | none => []) else freeAllC inb L i j
def freeOfC (L : List Fl) (root : Nat) : List Int := freeAllC (belowC L root).1 L (root + 1) root
theorem ss_headC (t : Fl) : SS (freeHeadC t) := by
  unfold freeHeadC
  split <;> simp [SS]
theorem ss_freeArgsC (L : List Fl) (F : Nat → List Int) (t : Fl) (i : Nat) : ∀ (l acc : List Int), SS acc → SS (freeArgsC L F t i l acc)
  | [], _, h => h
  | a :: l, acc, h => by
    unfold freeArgsC
    refine ss_freeArgsC L F t i l _ ?_
    split
    · exact h
    · exact ss_mrg _ h
theorem ss_freeNodeC (inb : Bool) (L : List Fl) (F : Nat → List Int) (t : Fl) (i : Nat) : SS (freeNodeC inb L F t i) := by
  unfold freeNodeC
  split
  · exact ss_freeArgsC L F t i _ _ (ss_headC t)
  · simp [SS]
theorem ss_freeAllC (inb : Nat → Bool) (L : List Fl) : ∀ (i j : Nat), SS (freeAllC inb L i j)
  | 0, _ => by simp [freeAllC, SS]
  | i + 1, j => by
    unfold freeAllC
    split
    · split
      · exact ss_freeNodeC ..
      · simp [SS]
    · exact ss_freeAllC inb L i j

/-! ### What Check tells -/
def checkC (prims : List Pm) (L : List Fl) (root : Int) : Int :=
  if root < 0 ∨ (L.length : Int) ≤ root then 130
  else if moveB (kindC L root) = false then 130
  else if (belowC L root.toNat).2 = false then 130
  else if allC (formedP prims L) (belowC L root.toNat).1 L (root.toNat + 1) = false then 130
  else if allC (fitsC prims) (belowC L root.toNat).1 L (root.toNat + 1) = false then 112
  else if 262144 < L.length then 3
  else if freeOfC L root.toNat = [] then 0
  else 111
end CpsM

namespace LamM

theorem nodup_sub : ∀ (l m : List Int), SS l → (∀ x ∈ l, x ∈ m) → l.length ≤ m.length
  | [], _, _, _ => Nat.zero_le _
  | x :: l, m, hp, hs => by
    obtain ⟨h1, h2⟩ := ss_cons.1 hp
    have hx := hs x List.mem_cons_self
    have := nodup_sub l (m.erase x) h2 fun y hy => by
      have := h1 y hy
      exact (List.mem_erase_of_ne (by omega)).2 (hs y (List.mem_cons_of_mem _ hy))
    rw [List.length_erase_of_mem hx] at this
    have := List.length_pos_of_mem hx
    simp; omega
/-- Where a free variable comes from: a node, or what primitives raise. -/
def pool (L : List Tm) : List Int := L.map (·.n) ++ [1, 2, 3, 4, 5, 6, 7, 8]
theorem pool_len (L : List Tm) : (pool L).length = L.length + 8 := by simp [pool]
/-- A set of such. -/
structure In (L : List Tm) (l : List Int) : Prop where
  ss : SS l
  sub : ∀ x ∈ l, x ∈ pool L
theorem In.len {L : List Tm} {l : List Int} (h : In L l) : l.length ≤ L.length + 8 := by
  have := nodup_sub l _ h.ss h.sub
  rw [pool_len] at this; exact this
theorem In.nil (L : List Tm) : In L [] := ⟨by simp [SS], fun x h => by cases h⟩
theorem In.mrg {L : List Tm} {a b : List Int} (ha : In L a) (hb : ∀ x ∈ b, x ∈ pool L) : In L (mrg a b) :=
  ⟨ss_mrg _ ha.ss, fun x hx => ((mem_mrg x _ _).1 hx).elim (ha.sub x) (hb x)⟩
theorem In.ins {L : List Tm} {a : List Int} {v : Int} (ha : In L a) (hv : v ∈ pool L) : In L (ins v a) :=
  ⟨ss_ins v ha.ss, fun x hx => ((mem_ins v x a).1 hx).elim (fun h => h ▸ hv) (ha.sub x)⟩
theorem wout_sub {s b : List Int} {x : Int} (h : x ∈ wout s b) : x ∈ s := (List.mem_filter.1 h).1
theorem In.wout {L : List Tm} {s : List Int} (hs : In L s) (b : List Int) : In L (wout s b) := ⟨ss_wout b hs.ss, fun x hx => hs.sub x (wout_sub hx)⟩
/-- What primitives raise is small. -/
def Small (prims : List Pm) : Prop := ∀ p ∈ prims, SS p.raises ∧ ∀ x ∈ p.raises, 1 ≤ x ∧ x ≤ 8
theorem small_pool {L : List Tm} {x : Int} (h : 1 ≤ x ∧ x ≤ 8) : x ∈ pool L := by
  unfold pool
  refine List.mem_append_right _ ?_
  obtain ⟨h1, h2⟩ := h
  rcases (by omega : x = 1 ∨ x = 2 ∨ x = 3 ∨ x = 4 ∨ x = 5 ∨ x = 6 ∨ x = 7 ∨ x = 8) with rfl | rfl | rfl | rfl | rfl | rfl | rfl | rfl <;> decide
theorem node_pool {L : List Tm} {t : Tm} (h : t ∈ L) : t.n ∈ pool L := List.mem_append_left _ (List.mem_map.2 ⟨t, h, rfl⟩)
theorem raises_in {prims : List Pm} (hp : Small prims) (L : List Tm) (t : Tm) : In L (raisesOf prims t) := by
  unfold raisesOf
  split
  · split
    · exact In.nil L
    · split
      · next p h =>
        obtain ⟨h1, h2⟩ := hp p (List.mem_of_getElem? h)
        exact ⟨h1, fun x hx => small_pool (h2 x hx)⟩
      · exact In.nil L
  · exact In.nil L
theorem head_in {prims : List Pm} (hp : Small prims) {L : List Tm} {t : Tm} (ht : t ∈ L) : In L (freeHead prims t) := by
  unfold freeHead
  refine In.mrg ?_ (raises_in hp L t).sub
  split
  · exact ⟨by simp [SS], fun x hx => by rw [List.mem_singleton.1 hx]; exact node_pool ht⟩
  · exact In.nil L
theorem args_in {L : List Tm} {F : Nat → List Int} (hF : ∀ j, In L (F j)) (t : Tm) (i : Nat) : ∀ (k : Nat) (l acc : List Int), In L acc → In L (freeArgs F t i k l acc)
  | _, [], _, h => h
  | k, a :: l, acc, h => by
    unfold freeArgs
    refine args_in hF t i (k + 1) l _ ?_
    split
    · exact h
    · exact h.mrg ((hF _).wout _).sub
theorem node_in {prims : List Pm} (hp : Small prims) {L : List Tm} {F : Nat → List Int} (hF : ∀ j, In L (F j)) (inb : Bool) {t : Tm} (ht : t ∈ L) (i : Nat) : In L (freeNode prims inb F t i) := by
  unfold freeNode
  split
  · exact args_in hF t i 0 _ _ (head_in hp ht)
  · exact In.nil L
theorem all_in {prims : List Pm} (hp : Small prims) (inb : Nat → Bool) (L : List Tm) : ∀ (i j : Nat), In L (freeAll prims inb L i j)
  | 0, _ => In.nil L
  | i + 1, j => by
    unfold freeAll
    split
    · split
      · next t h => exact node_in hp (all_in hp inb L i) _ (List.mem_of_getElem? h) i
      · exact In.nil L
    · exact all_in hp inb L i j
/-- Steps of the node's head and arguments. -/
theorem head_var {prims : List Pm} {t : Tm} (h : t.k = 1) : freeHead prims t = [t.n] := by
  unfold freeHead raisesOf
  rw [if_pos h, if_neg (by omega)]; rfl
theorem head_prim {prims : List Pm} (hp : Small prims) {t : Tm} {p : Pm} (h : t.k = 15) (h0 : 0 ≤ t.n) (hg : prims[t.n.toNat]? = some p) : freeHead prims t = p.raises := by
  unfold freeHead raisesOf
  rw [if_neg (by omega), if_pos h, if_neg (by omega), hg]
  exact mrg_nil_left (hp p (List.mem_of_getElem? hg)).1
theorem head_prim_no {prims : List Pm} {t : Tm} (h : t.k = 15) (h0 : t.n < 0 ∨ (prims.length : Int) ≤ t.n) : freeHead prims t = [] := by
  unfold freeHead raisesOf
  rw [if_neg (by omega), if_pos h]
  split
  · rfl
  · rw [List.getElem?_eq_none (by omega)]; rfl
theorem head_other {prims : List Pm} {t : Tm} (h1 : t.k ≠ 1) (h2 : t.k ≠ 15) : freeHead prims t = [] := by
  unfold freeHead raisesOf
  rw [if_neg h1, if_neg h2]; rfl
theorem args_step {F : Nat → List Int} {t : Tm} {i k : Nat} {a : Int} {l acc : List Int} : freeArgs F t i k (a :: l) acc = freeArgs F t i (k + 1) l (if a < 0 ∨ (i : Int) ≤ a then acc else mrg acc (wout (F a.toNat) (boundAt t k))) := rfl
theorem mrgw_step {acc b l : List Int} {x : Int} : mrg acc (wout (x :: l) b) = if b.contains x then mrg acc (wout l b) else mrg (ins x acc) (wout l b) := by
  unfold wout
  rw [List.filter_cons]
  cases b.contains x <;> rfl
theorem all_last {prims : List Pm} {inb : Nat → Bool} {L : List Tm} {i : Nat} {t : Tm} (h : L[i]? = some t) : freeAll prims inb L (i + 1) i = freeNode prims (inb i) (freeAll prims inb L i) t i := by
  show (if i = i then _ else _) = _
  rw [if_pos rfl, h]
theorem all_other {prims : List Pm} {inb : Nat → Bool} {L : List Tm} {i j : Nat} (h : j ≠ i) : freeAll prims inb L (i + 1) j = freeAll prims inb L i j := by
  show (if j = i then _ else _) = _
  rw [if_neg h]
theorem all_beyond {prims : List Pm} {inb : Nat → Bool} {L : List Tm} : ∀ {i j : Nat}, i ≤ j → freeAll prims inb L i j = []
  | 0, _, _ => rfl
  | i + 1, j, h => by rw [all_other (by omega)]; exact all_beyond (by omega)
end LamM

namespace CpsM
open LamM

/-- A set of numbers of nodes. -/
theorem node_poolC {L : List Fl} {t : Fl} (h : t ∈ L) : t.n ∈ pool (tms L) :=
  node_pool (L := tms L) (t := t.tm) (List.mem_map.2 ⟨t, h, rfl⟩)
theorem head_inC {L : List Fl} {t : Fl} (ht : t ∈ L) : In (tms L) (freeHeadC t) := by
  unfold freeHeadC
  split
  · exact ⟨by simp [SS], fun x hx => by rw [List.mem_singleton.1 hx]; exact node_poolC ht⟩
  · exact In.nil _
theorem args_inC {L : List Fl} {F : Nat → List Int} (hF : ∀ j, In (tms L) (F j)) (t : Fl) (i : Nat) : ∀ (l acc : List Int), In (tms L) acc → In (tms L) (freeArgsC L F t i l acc)
  | [], _, h => h
  | a :: l, acc, h => by
    unfold freeArgsC
    refine args_inC hF t i l _ ?_
    split
    · exact h
    · split
      · exact h.mrg (hF _).sub
      · exact h.mrg ((hF _).wout _).sub
theorem node_inC {L : List Fl} {F : Nat → List Int} (hF : ∀ j, In (tms L) (F j)) (inb : Bool) {t : Fl} (ht : t ∈ L) (i : Nat) : In (tms L) (freeNodeC inb L F t i) := by
  unfold freeNodeC
  split
  · exact args_inC hF t i _ _ (head_inC ht)
  · exact In.nil _
theorem all_inC (inb : Nat → Bool) (L : List Fl) : ∀ (i j : Nat), In (tms L) (freeAllC inb L i j)
  | 0, _ => In.nil _
  | i + 1, j => by
    unfold freeAllC
    split
    · split
      · next t h => exact node_inC (all_inC inb L i) _ (List.mem_of_getElem? h) i
      · exact In.nil _
    · exact all_inC inb L i j
theorem args_stepC {L : List Fl} {F : Nat → List Int} {t : Fl} {i : Nat} {a : Int} {l acc : List Int} : freeArgsC L F t i (a :: l) acc = freeArgsC L F t i l (if a < 0 ∨ (i : Int) ≤ a then acc else mrg acc (if atomB (kindC L a) then F a.toNat else wout (F a.toNat) (bindsC t))) := rfl
theorem all_lastC {inb : Nat → Bool} {L : List Fl} {i : Nat} {t : Fl} (h : L[i]? = some t) : freeAllC inb L (i + 1) i = freeNodeC (inb i) L (freeAllC inb L i) t i := by
  show (if i = i then _ else _) = _
  rw [if_pos rfl, h]
theorem all_otherC {inb : Nat → Bool} {L : List Fl} {i j : Nat} (h : j ≠ i) : freeAllC inb L (i + 1) j = freeAllC inb L i j := by
  show (if j = i then _ else _) = _
  rw [if_neg h]
theorem all_beyondC {inb : Nat → Bool} {L : List Fl} : ∀ {i j : Nat}, i ≤ j → freeAllC inb L i j = []
  | 0, _, _ => rfl
  | i + 1, j, h => by rw [all_otherC (by omega)]; exact all_beyondC (by omega)
def updS (F : Nat → List Int) (i : Nat) (l : List Int) : Nat → List Int := fun j => if j = i then l else F j
theorem updS_at {F : Nat → List Int} {i : Nat} {l : List Int} : updS F i l i = l := if_pos rfl
theorem updS_ne {F : Nat → List Int} {i j : Nat} {l : List Int} (h : j ≠ i) : updS F i l j = F j := if_neg h
theorem updS_two {F : Nat → List Int} {i : Nat} {l m : List Int} : updS (updS F i l) i m = updS F i m := by
  funext j
  by_cases h : j = i
  · subst h; rw [updS_at, updS_at]
  · rw [updS_ne h, updS_ne h, updS_ne h]
theorem updS_id {F : Nat → List Int} {i : Nat} (h : F i = []) : updS F i [] = F := by
  funext j
  by_cases e : j = i
  · subst e; rw [updS_at, h]
  · rw [updS_ne e]
theorem all_nodeC {inb : Nat → Bool} {L : List Fl} {i : Nat} {t : Fl} (h : L[i]? = some t) (hb : inb i = true) :
    freeAllC inb L (i + 1) = updS (freeAllC inb L i) i (freeArgsC L (freeAllC inb L i) t i t.args (freeHeadC t)) := by
  funext j
  by_cases e : j = i
  · subst e; rw [updS_at, all_lastC h]; unfold freeNodeC; rw [if_pos hb]
  · rw [updS_ne e, all_otherC e]
theorem all_skipC {inb : Nat → Bool} {L : List Fl} {i : Nat} {t : Fl} (h : L[i]? = some t) (hb : inb i = false) :
    freeAllC inb L (i + 1) = freeAllC inb L i := by
  funext j
  by_cases e : j = i
  · subst e; rw [all_lastC h, all_beyondC (Nat.le_refl _)]; unfold freeNodeC; rw [hb]; rfl
  · rw [all_otherC e]
/-- The reference puts one variable after the other. -/
theorem mrg_step {acc l : List Int} {x : Int} : mrg acc (x :: l) = mrg (ins x acc) l := rfl
theorem wout_step {acc b l : List Int} {x : Int} : mrg acc (wout (x :: l) b) = if b.contains x then mrg acc (wout l b) else mrg (ins x acc) (wout l b) := mrgw_step
/-- What may go in of a lower node: all of an atom's, what is not bound of a move's. -/
def sel (atom : Bool) (b s : List Int) : List Int := if atom then s else wout s b
theorem sel_nil {atom : Bool} {b acc : List Int} : mrg acc (sel atom b []) = acc := by unfold sel; cases atom <;> rfl
theorem sel_step {atom : Bool} {b acc l : List Int} {x : Int} : mrg acc (sel atom b (x :: l)) = mrg (if atom || !b.contains x then ins x acc else acc) (sel atom b l) := by
  cases atom
  · show mrg acc (wout (x :: l) b) = mrg (if (false || !b.contains x) = true then ins x acc else acc) (wout l b)
    rw [wout_step]
    cases b.contains x <;> rfl
  · rfl
theorem sel_in {L : List Tm} {s b : List Int} (atom : Bool) (h : In L s) : In L (sel atom b s) := by
  unfold sel
  cases atom
  · exact h.wout b
  · exact h
theorem parGo_all {l : List Int} : parGo [] l = true ↔ (∀ x ∈ l, 0 ≤ x) ∧ l.Nodup := by
  have key : ∀ (l seen : List Int), parGo seen l = true ↔ (∀ x ∈ l, 0 ≤ x ∧ x ∉ seen) ∧ l.Nodup := by
    intro l
    induction l with
    | nil => intro seen; simp [parGo]
    | cons v r ih =>
      intro seen
      simp only [parGo, Bool.and_eq_true, Bool.not_eq_true', Bool.or_eq_false_iff, decide_eq_false_iff_not, List.nodup_cons, List.mem_cons, ih]
      rw [show (seen.contains v = false) ↔ v ∉ seen by rw [← Bool.not_eq_true, List.contains_iff_mem]]
      constructor
      · rintro ⟨⟨h1, h2⟩, h3, h4⟩
        refine ⟨fun x hx => ?_, fun hv => ?_, h4⟩
        · rcases hx with rfl | hx
          · exact ⟨by omega, h2⟩
          · exact ⟨(h3 x hx).1, fun hs => (h3 x hx).2 (List.mem_append_left _ hs)⟩
        · exact (h3 v hv).2 (List.mem_append_right _ (by simp))
      · rintro ⟨h1, h2, h3⟩
        refine ⟨⟨by have := (h1 v (.inl rfl)).1; omega, (h1 v (.inl rfl)).2⟩, fun x hx => ⟨(h1 x (.inr hx)).1, fun hs => ?_⟩, h3⟩
        rcases List.mem_append.1 hs with hs | hs
        · exact (h1 x (.inr hx)).2 hs
        · rw [List.mem_singleton.1 hs] at hx; exact h2 hx
  simpa using key l []
end CpsM

namespace CloM
open LamM CpsM

/-! ### Which nodes are made -/
inductive Made (L : List Tm) (S : Nat → Prop) : Nat → Prop
  | base {j : Nat} : S j → Made L S j
  | step {i : Nat} {a : Int} : Made L S i → a ∈ argsAt L i → 0 ≤ a → a < (i : Int) → Made L S a.toNat
theorem Made.mono {L : List Tm} {S T : Nat → Prop} (h : ∀ j, S j → Made L T j) : ∀ {j : Nat}, Made L S j → Made L T j := by
  intro j hj
  induction hj with
  | base hs => exact h _ hs
  | step _ ha h0 h1 ih => exact ih.step ha h0 h1
theorem stepA_iff (i : Nat) : ∀ (l : List Int) (s : (Nat → Bool) × Bool) (j : Nat), (stepA i l s).1 j = true ↔ s.1 j = true ∨ ∃ a ∈ l, 0 ≤ a ∧ a < (i : Int) ∧ a.toNat = j
  | [], s, j => by simp [stepA]
  | a :: l, s, j => by
    unfold stepA
    rw [stepA_iff i l _ j]
    by_cases hc : a < 0 ∨ (i : Int) ≤ a
    · rw [if_pos hc]
      constructor
      · rintro (h | ⟨x, hx, h⟩)
        · exact .inl h
        · exact .inr ⟨x, List.mem_cons_of_mem _ hx, h⟩
      · rintro (h | ⟨x, hx, h1, h2, h3⟩)
        · exact .inl h
        · rcases List.mem_cons.1 hx with rfl | hx
          · omega
          · exact .inr ⟨x, hx, h1, h2, h3⟩
    · rw [if_neg hc]
      constructor
      · rintro (h | ⟨x, hx, h⟩)
        · change upd s.1 a.toNat j = true at h
          unfold upd at h
          rcases Bool.or_eq_true_iff.1 h with h | h
          · exact .inr ⟨a, List.mem_cons_self, by omega, by omega, (beq_iff_eq.1 h).symm⟩
          · exact .inl h
        · exact .inr ⟨x, List.mem_cons_of_mem _ hx, h⟩
      · rintro (h | ⟨x, hx, h1, h2, h3⟩)
        · refine .inl ?_
          show upd s.1 a.toNat j = true
          unfold upd
          rw [h, Bool.or_true]
        · rcases List.mem_cons.1 hx with rfl | hx
          · refine .inl ?_
            show upd s.1 x.toNat j = true
            unfold upd
            rw [h3, beq_self_eq_true, Bool.true_or]
          · exact .inr ⟨x, hx, h1, h2, h3⟩
theorem stepA_all (i : Nat) : ∀ (l : List Int) (s : (Nat → Bool) × Bool), (stepA i l s).2 = true ↔ s.2 = true ∧ ∀ a ∈ l, 0 ≤ a ∧ a < (i : Int)
  | [], s => by simp [stepA]
  | a :: l, s => by
    unfold stepA
    rw [stepA_all i l _]
    by_cases hc : a < 0 ∨ (i : Int) ≤ a
    · rw [if_pos hc]
      constructor
      · rintro ⟨h, _⟩; cases h
      · rintro ⟨_, h⟩
        have := h a List.mem_cons_self
        omega
    · rw [if_neg hc]
      constructor
      · rintro ⟨h, h2⟩
        refine ⟨h, fun x hx => ?_⟩
        rcases List.mem_cons.1 hx with rfl | hx
        · omega
        · exact h2 x hx
      · rintro ⟨h, h2⟩
        exact ⟨h, fun x hx => h2 x (List.mem_cons_of_mem _ hx)⟩
/-- What the marks come to: where what is marked from k on has marked its arguments. -/
theorem belowF_iff (L : List Tm) : ∀ (k : Nat) (s : (Nat → Bool) × Bool), (∀ i, k ≤ i → s.1 i = true → ∀ a ∈ argsAt L i, 0 ≤ a → a < (i : Int) → s.1 a.toNat = true) →
    (∀ j, (belowF L k s).1 j = true ↔ Made L (fun j => s.1 j = true) j) ∧ ((belowF L k s).2 = true ↔ s.2 = true ∧ ∀ i, i < k → Made L (fun j => s.1 j = true) i → ∀ a ∈ argsAt L i, 0 ≤ a ∧ a < (i : Int))
  | 0, s, hc => by
    refine ⟨fun j => ⟨fun h => .base h, fun h => ?_⟩, ⟨fun h => ⟨h, fun i hi => by omega⟩, fun h => h.1⟩⟩
    show s.1 j = true
    induction h with
    | base h => exact h
    | step _ ha h0 h1 ih => exact hc _ (Nat.zero_le _) ih _ ha h0 h1
  | k + 1, s, hc => by
    unfold belowF
    by_cases hk : s.1 k = true
    · rw [if_pos hk]
      have hq : ∀ j, Made L (fun j => (stepA k (argsAt L k) s).1 j = true) j ↔ Made L (fun j => s.1 j = true) j := fun j => by
        refine ⟨Made.mono fun j hj => ?_, Made.mono fun j hj => .base ((stepA_iff k _ s j).2 (.inl hj))⟩
        rcases (stepA_iff k _ s j).1 hj with h | ⟨a, ha, h0, h1, rfl⟩
        · exact .base h
        · exact Made.step (.base hk) ha h0 h1
      obtain ⟨i1, i2⟩ := belowF_iff L k (stepA k (argsAt L k) s) (fun i hi hs a ha h0 h1 => by
        rw [stepA_iff]
        rw [stepA_hi k _ s i hi] at hs
        rcases Nat.lt_or_ge k i with h | h
        · exact .inl (hc i h hs a ha h0 h1)
        · obtain rfl : i = k := by omega
          exact .inr ⟨a, ha, h0, h1, rfl⟩)
      refine ⟨fun j => (i1 j).trans (hq j), ?_⟩
      rw [i2, stepA_all]
      constructor
      · rintro ⟨⟨h1, h2⟩, h3⟩
        refine ⟨h1, fun i hi hm => ?_⟩
        rcases Nat.lt_or_ge i k with h | h
        · exact h3 i h ((hq i).2 hm)
        · obtain rfl : i = k := by omega
          exact h2
      · rintro ⟨h1, h2⟩
        exact ⟨⟨h1, h2 k (Nat.lt_succ_self k) (.base hk)⟩, fun i hi hm => h2 i (Nat.lt_succ_of_lt hi) ((hq i).1 hm)⟩
    · rw [if_neg hk]
      obtain ⟨i1, i2⟩ := belowF_iff L k s (fun i hi hs => by
        rcases Nat.lt_or_ge k i with h | h
        · exact hc i h hs
        · obtain rfl : i = k := by omega
          exact absurd hs hk)
      refine ⟨i1, i2.trans ⟨fun h => ⟨h.1, fun i hi hm => ?_⟩, fun h => ⟨h.1, fun i hi => h.2 i (Nat.lt_succ_of_lt hi)⟩⟩⟩
      rcases Nat.lt_or_ge i k with h3 | h3
      · exact h.2 i h3 hm
      · obtain rfl : i = k := by omega
        exact absurd ((belowF_hi L i s i (Nat.le_succ i)).symm.trans ((i1 i).2 hm)) hk
/-- The marks of several roots. -/
def rootsB (roots : List Int) : Nat → Bool := fun j => roots.contains (j : Int)
def belowM (L : List Tm) (roots : List Int) : (Nat → Bool) × Bool := belowF L L.length (rootsB roots, true)
theorem below_iff (L : List Tm) (root : Nat) : (∀ j, (below L root).1 j = true ↔ Made L (fun j => j = root) j) ∧ ((below L root).2 = true ↔ ∀ i, Made L (fun j => j = root) i → ∀ a ∈ argsAt L i, 0 ≤ a ∧ a < (i : Int)) := by
  have hu : ∀ j, upd (fun _ => false) root j = true ↔ j = root := fun j => by unfold upd; simp
  have hq : ∀ j, Made L (fun j => upd (fun _ => false) root j = true) j ↔ Made L (fun j => j = root) j := fun j => ⟨Made.mono fun j h => .base ((hu j).1 h), Made.mono fun j h => .base ((hu j).2 h)⟩
  obtain ⟨i1, i2⟩ := belowF_iff L (root + 1) (upd (fun _ => false) root, true) (fun i hi hs => by have := (hu i).1 hs; omega)
  refine ⟨fun j => (i1 j).trans (hq j), i2.trans ⟨fun h i hm => ?_, fun h => ⟨rfl, fun i _ hm => h i ((hq i).1 hm)⟩⟩⟩
  have := below_le L root i ((i1 i).2 ((hq i).2 hm))
  exact h.2 i (by omega) ((hq i).2 hm)
theorem belowM_iff (L : List Tm) (roots : List Int) (hr : ∀ r ∈ roots, 0 ≤ r ∧ r < (L.length : Int)) : (∀ j, (belowM L roots).1 j = true ↔ ∃ r ∈ roots, Made L (fun j => j = r.toNat) j) ∧
    ((belowM L roots).2 = true ↔ ∀ r ∈ roots, ∀ i, Made L (fun j => j = r.toNat) i → ∀ a ∈ argsAt L i, 0 ≤ a ∧ a < (i : Int)) := by
  have hu : ∀ j, rootsB roots j = true ↔ ∃ r ∈ roots, j = r.toNat := fun j => by
    unfold rootsB
    rw [List.contains_iff_mem]
    constructor
    · intro h; exact ⟨_, h, by simp⟩
    · rintro ⟨r, h, rfl⟩
      have := hr r h
      rwa [Int.toNat_of_nonneg this.1]
  have hq : ∀ j, Made L (fun j => rootsB roots j = true) j ↔ ∃ r ∈ roots, Made L (fun j => j = r.toNat) j := fun j => by
    constructor
    · intro h
      induction h with
      | base h => obtain ⟨r, h1, h2⟩ := (hu _).1 h; exact ⟨r, h1, .base h2⟩
      | step _ ha h0 h1 ih => obtain ⟨r, h2, h3⟩ := ih; exact ⟨r, h2, h3.step ha h0 h1⟩
    · rintro ⟨r, h, hm⟩
      exact Made.mono (fun j hj => .base ((hu j).2 ⟨r, h, hj⟩)) hm
  obtain ⟨i1, i2⟩ := belowF_iff L L.length (rootsB roots, true) (fun i hi hs => by
    obtain ⟨r, h1, h2⟩ := (hu i).1 hs
    have := hr r h1
    omega)
  refine ⟨fun j => (i1 j).trans (hq j), i2.trans ⟨fun h r hr1 i hm => ?_, fun h => ⟨rfl, fun i _ hm => ?_⟩⟩⟩
  · have hin : i < L.length := by
      clear h i1 i2
      induction hm with
      | base h => have := hr r hr1; omega
      | step _ _ _ h1 ih => omega
    exact h.2 i hin ((hq i).2 ⟨r, hr1, hm⟩)
  · obtain ⟨r, h1, h2⟩ := (hq i).1 hm
    exact h r h1 i h2
end CloM

namespace CloM
open LamM CpsM
def bindsG (t : Fl) : List Int := if t.k = 5 ∨ t.k = 6 ∨ t.k = 7 ∨ t.k = 8 then [t.n] else []
def freeArgsG (L : List Fl) (F : Nat → List Int) (t : Fl) (i : Nat) : List Int → List Int → List Int
  | [], acc => acc
  | a :: l, acc => freeArgsG L F t i l (if a < 0 ∨ (i : Int) ≤ a then acc else mrg acc (if atomB (kindC L a) then F a.toNat else wout (F a.toNat) (bindsG t)))
def freeNodeG (inb : Bool) (L : List Fl) (F : Nat → List Int) (t : Fl) (i : Nat) : List Int := if inb then freeArgsG L F t i t.args (freeHeadC t) else []
def freeAllG (inb : Nat → Bool) (L : List Fl) : Nat → Nat → List Int
  | 0, _ => []
  | i + 1, j => if j = i then (match L[i]? with | some t => freeNodeG (inb i) L (freeAllG inb L i) t i | none => []) else freeAllG inb L i j
def freeOfG (L : List Fl) (root : Nat) : List Int := freeAllG (belowC L root).1 L (root + 1) root
theorem ss_freeArgsG (L : List Fl) (F : Nat → List Int) (t : Fl) (i : Nat) : ∀ (l acc : List Int), SS acc → SS (freeArgsG L F t i l acc)
  | [], _, h => h
  | a :: l, acc, h => by
    unfold freeArgsG
    refine ss_freeArgsG L F t i l _ ?_
    split
    · exact h
    · exact ss_mrg _ h
theorem ss_freeNodeG (inb : Bool) (L : List Fl) (F : Nat → List Int) (t : Fl) (i : Nat) : SS (freeNodeG inb L F t i) := by
  unfold freeNodeG
  split
  · exact ss_freeArgsG L F t i _ _ (ss_headC t)
  · simp [SS]
theorem ss_freeAllG (inb : Nat → Bool) (L : List Fl) : ∀ (i j : Nat), SS (freeAllG inb L i j)
  | 0, _ => by simp [freeAllG, SS]
  | i + 1, j => by
    unfold freeAllG
    split
    · split
      · exact ss_freeNodeG ..
      · simp [SS]
    · exact ss_freeAllG inb L i j

theorem args_inG {L : List Fl} {F : Nat → List Int} (hF : ∀ j, In (tms L) (F j)) (t : Fl) (i : Nat) : ∀ (l acc : List Int), In (tms L) acc → In (tms L) (freeArgsG L F t i l acc)
  | [], _, h => h
  | a :: l, acc, h => by
    unfold freeArgsG
    refine args_inG hF t i l _ ?_
    split
    · exact h
    · split
      · exact h.mrg (hF _).sub
      · exact h.mrg ((hF _).wout _).sub
theorem node_inG {L : List Fl} {F : Nat → List Int} (hF : ∀ j, In (tms L) (F j)) (inb : Bool) {t : Fl} (ht : t ∈ L) (i : Nat) : In (tms L) (freeNodeG inb L F t i) := by
  unfold freeNodeG
  split
  · exact args_inG hF t i _ _ (head_inC ht)
  · exact In.nil _
theorem all_inG (inb : Nat → Bool) (L : List Fl) : ∀ (i j : Nat), In (tms L) (freeAllG inb L i j)
  | 0, _ => In.nil _
  | i + 1, j => by
    unfold freeAllG
    split
    · split
      · next t h => exact node_inG (all_inG inb L i) _ (List.mem_of_getElem? h) i
      · exact In.nil _
    · exact all_inG inb L i j
theorem args_stepG {L : List Fl} {F : Nat → List Int} {t : Fl} {i : Nat} {a : Int} {l acc : List Int} : freeArgsG L F t i (a :: l) acc = freeArgsG L F t i l (if a < 0 ∨ (i : Int) ≤ a then acc else mrg acc (if atomB (kindC L a) then F a.toNat else wout (F a.toNat) (bindsG t))) := rfl
theorem all_lastG {inb : Nat → Bool} {L : List Fl} {i : Nat} {t : Fl} (h : L[i]? = some t) : freeAllG inb L (i + 1) i = freeNodeG (inb i) L (freeAllG inb L i) t i := by
  show (if i = i then _ else _) = _
  rw [if_pos rfl, h]
theorem all_otherG {inb : Nat → Bool} {L : List Fl} {i j : Nat} (h : j ≠ i) : freeAllG inb L (i + 1) j = freeAllG inb L i j := by
  show (if j = i then _ else _) = _
  rw [if_neg h]
theorem all_beyondG {inb : Nat → Bool} {L : List Fl} : ∀ {i j : Nat}, i ≤ j → freeAllG inb L i j = []
  | 0, _, _ => rfl
  | i + 1, j, h => by rw [all_otherG (by omega)]; exact all_beyondG (by omega)
theorem all_nodeG {inb : Nat → Bool} {L : List Fl} {i : Nat} {t : Fl} (h : L[i]? = some t) (hb : inb i = true) :
    freeAllG inb L (i + 1) = updS (freeAllG inb L i) i (freeArgsG L (freeAllG inb L i) t i t.args (freeHeadC t)) := by
  funext j
  by_cases e : j = i
  · subst e; rw [updS_at, all_lastG h]; unfold freeNodeG; rw [if_pos hb]
  · rw [updS_ne e, all_otherG e]
theorem all_skipG {inb : Nat → Bool} {L : List Fl} {i : Nat} {t : Fl} (h : L[i]? = some t) (hb : inb i = false) :
    freeAllG inb L (i + 1) = freeAllG inb L i := by
  funext j
  by_cases e : j = i
  · subst e; rw [all_lastG h, all_beyondG (Nat.le_refl _)]; unfold freeNodeG; rw [hb]; rfl
  · rw [all_otherG e]
end CloM

namespace CloM
open LamM CpsM

/-- A function of a flat program. -/
structure FnD where
  params : List Int
  body : Int

/-! ### The form of a node -/
def moveG (k : Int) : Bool := decide (5 ≤ k) && decide (k ≤ 15) && decide (k ≠ 9) && decide (k ≠ 10)
def moveH (k : Int) : Bool := moveB (if k = 15 then 13 else k)
theorem moveH_eq {k : Int} (h : k ≠ 9) : moveH k = moveG k := by
  unfold moveH moveG moveB
  by_cases h1 : k = 15
  · subst h1; rfl
  · rw [if_neg h1, decide_eq_true h, Bool.and_true]
    by_cases h2 : 5 ≤ k
    · by_cases h3 : k ≤ 14
      · rw [decide_eq_true h3, decide_eq_true (show k ≤ 15 by omega)]
      · rw [decide_eq_false h3, decide_eq_false (show ¬ k ≤ 15 by omega)]
    · rw [decide_eq_false h2]; rfl
def movesG (L : List Fl) (l : List Int) : Bool := l.all fun a => moveG (kindC L a)
/-- The reference's form. -/
def formedS (L : List Fl) (t : Fl) : Bool :=
  if t.k = 1 then decide (t.args.length = 0 ∧ 0 ≤ t.n)
  else if t.k = 2 then decide (t.args.length = 0 ∧ -4611686018427387904 ≤ t.i ∧ t.i ≤ 4611686018427387903)
  else if t.k = 3 then decide (t.args.length = 0)
  else if t.k = 4 then decide (t.args.length = 0 ∧ t.t.length ≤ 65536)
  else if t.k = 5 then decide (2 ≤ t.args.length ∧ t.args.length ≤ 1025 ∧ 0 ≤ t.n) && (atomsB L (t.args.take (t.args.length - 1)) && movesG L (t.args.drop (t.args.length - 1)))
  else if t.k = 6 ∨ t.k = 7 then decide (t.args.length = 2 ∧ 0 ≤ t.n ∧ 0 ≤ t.m) && (atomsB L (t.args.take 1) && movesG L (t.args.drop 1))
  else if t.k = 8 then decide (0 ≤ t.n)
  else if t.k = 15 then decide (0 ≤ t.m ∧ t.args.length ≤ 65) && atomsB L t.args
  else if t.k = 11 then decide (1 ≤ t.args.length ∧ t.args.length ≤ 65) && atomsB L t.args
  else if t.k = 12 then decide (t.args.length = 1 + t.keys.length ∨ t.args.length = 2 + t.keys.length) && (t.keys.all keyOk && (atomsB L (t.args.take 1) && movesG L (t.args.drop 1)))
  else if t.k = 13 ∨ t.k = 14 then decide (t.args.length = 1) && atomsB L t.args
  else false
def orderS (prims : List Pm) (L : List Fl) (t : Fl) : Bool := decide (t.k ≠ 8) || !primOkC prims t || (match prims[t.m.toNat]? with | some p => atomsB L (t.args.take p.args.toNat) && movesG L (t.args.drop p.args.toNat) | none => true)
def formedRS (prims : List Pm) (L : List Fl) (t : Fl) : Bool := formedS L t && orderS prims L t
/-- The program's form: as chapter 13 has it, of the node with its own list of arguments. -/
def haltFl : Fl := ⟨13, 0, 0, 0, 0, [], [], [], []⟩
def zeroFl : Fl := ⟨0, 0, 0, 0, 0, [], [], [], []⟩
def ownN (L : List Fl) (a : Int) : Fl := match L[a.toNat]? with | some u => if u.k = 15 then haltFl else u | none => zeroFl
def ownL (L : List Fl) (l : List Int) : List Fl := l.map (ownN L)
def rangeI (n : Nat) : List Int := (List.range n).map fun (i : Nat) => (i : Int)
def asT (t : Fl) : Fl := ⟨t.k, t.n, t.m, t.i, t.b, t.t, t.vars, t.keys, rangeI t.args.length⟩
def formedG (prims : List Pm) (L : List Fl) (t : Fl) : Bool :=
  if t.k = 9 ∨ t.k = 10 then false else if t.k = 15 then decide (0 ≤ t.m ∧ t.args.length ≤ 65) && atomsB L t.args else formedP prims (ownL L t.args) (asT t)
theorem rangeI_len (n : Nat) : (rangeI n).length = n := by unfold rangeI; simp
def asK (k : Int) : Int := if k = 15 then 13 else k
theorem own_kinds (L : List Fl) (l : List Int) : (rangeI l.length).map (kindC (ownL L l)) = l.map fun a => asK (kindC L a) := by
  refine List.ext_getElem? fun i => ?_
  unfold rangeI
  rw [List.map_map, List.getElem?_map, List.getElem?_map]
  rcases Nat.lt_or_ge i l.length with h | h
  · rw [List.getElem?_range h, List.getElem?_eq_getElem h]
    simp only [Option.map_some, Function.comp]
    unfold kindC ownL
    rw [Int.toNat_natCast, List.getElem?_map, List.getElem?_eq_getElem h]
    simp only [Option.map_some]
    unfold ownN asK
    cases L[(l[i]).toNat]? with
    | none => rfl
    | some u =>
      by_cases h15 : u.k = 15
      · simp only [h15, if_true]; rfl
      · simp only [h15, if_false]
  · rw [List.getElem?_eq_none (by rw [List.length_range]; exact h), List.getElem?_eq_none h]
    rfl
theorem atoms_kinds (L : List Fl) (l : List Int) : atomsB L l = (l.map (kindC L)).all atomB := by unfold atomsB; rw [List.all_map]; rfl
theorem moves_kinds (L : List Fl) (l : List Int) : movesB L l = (l.map (kindC L)).all moveB := by unfold movesB; rw [List.all_map]; rfl
theorem atomB_as (k : Int) : atomB (asK k) = atomB k := by
  unfold asK
  by_cases h : k = 15
  · subst h; rfl
  · rw [if_neg h]
theorem all_congr {α : Type} {p q : α → Bool} : ∀ {l : List α}, (∀ a ∈ l, p a = q a) → l.all p = l.all q
  | [], _ => rfl
  | a :: l, h => by
    rw [List.all_cons, List.all_cons, h a List.mem_cons_self, all_congr (l := l) fun b hb => h b (List.mem_cons_of_mem _ hb)]
theorem atoms_own (L : List Fl) (l : List Int) (f : List Int → List Int) (hf : ∀ g : Int → Int, ∀ m : List Int, (f m).map g = f (m.map g)) : atomsB (ownL L l) (f (rangeI l.length)) = atomsB L (f l) := by
  rw [atoms_kinds, atoms_kinds, hf, own_kinds, hf, ← hf, ← hf, List.all_map, List.all_map]
  exact all_congr fun a _ => atomB_as _
theorem moves_own (L : List Fl) (l : List Int) (f : List Int → List Int) (hf : ∀ g : Int → Int, ∀ m : List Int, (f m).map g = f (m.map g)) (hs : ∀ m, ∀ a ∈ f m, a ∈ m) (h9 : ∀ a ∈ l, kindC L a ≠ 9) : movesB (ownL L l) (f (rangeI l.length)) = movesG L (f l) := by
  rw [moves_kinds, hf, own_kinds, ← hf, List.all_map]
  exact all_congr fun a ha => moveH_eq (h9 a (hs l a ha))
theorem map_take_ (n : Nat) (g : Int → Int) (m : List Int) : (m.take n).map g = (m.map g).take n := List.map_take
theorem map_drop_ (n : Nat) (g : Int → Int) (m : List Int) : (m.drop n).map g = (m.map g).drop n := List.map_drop
/-- Where no argument is a JFix, both forms are one. -/
theorem formed_one {prims : List Pm} {L : List Fl} {t : Fl} (hk : t.k ≠ 9 ∧ t.k ≠ 10) (h9 : ∀ a ∈ t.args, kindC L a ≠ 9) : formedG prims L t = formedRS prims L t := by
  have hat : ∀ n, atomsB (ownL L t.args) ((rangeI t.args.length).take n) = atomsB L (t.args.take n) := fun n => atoms_own L t.args (List.take n) (map_take_ n)
  have hal : atomsB (ownL L t.args) (rangeI t.args.length) = atomsB L t.args := atoms_own L t.args (fun l => l) (fun _ _ => rfl)
  have hmv : ∀ n, movesB (ownL L t.args) ((rangeI t.args.length).drop n) = movesG L (t.args.drop n) := fun n => moves_own L t.args (List.drop n) (map_drop_ n) (fun m a ha => List.mem_of_mem_drop ha) h9
  have ho : t.k = 8 → orderC prims (ownL L t.args) (asT t) = orderS prims L t := fun _ => by
    unfold orderC orderS
    have hp : primOkC prims (asT t) = primOkC prims t := by
      unfold primOkC asT
      simp only [rangeI_len]
    rw [hp]
    show (_ || _ || (match prims[t.m.toNat]? with | some p => atomsB (ownL L t.args) ((rangeI t.args.length).take p.args.toNat) && movesB (ownL L t.args) ((rangeI t.args.length).drop p.args.toNat) | none => true)) = _
    simp only [hat, hmv]
    rfl
  have hon : t.k ≠ 8 → orderC prims (ownL L t.args) (asT t) = true := fun h => by
    unfold orderC
    rw [show (asT t).k = t.k from rfl, decide_eq_true h]; rfl
  have hos : t.k ≠ 8 → orderS prims L t = true := fun h => by
    unfold orderS
    rw [decide_eq_true h]; rfl
  unfold formedG formedRS
  rw [if_neg (by omega)]
  by_cases h15 : t.k = 15
  · rw [if_pos h15, hos (by omega), Bool.and_true]
    unfold formedS
    simp only [h15]
    rfl
  · rw [if_neg h15]
    unfold formedP
    by_cases h8 : t.k = 8
    · rw [ho h8]
      unfold formedC formedS
      simp only [show (asT t).k = t.k from rfl, h8]
      rfl
    · rw [hon h8, hos h8]
      congr 1
      unfold formedC formedS
      simp only [show (asT t).k = t.k from rfl, show (asT t).args = rangeI t.args.length from rfl, show (asT t).n = t.n from rfl, show (asT t).m = t.m from rfl, show (asT t).i = t.i from rfl, show (asT t).t = t.t from rfl, show (asT t).keys = t.keys from rfl, rangeI_len, hat, hmv, hal, if_neg hk.1, if_neg hk.2, if_neg h15]
theorem formedG_no {prims : List Pm} {L : List Fl} {t : Fl} (hk : t.k = 9 ∨ t.k = 10) : formedG prims L t = false := if_pos hk
theorem formedRS_no {prims : List Pm} {L : List Fl} {t : Fl} (hk : t.k = 9 ∨ t.k = 10) : formedRS prims L t = false := by
  unfold formedRS formedS
  rcases hk with h | h <;> simp [h]
end CloM

namespace CloM
open LamM CpsM

/-! ### Free variables -/
theorem upC {U : Nat → Bool} {L : List Fl} {j : Nat} : ∀ {m : Nat}, j < m → freeAllC U L m j = freeAllC U L (j + 1) j
  | m + 1, h => by
    rcases Nat.lt_or_ge j m with h1 | h1
    · rw [all_otherC (show j ≠ m by omega), upC h1]
    · obtain rfl : j = m := by omega
      rfl
theorem upG {U : Nat → Bool} {L : List Fl} {j : Nat} : ∀ {m : Nat}, j < m → freeAllG U L m j = freeAllG U L (j + 1) j
  | m + 1, h => by
    rcases Nat.lt_or_ge j m with h1 | h1
    · rw [all_otherG (show j ≠ m by omega), upG h1]
    · obtain rfl : j = m := by omega
      rfl
theorem args_one {L : List Fl} {F G : Nat → List Int} {t : Fl} {i : Nat} (hb : bindsC t = bindsG t) : ∀ (l acc : List Int), (∀ a ∈ l, 0 ≤ a → a < (i : Int) → F a.toNat = G a.toNat) → freeArgsC L F t i l acc = freeArgsG L G t i l acc
  | [], _, _ => rfl
  | a :: l, acc, h => by
    rw [args_stepC, args_stepG]
    have hc : (if a < 0 ∨ (i : Int) ≤ a then acc else mrg acc (if atomB (kindC L a) then F a.toNat else wout (F a.toNat) (bindsC t))) = (if a < 0 ∨ (i : Int) ≤ a then acc else mrg acc (if atomB (kindC L a) then G a.toNat else wout (G a.toNat) (bindsG t))) := by
      by_cases hc : a < 0 ∨ (i : Int) ≤ a
      · rw [if_pos hc, if_pos hc]
      · rw [if_neg hc, if_neg hc, h a List.mem_cons_self (by omega) (by omega), hb]
    rw [hc]
    exact args_one hb l _ fun b hb => h b (List.mem_cons_of_mem _ hb)
theorem binds_one {t : Fl} (h : t.k ≠ 9 ∧ t.k ≠ 10) : bindsC t = bindsG t := by
  unfold bindsC bindsG
  by_cases hk : t.k = 5 ∨ t.k = 6 ∨ t.k = 7 ∨ t.k = 8
  · rw [if_pos hk, if_pos hk]
  · rw [if_neg hk, if_neg hk, if_neg (by omega)]
theorem free_one {L : List Fl} {U B : Nat → Bool} (hk : ∀ j t, U j = true → L[j]? = some t → t.k ≠ 9 ∧ t.k ≠ 10) (hBU : ∀ j, B j = true → U j = true) (hB : ∀ j t, B j = true → L[j]? = some t → ∀ a ∈ t.args, 0 ≤ a → a < (j : Int) → B a.toNat = true) :
    ∀ (n j : Nat), j < n → j < L.length → B j = true → ∀ m m', j < m → j < m' → freeAllC U L m j = freeAllG B L m' j
  | 0, _, h, _, _ => by omega
  | n + 1, j, hn, hj, hb => fun m m' h1 h2 => by
    obtain ⟨t, ht⟩ : ∃ t, L[j]? = some t := ⟨_, List.getElem?_eq_getElem hj⟩
    rw [upC h1, upG h2, all_lastC ht, all_lastG ht]
    unfold freeNodeC freeNodeG
    rw [if_pos (hBU j hb), if_pos hb]
    exact args_one (binds_one (hk j t (hBU j hb) ht)) _ _ fun a ha h3 h4 => free_one hk hBU hB n a.toNat (by omega) (by omega) (hB j t hb ht a ha h3 h4) j j (by omega) (by omega)

/-! ### What Check tells -/
theorem allC_iff {P : Fl → Bool} {U : Nat → Bool} {L : List Fl} : ∀ {n : Nat}, allC P U L n = true ↔ ∀ j t, j < n → U j = true → L[j]? = some t → P t = true
  | 0 => ⟨fun _ j t h => by omega, fun _ => rfl⟩
  | n + 1 => by
    show (allC P U L n && (!U n || (match L[n]? with | some t => P t | none => true))) = true ↔ _
    rw [Bool.and_eq_true, allC_iff]
    constructor
    · rintro ⟨h1, h2⟩ j t hj hu ht
      rcases Nat.lt_or_ge j n with h | h
      · exact h1 j t h hu ht
      · obtain rfl : j = n := by omega
        rw [hu, ht] at h2
        simpa using h2
    · intro h
      refine ⟨fun j t hj => h j t (by omega), ?_⟩
      cases hu : U n
      · rfl
      · cases ht : L[n]? with
        | none => rfl
        | some t => simpa using h n t (Nat.lt_succ_self n) hu ht
def parG (l : List Int) : Bool := if l.length = 65 then (match l with | v :: r => decide (0 ≤ v) && (!r.contains v && parOk r) | [] => false) else parOk l
def parS (l : List Int) : Bool := decide (l.length ≤ 65) && parGo [] l
theorem par_one (l : List Int) : parG l = parS l := by
  rw [Bool.eq_iff_iff]
  unfold parG parS
  by_cases h : l.length = 65
  · rw [if_pos h]
    match l, h with
    | v :: r, h =>
      have hl : r.length = 64 := by simpa using h
      simp only [Bool.and_eq_true, decide_eq_true_eq, parOk, parGo_all, List.mem_cons, List.nodup_cons, Bool.not_eq_true', List.length_cons]
      rw [← Bool.not_eq_true, List.contains_iff_mem]
      constructor
      · rintro ⟨h1, h2, ⟨h3, h4⟩, _⟩
        exact ⟨by omega, fun x hx => by rcases hx with rfl | hx; exact h1; exact h3 x hx, h2, h4⟩
      · rintro ⟨_, h1, h2, h3⟩
        exact ⟨h1 v (.inl rfl), h2, ⟨fun x hx => h1 x (.inr hx), h3⟩, by omega⟩
  · rw [if_neg h]
    simp only [parOk, Bool.and_eq_true, decide_eq_true_eq]
    constructor
    · rintro ⟨h1, h2⟩; exact ⟨by omega, h1⟩
    · rintro ⟨h1, h2⟩; exact ⟨h2, by omega⟩
def paramsAt (fs : List FnD) (entry : Int) : List Int := match fs[entry.toNat]? with | some f => f.params | none => []
def bodyOk (L : List Fl) (f : FnD) : Bool := decide (0 ≤ f.body ∧ f.body < (L.length : Int)) && (moveG (kindC L f.body) && parG f.params)
def rootsOf (fs : List FnD) : List Int := fs.map (·.body)
def inC (L : List Fl) (fs : List FnD) : (Nat → Bool) × Bool := belowM (tms L) (rootsOf fs)
/-- As the program has it. -/
def checkF (prims : List Pm) (L : List Fl) (fs : List FnD) (entry : Int) : Int :=
  if entry < 0 ∨ (fs.length : Int) ≤ entry then 150
  else if paramsAt fs entry ≠ [] then 150
  else if fs.all (bodyOk L) = false then 150
  else if (inC L fs).2 = false then 150
  else if allC (formedG prims L) (inC L fs).1 L L.length = false then 150
  else if allC (fitsC prims) (inC L fs).1 L L.length = false then 112
  else if 262144 < L.length ∨ 262144 < fs.length then 3
  else if (fs.all fun f => (freeAllC (inC L fs).1 L L.length f.body.toNat).all f.params.contains) = false then 111
  else 0
def funOk (L : List Fl) (f : FnD) : Bool := decide (0 ≤ f.body ∧ f.body < (L.length : Int)) && (parS f.params && ((belowC L f.body.toNat).2 && moveG (kindC L f.body)))
def unionB (L : List Fl) (fs : List FnD) : Nat → Bool := fun j => fs.any fun f => (belowC L f.body.toNat).1 j
/-- As the reference has it. -/
def checkS (prims : List Pm) (L : List Fl) (fs : List FnD) (entry : Int) : Int :=
  if entry < 0 ∨ (fs.length : Int) ≤ entry then 150
  else if paramsAt fs entry ≠ [] then 150
  else if (fs.all fun f => funOk L f && allC (formedRS prims L) (belowC L f.body.toNat).1 L L.length) = false then 150
  else if allC (fitsC prims) (unionB L fs) L L.length = false then 112
  else if 262144 < L.length ∨ 262144 < fs.length then 3
  else if (fs.all fun f => (freeOfG L f.body.toNat).all f.params.contains) = false then 111
  else 0
theorem all_false {α : Type} {p : α → Bool} {l : List α} : l.all p = false ↔ ∃ a ∈ l, p a = false := by
  induction l with
  | nil => simp
  | cons a l ih =>
    rw [List.all_cons, Bool.and_eq_false_iff, ih]
    simp
theorem check_one (prims : List Pm) (L : List Fl) (fs : List FnD) (entry : Int) : checkF prims L fs entry = checkS prims L fs entry := by
  unfold checkF checkS
  by_cases h0 : entry < 0 ∨ (fs.length : Int) ≤ entry
  · rw [if_pos h0, if_pos h0]
  rw [if_neg h0, if_neg h0]
  by_cases h1 : paramsAt fs entry ≠ []
  · rw [if_pos h1, if_pos h1]
  rw [if_neg h1, if_neg h1]
  by_cases h2 : fs.all (bodyOk L) = false
  · rw [if_pos h2, if_pos]
    obtain ⟨f, hf, hb⟩ := all_false.1 h2
    refine all_false.2 ⟨f, hf, ?_⟩
    have : funOk L f = false := by
      unfold bodyOk at hb
      unfold funOk
      rw [← par_one]
      cases e1 : decide (0 ≤ f.body ∧ f.body < (L.length : Int))
      · rfl
      · rw [e1] at hb
        cases e2 : parG f.params
        · rfl
        · rw [e2] at hb
          cases e3 : moveG (kindC L f.body)
          · simp
          · rw [e3] at hb; cases hb
    rw [this]; rfl
  rw [if_neg h2]
  have hbo : ∀ f ∈ fs, (0 ≤ f.body ∧ f.body < (L.length : Int)) ∧ moveG (kindC L f.body) = true ∧ parS f.params = true := fun f hf => by
    have : bodyOk L f = true := List.all_eq_true.1 (by simpa using h2) f hf
    unfold bodyOk at this
    rw [Bool.and_eq_true, Bool.and_eq_true, decide_eq_true_eq, par_one] at this
    exact this
  obtain ⟨m1, m2⟩ := belowM_iff (tms L) (rootsOf fs) (fun r hr => by
    obtain ⟨f, hf, rfl⟩ := List.mem_map.1 hr
    rw [tms_len]
    exact (hbo f hf).1)
  have hok : (inC L fs).2 = true ↔ ∀ f ∈ fs, (belowC L f.body.toNat).2 = true := by
    unfold inC
    rw [m2]
    constructor
    · intro h f hf
      exact ((below_iff (tms L) f.body.toNat).2).2 (h f.body (List.mem_map.2 ⟨f, hf, rfl⟩))
    · intro h r hr
      obtain ⟨f, hf, rfl⟩ := List.mem_map.1 hr
      exact ((below_iff (tms L) f.body.toNat).2).1 (h f hf)
  have hun : (inC L fs).1 = unionB L fs := by
    funext j
    rw [Bool.eq_iff_iff]
    unfold inC unionB
    rw [m1, List.any_eq_true]
    constructor
    · rintro ⟨r, hr, hm⟩
      obtain ⟨f, hf, rfl⟩ := List.mem_map.1 hr
      exact ⟨f, hf, ((below_iff (tms L) f.body.toNat).1 j).2 hm⟩
    · rintro ⟨f, hf, hm⟩
      exact ⟨f.body, List.mem_map.2 ⟨f, hf, rfl⟩, ((below_iff (tms L) f.body.toNat).1 j).1 hm⟩
  by_cases h3 : (inC L fs).2 = false
  · rw [if_pos h3, if_pos]
    have : ¬ ∀ f ∈ fs, (belowC L f.body.toNat).2 = true := fun h => by rw [hok.2 h] at h3; cases h3
    refine all_false.2 (Classical.byContradiction fun hn => this fun f hf => ?_)
    cases hb : (belowC L f.body.toNat).2
    · refine absurd ⟨f, hf, ?_⟩ hn
      unfold funOk
      rw [hb]; simp
    · rfl
  rw [if_neg h3]
  have h3' := hok.1 (by simpa using h3)
  have hargs : ∀ f ∈ fs, ∀ j t, (belowC L f.body.toNat).1 j = true → L[j]? = some t → ∀ a ∈ t.args, (0 ≤ a ∧ a < (j : Int)) ∧ (belowC L f.body.toNat).1 a.toNat = true := fun f hf j t hj ht a ha => by
    have hlt := belowC_ok L f.body.toNat (h3' f hf) j t ht hj a ha
    refine ⟨hlt, ((below_iff (tms L) f.body.toNat).1 _).2 (Made.step (((below_iff (tms L) f.body.toNat).1 j).1 hj) ?_ hlt.1 hlt.2)⟩
    rw [argsC_at ht]; exact ha
  have hfun : ∀ f ∈ fs, funOk L f = true := fun f hf => by
    unfold funOk
    rw [decide_eq_true (hbo f hf).1, (hbo f hf).2.2, h3' f hf, (hbo f hf).2.1]; rfl
  have hforms : allC (formedG prims L) (inC L fs).1 L L.length = true ↔ ∀ f ∈ fs, allC (formedRS prims L) (belowC L f.body.toNat).1 L L.length = true := by
    rw [hun, allC_iff]
    constructor
    · intro h f hf
      rw [allC_iff]
      intro j t hj hm ht
      have hu : ∀ i, (belowC L f.body.toNat).1 i = true → unionB L fs i = true := fun i hi => List.any_eq_true.2 ⟨f, hf, hi⟩
      have hg := h j t hj (hu j hm) ht
      have hk : t.k ≠ 9 ∧ t.k ≠ 10 := by
        by_cases hk : t.k = 9 ∨ t.k = 10
        · rw [formedG_no hk] at hg; cases hg
        · omega
      rw [← formed_one hk]
      · exact hg
      · intro a ha
        obtain ⟨h4, h5⟩ := hargs f hf j t hm ht a ha
        obtain ⟨u, hu2⟩ : ∃ u, L[a.toNat]? = some u := ⟨_, List.getElem?_eq_getElem (by omega)⟩
        rw [kindC_at hu2]
        intro h9
        have := h a.toNat u (by omega) (hu _ h5) hu2
        rw [formedG_no (.inl h9)] at this; cases this
    · intro h j t hj hm ht
      obtain ⟨f, hf, hm⟩ := List.any_eq_true.1 hm
      have h' := allC_iff.1 (h f hf)
      have hg := h' j t hj hm ht
      have hk : t.k ≠ 9 ∧ t.k ≠ 10 := by
        by_cases hk : t.k = 9 ∨ t.k = 10
        · rw [formedRS_no hk] at hg; cases hg
        · omega
      rw [formed_one hk]
      · exact hg
      · intro a ha
        obtain ⟨h4, h5⟩ := hargs f hf j t hm ht a ha
        obtain ⟨u, hu2⟩ : ∃ u, L[a.toNat]? = some u := ⟨_, List.getElem?_eq_getElem (by omega)⟩
        rw [kindC_at hu2]
        intro h9
        have := h' a.toNat u (by omega) h5 hu2
        rw [formedRS_no (.inl h9)] at this; cases this
  have hrall : (fs.all fun f => funOk L f && allC (formedRS prims L) (belowC L f.body.toNat).1 L L.length) = true ↔ allC (formedG prims L) (inC L fs).1 L L.length = true := by
    rw [hforms, List.all_eq_true]
    constructor
    · intro h f hf
      have := h f hf
      rw [Bool.and_eq_true] at this
      exact this.2
    · intro h f hf
      rw [hfun f hf, h f hf]; rfl
  by_cases h4 : allC (formedG prims L) (inC L fs).1 L L.length = false
  · rw [if_pos h4, if_pos]
    cases hc : (fs.all fun f => funOk L f && allC (formedRS prims L) (belowC L f.body.toNat).1 L L.length)
    · rfl
    · rw [hrall.1 hc] at h4; cases h4
  have h4' : allC (formedG prims L) (inC L fs).1 L L.length = true := by simpa using h4
  rw [if_neg h4, if_neg (show ¬ (fs.all fun f => funOk L f && allC (formedRS prims L) (belowC L f.body.toNat).1 L L.length) = false by rw [hrall.2 h4']; simp), hun]
  rw [hun] at h4'
  by_cases h5 : allC (fitsC prims) (unionB L fs) L L.length = false
  · rw [if_pos h5, if_pos h5]
  rw [if_neg h5, if_neg h5]
  by_cases h6 : 262144 < L.length ∨ 262144 < fs.length
  · rw [if_pos h6, if_pos h6]
  rw [if_neg h6, if_neg h6]
  have hfr : (fs.all fun f => (freeAllC (unionB L fs) L L.length f.body.toNat).all f.params.contains) = (fs.all fun f => (freeOfG L f.body.toNat).all f.params.contains) := by
    refine all_congr fun f hf => ?_
    have hb := (hbo f hf).1
    have : freeAllC (unionB L fs) L L.length f.body.toNat = freeOfG L f.body.toNat := by
      refine free_one (B := (belowC L f.body.toNat).1) (fun j t hj ht => ?_) (fun j hj => List.any_eq_true.2 ⟨f, hf, hj⟩) (fun j t hj ht a ha _ _ => (hargs f hf j t hj ht a ha).2) (f.body.toNat + 1) f.body.toNat (Nat.lt_succ_self _) (by omega) (((below_iff (tms L) f.body.toNat).1 _).2 (.base rfl)) _ _ (by omega) (Nat.lt_succ_self _)
      have hg := allC_iff.1 h4' j t (List.getElem?_eq_some_iff.1 ht).1 hj ht
      by_cases hk : t.k = 9 ∨ t.k = 10
      · rw [formedG_no hk] at hg; cases hg
      · omega
    rw [this]
  rw [hfr]
end CloM
