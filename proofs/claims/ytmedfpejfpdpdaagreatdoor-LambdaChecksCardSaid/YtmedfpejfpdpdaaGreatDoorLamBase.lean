/- Lambda's checks, plain: which nodes are made, which have their form, which variables are free. -/
namespace LamM

structure Ky where
  k : Int
  i : Int
  t : List UInt8
structure Tm where
  k : Int
  n : Int
  i : Int
  b : Int
  t : List UInt8
  vars : List Int
  keys : List Ky
  args : List Int
structure Pm where
  args : Int
  raises : List Int

/-! ### Which nodes are made -/
def upd (f : Nat → Bool) (a : Nat) : Nat → Bool := fun j => (j == a) || f j
def stepA (i : Nat) : List Int → (Nat → Bool) × Bool → (Nat → Bool) × Bool
  | [], s => s
  | a :: l, s => stepA i l (if a < 0 ∨ (i : Int) ≤ a then (s.1, false) else (upd s.1 a.toNat, s.2))
def argsAt (L : List Tm) (i : Nat) : List Int := match L[i]? with | some t => t.args | none => []
def belowF (L : List Tm) : Nat → (Nat → Bool) × Bool → (Nat → Bool) × Bool
  | 0, s => s
  | i + 1, s => belowF L i (if s.1 i then stepA i (argsAt L i) s else s)
def below (L : List Tm) (root : Nat) : (Nat → Bool) × Bool := belowF L (root + 1) (upd (fun _ => false) root, true)

theorem upd_le {f : Nat → Bool} {a m : Nat} (h : ∀ j, f j = true → j ≤ m) (ha : a ≤ m) : ∀ j, upd f a j = true → j ≤ m := fun j hj => by
  unfold upd at hj
  rcases Bool.or_eq_true_iff.1 hj with h1 | h1
  · have := beq_iff_eq.1 h1; omega
  · exact h j h1
theorem stepA_le (i m : Nat) (hi : i ≤ m) : ∀ (l : List Int) (s : (Nat → Bool) × Bool), (∀ j, s.1 j = true → j ≤ m) → ∀ j, (stepA i l s).1 j = true → j ≤ m
  | [], s, h => h
  | a :: l, s, h => by
    unfold stepA
    refine stepA_le i m hi l _ ?_
    split
    · exact h
    · exact upd_le h (by omega)
theorem belowF_le (L : List Tm) (m : Nat) : ∀ (k : Nat) (s : (Nat → Bool) × Bool), k ≤ m + 1 → (∀ j, s.1 j = true → j ≤ m) → ∀ j, (belowF L k s).1 j = true → j ≤ m
  | 0, s, _, h => h
  | k + 1, s, hk, h => by
    unfold belowF
    refine belowF_le L m k _ (by omega) ?_
    split
    · exact stepA_le k m (by omega) _ _ h
    · exact h
/-- What is made lies at the root or below it. -/
theorem below_le (L : List Tm) (root j : Nat) (h : (below L root).1 j = true) : j ≤ root :=
  belowF_le L root (root + 1) _ (Nat.le_refl _) (upd_le (fun _ h => by cases h) (Nat.le_refl _)) j h
/-- Only lower places are marked by a node, and marks stay. -/
theorem stepA_hi (i : Nat) : ∀ (l : List Int) (s : (Nat → Bool) × Bool) (j : Nat), i ≤ j → (stepA i l s).1 j = s.1 j
  | [], _, _, _ => rfl
  | a :: l, s, j, h => by
    unfold stepA
    rw [stepA_hi i l _ j h]
    split
    · rfl
    · next hc =>
      show upd s.1 a.toNat j = s.1 j
      unfold upd
      rw [show (j == a.toNat) = false from beq_eq_false_iff_ne.2 (by omega), Bool.false_or]
theorem belowF_hi (L : List Tm) : ∀ (k : Nat) (s : (Nat → Bool) × Bool) (j : Nat), k ≤ j + 1 → (belowF L k s).1 j = s.1 j
  | 0, _, _, _ => rfl
  | k + 1, s, j, h => by
    unfold belowF
    rw [belowF_hi L k _ j (by omega)]
    split
    · exact stepA_hi k _ _ j (by omega)
    · rfl
theorem stepA_bad (i : Nat) : ∀ (l : List Int) (s : (Nat → Bool) × Bool), s.2 = false → (stepA i l s).2 = false
  | [], _, h => h
  | a :: l, s, h => by
    unfold stepA
    refine stepA_bad i l _ ?_
    split
    · rfl
    · exact h
theorem belowF_bad (L : List Tm) : ∀ (k : Nat) (s : (Nat → Bool) × Bool), s.2 = false → (belowF L k s).2 = false
  | 0, _, h => h
  | k + 1, s, h => by
    unfold belowF
    refine belowF_bad L k _ ?_
    split
    · exact stepA_bad k _ _ h
    · exact h
theorem stepA_ok (i : Nat) : ∀ (l : List Int) (s : (Nat → Bool) × Bool), (stepA i l s).2 = true → ∀ a ∈ l, 0 ≤ a ∧ a < (i : Int)
  | [], _, _, a, h => by cases h
  | a :: l, s, h, x, hx => by
    unfold stepA at h
    by_cases hc : a < 0 ∨ (i : Int) ≤ a
    · rw [if_pos hc, stepA_bad i l _ rfl] at h; cases h
    · rcases List.mem_cons.1 hx with rfl | hx
      · omega
      · exact stepA_ok i l _ h x hx
theorem belowF_ok (L : List Tm) : ∀ (k : Nat) (s : (Nat → Bool) × Bool), (belowF L k s).2 = true → ∀ i, i < k → (belowF L k s).1 i = true → ∀ a ∈ argsAt L i, 0 ≤ a ∧ a < (i : Int)
  | 0, _, _, i, hi, _ => by omega
  | k + 1, s, h, i, hi, hm => by
    unfold belowF at h hm
    rcases Nat.lt_or_ge i k with h1 | h1
    · exact belowF_ok L k _ h i h1 hm
    · obtain rfl : i = k := by omega
      rw [belowF_hi L i _ i (by omega)] at hm
      have hs : s.1 i = true := by
        cases hb : s.1 i
        · rw [hb] at hm; simp at hm; rw [hb] at hm; cases hm
        · rfl
      rw [hs, if_pos rfl] at h
      intro a ha
      have h2 : (stepA i (argsAt L i) s).2 = true := by
        cases hc : (stepA i (argsAt L i) s).2
        · rw [belowF_bad L i _ hc] at h; cases h
        · rfl
      exact stepA_ok i _ s h2 a ha
/-- Where all is well, a made node's arguments are lower. -/
theorem below_ok (L : List Tm) (root : Nat) (h : (below L root).2 = true) (i : Nat) (hm : (below L root).1 i = true) : ∀ a ∈ argsAt L i, 0 ≤ a ∧ a < (i : Int) :=
  belowF_ok L (root + 1) _ h i (by have := below_le L root i hm; omega) hm

/-! ### Sets of variables: strictly rising lists -/
abbrev SS (l : List Int) : Prop := l.Pairwise (· < ·)
theorem ss_cons {x : Int} {l : List Int} : SS (x :: l) ↔ (∀ y ∈ l, x < y) ∧ SS l := List.pairwise_cons
theorem ss_ext : ∀ {l m : List Int}, SS l → SS m → (∀ x, x ∈ l ↔ x ∈ m) → l = m
  | [], [], _, _, _ => rfl
  | [], y :: m, _, _, h => by have := (h y).2 List.mem_cons_self; cases this
  | x :: l, [], _, _, h => by have := (h x).1 List.mem_cons_self; cases this
  | x :: l, y :: m, hl, hm, h => by
    obtain ⟨l1, l2⟩ := ss_cons.1 hl
    obtain ⟨m1, m2⟩ := ss_cons.1 hm
    have hxy : x = y := by
      rcases List.mem_cons.1 ((h x).1 List.mem_cons_self) with e | e
      · exact e
      · rcases List.mem_cons.1 ((h y).2 List.mem_cons_self) with e2 | e2
        · exact e2.symm
        · have := m1 x e; have := l1 y e2; omega
    subst hxy
    rw [ss_ext l2 m2 (fun z => ?_)]
    have hz := h z
    rw [List.mem_cons, List.mem_cons] at hz
    constructor
    · intro hz1
      rcases hz.1 (.inr hz1) with e | e
      · have := l1 z hz1; omega
      · exact e
    · intro hz1
      rcases hz.2 (.inr hz1) with e | e
      · have := m1 z hz1; omega
      · exact e
def ins (v : Int) : List Int → List Int
  | [] => [v]
  | x :: s => if v < x then v :: x :: s else if v = x then x :: s else x :: ins v s
theorem mem_ins (v x : Int) : ∀ s : List Int, x ∈ ins v s ↔ x = v ∨ x ∈ s
  | [] => by simp [ins]
  | y :: s => by
    unfold ins
    split
    · simp
    · split
      · next h => subst h; simp
      · rw [List.mem_cons, mem_ins v x s, List.mem_cons]
        constructor
        · rintro (h | h | h)
          · exact .inr (.inl h)
          · exact .inl h
          · exact .inr (.inr h)
        · rintro (h | h | h)
          · exact .inr (.inl h)
          · exact .inl h
          · exact .inr (.inr h)
theorem ss_ins (v : Int) : ∀ {s : List Int}, SS s → SS (ins v s)
  | [], _ => by simp [ins, SS]
  | y :: s, h => by
    obtain ⟨h1, h2⟩ := ss_cons.1 h
    unfold ins
    split
    · next hv => exact ss_cons.2 ⟨fun z hz => by rcases List.mem_cons.1 hz with rfl | hz; exact hv; have := h1 z hz; omega, h⟩
    · split
      · exact h
      · next hv hv2 =>
        refine ss_cons.2 ⟨fun z hz => ?_, ss_ins v h2⟩
        rcases (mem_ins v z s).1 hz with rfl | hz
        · omega
        · exact h1 z hz
theorem ins_mem {v : Int} {s : List Int} (hs : SS s) (h : v ∈ s) : ins v s = s :=
  ss_ext (ss_ins v hs) hs fun x => by rw [mem_ins]; exact ⟨fun hx => hx.elim (fun e => e ▸ h) id, .inr⟩
/-- All of both. -/
def mrg (a b : List Int) : List Int := b.foldl (fun s v => ins v s) a
theorem ss_mrg : ∀ (b : List Int) {a : List Int}, SS a → SS (mrg a b)
  | [], _, h => h
  | v :: b, _, h => ss_mrg b (ss_ins v h)
theorem mem_mrg (x : Int) : ∀ (b a : List Int), x ∈ mrg a b ↔ x ∈ a ∨ x ∈ b
  | [], a => by simp [mrg]
  | v :: b, a => by
    show x ∈ mrg (ins v a) b ↔ _
    rw [mem_mrg x b (ins v a), mem_ins, List.mem_cons]
    constructor
    · rintro ((h | h) | h)
      · exact .inr (.inl h)
      · exact .inl h
      · exact .inr (.inr h)
    · rintro (h | h | h)
      · exact .inl (.inr h)
      · exact .inl (.inl h)
      · exact .inr h
theorem mrg_nil (a : List Int) : mrg a [] = a := rfl
theorem mrg_nil_left {b : List Int} (h : SS b) : mrg [] b = b := ss_ext (ss_mrg b (by simp [SS])) h fun x => by rw [mem_mrg]; simp
/-- The zip of two sets. -/
theorem mrg_lt {x y : Int} {a b : List Int} (ha : SS (x :: a)) (hb : SS (y :: b)) (h : x < y) : mrg (x :: a) (y :: b) = x :: mrg a (y :: b) := by
  obtain ⟨a1, a2⟩ := ss_cons.1 ha
  obtain ⟨b1, b2⟩ := ss_cons.1 hb
  refine ss_ext (ss_mrg _ ha) (ss_cons.2 ⟨fun z hz => ?_, ss_mrg _ a2⟩) fun z => ?_
  · rcases (mem_mrg z _ _).1 hz with h1 | h1
    · exact a1 z h1
    · rcases List.mem_cons.1 h1 with rfl | h1
      · exact h
      · have := b1 z h1; omega
  · simp only [mem_mrg, List.mem_cons, or_assoc]
theorem mrg_gt {x y : Int} {a b : List Int} (ha : SS (x :: a)) (hb : SS (y :: b)) (h : y < x) : mrg (x :: a) (y :: b) = y :: mrg (x :: a) b := by
  obtain ⟨a1, a2⟩ := ss_cons.1 ha
  obtain ⟨b1, b2⟩ := ss_cons.1 hb
  refine ss_ext (ss_mrg _ ha) (ss_cons.2 ⟨fun z hz => ?_, ss_mrg _ ha⟩) fun z => ?_
  · rcases (mem_mrg z _ _).1 hz with h1 | h1
    · rcases List.mem_cons.1 h1 with rfl | h1
      · exact h
      · have := a1 z h1; omega
    · exact b1 z h1
  · simp only [mem_mrg, List.mem_cons]
    constructor
    · rintro ((h | h) | h | h)
      · exact .inr (.inl (.inl h))
      · exact .inr (.inl (.inr h))
      · exact .inl h
      · exact .inr (.inr h)
    · rintro (h | (h | h) | h)
      · exact .inr (.inl h)
      · exact .inl (.inl h)
      · exact .inl (.inr h)
      · exact .inr (.inr h)
theorem mrg_eq {x : Int} {a b : List Int} (ha : SS (x :: a)) (hb : SS (x :: b)) : mrg (x :: a) (x :: b) = x :: mrg a b := by
  obtain ⟨a1, a2⟩ := ss_cons.1 ha
  obtain ⟨b1, b2⟩ := ss_cons.1 hb
  refine ss_ext (ss_mrg _ ha) (ss_cons.2 ⟨fun z hz => ?_, ss_mrg _ a2⟩) fun z => ?_
  · rcases (mem_mrg z _ _).1 hz with h1 | h1
    · exact a1 z h1
    · exact b1 z h1
  · simp only [mem_mrg, List.mem_cons]
    constructor
    · rintro ((h | h) | h | h)
      · exact .inl h
      · exact .inr (.inl h)
      · exact .inl h
      · exact .inr (.inr h)
    · rintro (h | h | h)
      · exact .inl (.inl h)
      · exact .inl (.inr h)
      · exact .inr (.inr h)
/-- All but some. -/
def wout (s b : List Int) : List Int := s.filter fun v => !b.contains v
theorem ss_wout {s : List Int} (b : List Int) (h : SS s) : SS (wout s b) := List.Pairwise.filter _ h

/-! ### Which variables are free -/
def raisesOf (prims : List Pm) (t : Tm) : List Int := if t.k = 15 then (if t.n < 0 then [] else match prims[t.n.toNat]? with | some p => p.raises | none => []) else []
def boundAt (t : Tm) (k : Nat) : List Int := if t.k = 8 then [t.n] else if t.k = 10 ∨ t.k = 14 then (if k = 1 then [t.n] else []) else if t.k = 11 then t.vars else []
def freeArgs (F : Nat → List Int) (t : Tm) (i : Nat) : Nat → List Int → List Int → List Int
  | _, [], acc => acc
  | k, a :: l, acc => freeArgs F t i (k + 1) l (if a < 0 ∨ (i : Int) ≤ a then acc else mrg acc (wout (F a.toNat) (boundAt t k)))
def freeHead (prims : List Pm) (t : Tm) : List Int := mrg (if t.k = 1 then [t.n] else []) (raisesOf prims t)
def freeNode (prims : List Pm) (inb : Bool) (F : Nat → List Int) (t : Tm) (i : Nat) : List Int := if inb then freeArgs F t i 0 t.args (freeHead prims t) else []
def freeAll (prims : List Pm) (inb : Nat → Bool) (L : List Tm) : Nat → Nat → List Int
  | 0, _ => []
  | i + 1, j => if j = i then (match L[i]? with | some t => freeNode prims (inb i) (freeAll prims inb L i) t i | none => []) else freeAll prims inb L i j
def freeOf (prims : List Pm) (L : List Tm) (root : Nat) : List Int := freeAll prims (below L root).1 L (root + 1) root
theorem ss_head (prims : List Pm) (t : Tm) : SS (freeHead prims t) := by
  unfold freeHead
  refine ss_mrg _ ?_
  split <;> simp [SS]
theorem ss_freeArgs (F : Nat → List Int) (t : Tm) (i : Nat) : ∀ (k : Nat) (l acc : List Int), SS acc → SS (freeArgs F t i k l acc)
  | _, [], _, h => h
  | k, a :: l, acc, h => by
    unfold freeArgs
    refine ss_freeArgs F t i (k + 1) l _ ?_
    split
    · exact h
    · exact ss_mrg _ h
theorem ss_freeNode (prims : List Pm) (inb : Bool) (F : Nat → List Int) (t : Tm) (i : Nat) : SS (freeNode prims inb F t i) := by
  unfold freeNode
  split
  · exact ss_freeArgs F t i 0 _ _ (ss_head prims t)
  · simp [SS]
theorem ss_freeAll (prims : List Pm) (inb : Nat → Bool) (L : List Tm) : ∀ (i j : Nat), SS (freeAll prims inb L i j)
  | 0, _ => by simp [freeAll, SS]
  | i + 1, j => by
    unfold freeAll
    split
    · split
      · exact ss_freeNode ..
      · simp [SS]
    · exact ss_freeAll prims inb L i j

/-! ### The form of a node; what Check tells -/
def keyOk (y : Ky) : Bool := y.k == 1 || y.k == 2 || (y.k == 3 && decide (y.t.length ≤ 65536))
def kindAt (L : List Tm) (a : Int) : Int := match L[a.toNat]? with | some u => u.k | none => 0
def fixGo (L : List Tm) : List Int → List Int → Bool
  | v :: vs, a :: as => !(decide (v < 0) || kindAt L a != 8) && fixGo L vs as
  | [], _ => true
  | _ :: _, [] => false
def fixOk (L : List Tm) (t : Tm) : Bool := if t.vars.length = 0 ∨ t.args.length ≠ t.vars.length + 1 then false else fixGo L t.vars t.args
def formed (L : List Tm) (t : Tm) : Bool :=
  if t.k = 1 then decide (t.args.length = 0 ∧ 0 ≤ t.n)
  else if t.k = 2 then decide (t.args.length = 0 ∧ -4611686018427387904 ≤ t.i ∧ t.i ≤ 4611686018427387903)
  else if t.k = 3 then decide (t.args.length = 0)
  else if t.k = 4 then decide (t.args.length = 0 ∧ t.t.length ≤ 65536)
  else if t.k = 5 then decide (1 ≤ t.args.length ∧ t.args.length ≤ 1024)
  else if t.k = 6 ∨ t.k = 7 ∨ t.k = 8 then decide (t.args.length = 1 ∧ 0 ≤ t.n)
  else if t.k = 9 then decide (t.args.length = 2)
  else if t.k = 10 ∨ t.k = 14 then decide (t.args.length = 2 ∧ 0 ≤ t.n)
  else if t.k = 11 then fixOk L t
  else if t.k = 12 then decide (t.args.length = t.keys.length + 1 ∨ t.args.length = t.keys.length + 2) && t.keys.all keyOk
  else if t.k = 13 then decide (t.args.length = 1)
  else decide (t.k = 15)
def primOk (prims : List Pm) (t : Tm) : Bool := decide (0 ≤ t.n) && (match prims[t.n.toNat]? with | some p => p.args == (t.args.length : Int) | none => false)
/-- Have the made nodes below a place their form? Do their primitives fit? -/
def formAll (inb : Nat → Bool) (L : List Tm) : Nat → Bool
  | 0 => true
  | i + 1 => formAll inb L i && (!inb i || (match L[i]? with | some t => formed L t | none => true))
def primAll (prims : List Pm) (inb : Nat → Bool) (L : List Tm) : Nat → Bool
  | 0 => true
  | i + 1 => primAll prims inb L i && (!inb i || (match L[i]? with | some t => decide (t.k ≠ 15) || primOk prims t | none => true))
def checkOf (prims : List Pm) (L : List Tm) (root : Int) : Int :=
  if root < 0 ∨ (L.length : Int) ≤ root then 110
  else if (below L root.toNat).2 = false then 110
  else if formAll (below L root.toNat).1 L (root.toNat + 1) = false then 110
  else if primAll prims (below L root.toNat).1 L (root.toNat + 1) = false then 112
  else if 262144 < L.length then 3
  else if freeOf prims L root.toNat = [] then 0
  else 111
theorem formAll_beyond (inb : Nat → Bool) (L : List Tm) (m : Nat) (h : ∀ j, inb j = true → j < m) : ∀ k, formAll inb L (m + k) = formAll inb L m
  | 0 => rfl
  | k + 1 => by
    show (formAll inb L (m + k) && _) = _
    rw [formAll_beyond inb L m h k]
    have : inb (m + k) = false := by
      cases hb : inb (m + k)
      · rfl
      · have := h _ hb; omega
    rw [show m.add k = m + k from rfl, this]; simp
theorem primAll_beyond (prims : List Pm) (inb : Nat → Bool) (L : List Tm) (m : Nat) (h : ∀ j, inb j = true → j < m) : ∀ k, primAll prims inb L (m + k) = primAll prims inb L m
  | 0 => rfl
  | k + 1 => by
    show (primAll prims inb L (m + k) && _) = _
    rw [primAll_beyond prims inb L m h k]
    have : inb (m + k) = false := by
      cases hb : inb (m + k)
      · rfl
      · have := h _ hb; omega
    rw [show m.add k = m + k from rfl, this]; simp
theorem formAll_false {inb : Nat → Bool} {L : List Tm} : ∀ {i m : Nat}, i ≤ m → formAll inb L i = false → formAll inb L m = false
  | i, m, h, hf => by
    obtain ⟨k, rfl⟩ : ∃ k, m = i + k := ⟨m - i, by omega⟩
    clear h
    induction k with
    | zero => exact hf
    | succ k ih =>
      show (formAll inb L (i + k) && _) = false
      rw [ih, Bool.false_and]
theorem primAll_false {prims : List Pm} {inb : Nat → Bool} {L : List Tm} : ∀ {i m : Nat}, i ≤ m → primAll prims inb L i = false → primAll prims inb L m = false
  | i, m, h, hf => by
    obtain ⟨k, rfl⟩ : ∃ k, m = i + k := ⟨m - i, by omega⟩
    clear h
    induction k with
    | zero => exact hf
    | succ k ih =>
      show (primAll prims inb L (i + k) && _) = false
      rw [ih, Bool.false_and]
end LamM
