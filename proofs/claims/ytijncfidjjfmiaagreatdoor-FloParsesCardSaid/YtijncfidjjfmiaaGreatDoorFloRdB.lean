/- The reference's Read. -/
import Derived.Test.YtijncfidjjfmiaaGreatDoorFloRdA
import Derived.Deep.CutRange
import Derived.Deep.CutBlock
import Derived.Deep.RegionWith
namespace Go.Proofs.YtijncfidjjfmiaaGreatDoor
open Go.RowKit FloM

/-- The box of the parts, the box of what is handed back. -/
def RdI (w0 w : World) (bl : Bool) (D : List UInt8) (pt : Int) (low : Bool) (X : List UInt8) : Prop :=
  Blk w (w0.heap.size + 1) 57 #[.bool bl, .string ⟨D.toArray⟩, .int .i64 pt, .bool low, .string ⟨X.toArray⟩] ∧ Blk w w0.heap.size 57 #[.bool false, .string ⟨#[]⟩, .int .i64 0, .bool false, .string ⟨#[]⟩] ∧ Below w0.heap.size w0 w
section
variable {w0 w : World} {bl : Bool} {D : List UInt8} {pt : Int} {low : Bool} {X : List UInt8}
theorem RdI.cells (h : RdI w0 w bl D pt low X) : w.cell? ⟨w0.heap.size + 1, 0, none⟩ = some (.bool bl) ∧ w.cell? ⟨w0.heap.size + 1, 1, none⟩ = some (.string ⟨D.toArray⟩) ∧ w.cell? ⟨w0.heap.size + 1, 2, none⟩ = some (.int .i64 pt) ∧ w.cell? ⟨w0.heap.size + 1, 3, none⟩ = some (.bool low) ∧ w.cell? ⟨w0.heap.size + 1, 4, none⟩ = some (.string ⟨X.toArray⟩) :=
  ⟨h.1.cell 0, h.1.cell 1, h.1.cell 2, h.1.cell 3, h.1.cell 4⟩
theorem RdI.cells2 (h : RdI w0 w bl D pt low X) : w.cell? ⟨w0.heap.size, 0, none⟩ = some (.bool false) ∧ w.cell? ⟨w0.heap.size, 1, none⟩ = some (.string ⟨#[]⟩) ∧ w.cell? ⟨w0.heap.size, 2, none⟩ = some (.int .i64 0) ∧ w.cell? ⟨w0.heap.size, 3, none⟩ = some (.bool false) ∧ w.cell? ⟨w0.heap.size, 4, none⟩ = some (.string ⟨#[]⟩) :=
  ⟨h.2.1.cell 0, h.2.1.cell 1, h.2.1.cell 2, h.2.1.cell 3, h.2.1.cell 4⟩
theorem RdI.free (h : RdI w0 w bl D pt low X) (i : Nat) : w.frozen? ⟨w0.heap.size + 1, i, none⟩ = false := h.1.frozen i
theorem RdI.free2 (h : RdI w0 w bl D pt low X) : w.frozen? ⟨w0.heap.size, 0, none⟩ = false ∧ w.frozen? ⟨w0.heap.size, 1, none⟩ = false ∧ w.frozen? ⟨w0.heap.size, 2, none⟩ = false ∧ w.frozen? ⟨w0.heap.size, 3, none⟩ = false ∧ w.frozen? ⟨w0.heap.size, 4, none⟩ = false :=
  ⟨h.2.1.frozen 0, h.2.1.frozen 1, h.2.1.frozen 2, h.2.1.frozen 3, h.2.1.frozen 4⟩
theorem RdI.drewN (h : RdI w0 w bl D pt low X) (n : Nat) : RdI w0 (w.drewN n) bl D pt low X := ⟨h.1.drewN n, h.2.1.drewN n, below_drewN h.2.2 n⟩
theorem RdI.set0 (h : RdI w0 w bl D pt low X) (x : Bool) : RdI w0 (w.setCell ⟨w0.heap.size + 1, 0, none⟩ (.bool x)) x D pt low X :=
  ⟨h.1.set_ 0 _, h.2.1.far (by show w0.heap.size ≠ w0.heap.size + 1; omega) _, h.2.2.setCell (by show w0.heap.size ≤ w0.heap.size + 1; omega) _⟩
theorem RdI.set1 (h : RdI w0 w bl D pt low X) (x : List UInt8) : RdI w0 (w.setCell ⟨w0.heap.size + 1, 1, none⟩ (.string ⟨x.toArray⟩)) bl x pt low X :=
  ⟨h.1.set_ 1 _, h.2.1.far (by show w0.heap.size ≠ w0.heap.size + 1; omega) _, h.2.2.setCell (by show w0.heap.size ≤ w0.heap.size + 1; omega) _⟩
theorem RdI.set2 (h : RdI w0 w bl D pt low X) (x : Int) : RdI w0 (w.setCell ⟨w0.heap.size + 1, 2, none⟩ (.int .i64 x)) bl D x low X :=
  ⟨h.1.set_ 2 _, h.2.1.far (by show w0.heap.size ≠ w0.heap.size + 1; omega) _, h.2.2.setCell (by show w0.heap.size ≤ w0.heap.size + 1; omega) _⟩
theorem RdI.set3 (h : RdI w0 w bl D pt low X) (x : Bool) : RdI w0 (w.setCell ⟨w0.heap.size + 1, 3, none⟩ (.bool x)) bl D pt x X :=
  ⟨h.1.set_ 3 _, h.2.1.far (by show w0.heap.size ≠ w0.heap.size + 1; omega) _, h.2.2.setCell (by show w0.heap.size ≤ w0.heap.size + 1; omega) _⟩
theorem RdI.set4 (h : RdI w0 w bl D pt low X) (x : List UInt8) : RdI w0 (w.setCell ⟨w0.heap.size + 1, 4, none⟩ (.string ⟨x.toArray⟩)) bl D pt low x :=
  ⟨h.1.set_ 4 _, h.2.1.far (by show w0.heap.size ≠ w0.heap.size + 1; omega) _, h.2.2.setCell (by show w0.heap.size ≤ w0.heap.size + 1; omega) _⟩
end
/-- Five stores into a box. -/
def set5 (w : World) (g : Nat) (x0 x1 x2 x3 x4 : Value) : World := ((((w.setCell ⟨g, 0, none⟩ x0).setCell ⟨g, 1, none⟩ x1).setCell ⟨g, 2, none⟩ x2).setCell ⟨g, 3, none⟩ x3).setCell ⟨g, 4, none⟩ x4
theorem RdI.out5 {w0 w : World} {bl : Bool} {D : List UInt8} {pt : Int} {low : Bool} {X : List UInt8} (h : RdI w0 w bl D pt low X) (x0 x1 x2 x3 x4 : Value) :
    Blk (set5 w w0.heap.size x0 x1 x2 x3 x4) w0.heap.size 57 #[x0, x1, x2, x3, x4] ∧ Below w0.heap.size w0 (set5 w w0.heap.size x0 x1 x2 x3 x4) :=
  ⟨((((h.2.1.set_ 0 x0).set_ 1 x1).set_ 2 x2).set_ 3 x3).set_ 4 x4, ((((h.2.2.setCell (p := ⟨_, 0, none⟩) (Nat.le_refl _) x0).setCell (p := ⟨_, 1, none⟩) (Nat.le_refl _) x1).setCell (p := ⟨_, 2, none⟩) (Nat.le_refl _) x2).setCell (p := ⟨_, 3, none⟩) (Nat.le_refl _) x3).setCell (p := ⟨_, 4, none⟩) (Nat.le_refl _) x4⟩
theorem cells5 {w : World} {g : Nat} {t : TypeId} {x0 x1 x2 x3 x4 : Value} (h : Blk w g t #[x0, x1, x2, x3, x4]) : w.cell? ⟨g, 0, none⟩ = some x0 ∧ w.cell? ⟨g, 1, none⟩ = some x1 ∧ w.cell? ⟨g, 2, none⟩ = some x2 ∧ w.cell? ⟨g, 3, none⟩ = some x3 ∧ w.cell? ⟨g, 4, none⟩ = some x4 := ⟨h.cell 0, h.cell 1, h.cell 2, h.cell 3, h.cell 4⟩

/-- The form, behind the sign. -/
def form1 (s1 : List UInt8) : Bool :=
  if lead s1 = 0 ∨ lead s1 = s1.length then false
  else match s1.drop (lead s1) with
    | [] => false
    | c :: t => if c = 46 then (if lead t = 0 then false else tailL (t.drop (lead t))) else tailL (c :: t)
theorem form_1 (s0 : List UInt8) : formL s0 = form1 (trimT s0) := rfl
def negT (s : List UInt8) : Bool := Lib.hasPrefix s [126]
theorem split_T (s : List UInt8) : s = (if negT s then [126] else []) ++ trimT s := by
  rcases s with _ | ⟨c, t⟩
  · rfl
  · by_cases h : c = 126
    · subst h
      unfold negT
      rw [hasT_cons, trimT_cons]; rfl
    · unfold negT
      rw [hasT_stop h, trimT_stop h]; rfl
/-- What stands behind the point, if there is one. -/
def Behind (s1 : List UInt8) (pb : Bool) (W Pt s3 : List UInt8) : Prop :=
  s1 = W ++ (if pb then 46 :: Pt else []) ++ s3 ∧ Digs W ∧ W ≠ [] ∧ Digs Pt ∧ (pb = true → Pt ≠ []) ∧ (pb = false → Pt = []) ∧ form1 s1 = (match s3 with | [] => pb | c :: t => tailL (c :: t))
def pointB (s2 : List UInt8) : Bool := match s2 with | [] => false | c :: _ => c == 46
theorem take_lead (s : List UInt8) : Digs (s.take (lead s)) := by
  intro c hc
  obtain ⟨i, hi, rfl⟩ := List.getElem_of_mem hc
  rw [List.length_take] at hi
  obtain ⟨c, h1, h2⟩ := lead_is (s := s) (k := i) (by omega)
  rw [List.getElem_take]
  have := (List.getElem?_eq_some_iff.1 h1).2
  rw [this]
  exact isD_iff.1 h2
theorem behind_f {s1 : List UInt8} (h0 : lead s1 ≠ 0) (hp : pointB (s1.drop (lead s1)) = false) : Behind s1 false (s1.take (lead s1)) [] (s1.drop (lead s1)) := by
  have hne : s1.take (lead s1) ≠ [] := fun e => by
    have := congrArg List.length e
    rw [List.length_take, List.length_nil] at this
    have := lead_le s1
    omega
  refine ⟨?_, take_lead s1, hne, Digs.nil, (fun h => by cases h), fun _ => rfl, ?_⟩
  · rw [if_neg (by decide), List.append_nil, List.take_append_drop]
  · unfold form1
    rcases hs2 : s1.drop (lead s1) with _ | ⟨c, t⟩
    · have := congrArg List.length hs2
      rw [List.length_drop, List.length_nil] at this
      have := lead_le s1
      rw [if_pos (by omega)]
    · have h1 := congrArg List.length hs2
      rw [List.length_drop, List.length_cons] at h1
      rw [hs2] at hp
      have hc : c ≠ 46 := fun e => by subst e; cases hp
      rw [if_neg (by omega)]
      show (if c = 46 then _ else _) = _
      rw [if_neg hc]
theorem behind_t {s1 t : List UInt8} (h0 : lead s1 ≠ 0) (hp : s1.drop (lead s1) = 46 :: t) (hl : lead t ≠ 0) : Behind s1 true (s1.take (lead s1)) (t.take (lead t)) (t.drop (lead t)) := by
  have hne : s1.take (lead s1) ≠ [] := fun e => by
    have := congrArg List.length e
    rw [List.length_take, List.length_nil] at this
    have := lead_le s1
    omega
  have hne2 : t.take (lead t) ≠ [] := fun e => by
    have := congrArg List.length e
    rw [List.length_take, List.length_nil] at this
    have := lead_le t
    omega
  refine ⟨?_, take_lead s1, hne, take_lead t, fun _ => hne2, (fun h => by cases h), ?_⟩
  · rw [if_pos rfl, List.append_assoc, List.cons_append, List.take_append_drop, ← hp, List.take_append_drop]
  · unfold form1
    have h1 := congrArg List.length hp
    rw [List.length_drop, List.length_cons] at h1
    rw [if_neg (by omega), hp]
    show (if (46 : UInt8) = 46 then (if lead t = 0 then false else tailL (t.drop (lead t))) else _) = _
    rw [if_pos rfl, if_neg hl]
    cases t.drop (lead t) <;> rfl
theorem form_no {s1 t : List UInt8} (hp : s1.drop (lead s1) = 46 :: t) (hl : lead t = 0) : form1 s1 = false := by
  unfold form1
  by_cases h : lead s1 = 0 ∨ lead s1 = s1.length
  · rw [if_pos h]
  · rw [if_neg h, hp]
    show (if (46 : UInt8) = 46 then (if lead t = 0 then false else _) else _) = _
    rw [if_pos rfl, if_pos hl]
/-- The parts that were read. -/
def RdOk (s0 : List UInt8) (bl : Bool) (D : List UInt8) (pt : Int) (low : Bool) (X : List UInt8) : Prop :=
  ∃ p : Parts, p.Ok ∧ p.text = s0 ∧ bl = p.neg ∧ D = p.W ++ p.Pt ∧ pt = p.Pt.length ∧ low = p.low ∧ X = p.X
theorem ok_end {s0 W Pt s3 : List UInt8} (h : Behind (trimT s0) true W Pt s3) (h3 : s3 = []) : RdOk s0 (negT s0) (W ++ Pt) Pt.length false [] := by
  subst h3
  obtain ⟨h1, h2, h3, h4, h5, h6, h7⟩ := h
  refine ⟨⟨negT s0, W, true, Pt, false, 69, false, []⟩, ⟨h2, h3, h4, h5, (fun h => by cases h), Digs.nil, (fun h => by cases h), fun _ => ⟨rfl, rfl⟩, .inl rfl, .inl rfl⟩, ?_, rfl, rfl, rfl, rfl, rfl⟩
  conv => rhs; rw [split_T s0, h1]
  unfold Parts.text Parts.body Parts.amt
  simp
theorem ok_exp {s0 W Pt t3 : List UInt8} {pb : Bool} {c3 : UInt8} (h : Behind (trimT s0) pb W Pt (c3 :: t3)) (hc : c3 = 69 ∨ c3 = 101) (hX : trimT t3 ≠ []) (hl : lead (trimT t3) = (trimT t3).length) :
    RdOk s0 (negT s0) (W ++ Pt) Pt.length (negT t3) (trimT t3) := by
  obtain ⟨h1, h2, h3, h4, h5, h6, h7⟩ := h
  have hdx : Digs (trimT t3) := by
    have := take_lead (trimT t3)
    rw [hl, List.take_length] at this
    exact this
  refine ⟨⟨negT s0, W, pb, Pt, true, c3, negT t3, trimT t3⟩, ⟨h2, h3, h4, h5, h6, hdx, fun _ => hX, (fun h => by cases h), hc, .inr rfl⟩, ?_, rfl, rfl, rfl, rfl, rfl⟩
  conv => rhs; rw [split_T s0, h1]
  unfold Parts.text Parts.body Parts.amt Parts.ex
  rw [if_pos rfl]
  show _ ++ (W ++ _ ++ c3 :: _) = _
  rw [← split_T t3, List.append_assoc]
/-- An operation that is taken first, its slot written out. -/
theorem take_at {P : Program} {md : Region.Mode} {ops : Array Oper} {Q : Exit → Act → World → Prop} {S : World → Prop} {i : Nat} {oi : Oper} {v : Value} {fuel : Nat} {listed : Array Bool} {a : Act} {w : World} (d : Option Tmp) (hi : ops[i]? = some oi) (hd : oi.dst = d)
    (hs : Region.noSelect ops = true) (hf : Region.free md ops listed i = true) (hr : (Region.ready md ops listed).contains i = true)
    (hQ : ∀ c a w, Q (.panic c) (a.put d v) w → Q (.panic c) a w) (hw : Region.wanted oi (yielded ops a.tmps) = true) (hS : S w) (hy : ∀ w, S w → (execOp a.eval oi).run P w = .ok (.value v) w)
    (h : wpAnyH P md ops Q S fuel (listed.setIfInBounds i true) (a.put d v) w) : wpAnyH P md ops Q S (fuel + 1) listed a w := by
  subst hd
  exact wpAnyH_take hi hs hf hr hQ (.inl ⟨hw, hy⟩) hS h
/-- An operation whose guard says no. -/
theorem skip_at {P : Program} {md : Region.Mode} {ops : Array Oper} {Q : Exit → Act → World → Prop} {S : World → Prop} {i : Nat} {oi : Oper} {fuel : Nat} {listed : Array Bool} {a : Act} {w : World} (d : Option Tmp) (hi : ops[i]? = some oi) (hd : oi.dst = d)
    (hs : Region.noSelect ops = true) (hf : Region.free md ops listed i = true) (hr : (Region.ready md ops listed).contains i = true)
    (hQ : ∀ c a w, Q (.panic c) (a.put d undef) w → Q (.panic c) a w) (hw : Region.wanted oi (yielded ops a.tmps) = false) (hS : S w)
    (h : wpAnyH P md ops Q S fuel (listed.setIfInBounds i true) (a.put d undef) w) : wpAnyH P md ops Q S (fuel + 1) listed a w := by
  subst hd
  exact wpAnyH_take hi hs hf hr hQ (.inr ⟨hw, rfl⟩) hS h

/-- What Read hands back. -/
def RdPost (s0 : List UInt8) (w : World) (e : Ending) (w' : World) : Prop :=
  ∃ (bl : Bool) (D : List UInt8) (pt : Int) (low : Bool) (X : List UInt8) (ok : Bool), e = .returned (.tuple #[.agg #[.bool bl, .string ⟨D.toArray⟩, .int .i64 pt, .bool low, .string ⟨X.toArray⟩], .bool ok]) ∧ ok = formL s0 ∧ (ok = true → RdOk s0 bl D pt low X) ∧ Below w.heap.size w w'

set_option maxRecDepth 100000 in
set_option maxHeartbeats 6000000 in
theorem read_any (s0 : List UInt8) (hs : s0.length ≤ 4096) (w : World) :
    Calls Tryz.prog 31 #[.string ⟨s0.toArray⟩] w (RdPost s0 w) := by
  have HI0 := Lib.hid (show RdI w ((w.alloc (.cells #[.bool false, .string ⟨#[]⟩, .int .i64 0, .bool false, .string ⟨#[]⟩] 57)).alloc (.cells #[.bool false, .string ⟨#[]⟩, .int .i64 0, .bool false, .string ⟨#[]⟩] 57)) false [] 0 false [] from by
    have h1 := Blk.new (w.alloc (.cells #[.bool false, .string ⟨#[]⟩, .int .i64 0, .bool false, .string ⟨#[]⟩] 57)) 57 #[.bool false, .string ⟨#[]⟩, .int .i64 0, .bool false, .string ⟨#[]⟩]
    have h2 := (Blk.new w 57 #[.bool false, .string ⟨#[]⟩, .int .i64 0, .bool false, .string ⟨#[]⟩]).alloc (.cells #[.bool false, .string ⟨#[]⟩, .int .i64 0, .bool false, .string ⟨#[]⟩] 57)
    have h3 := two_alloc w (.cells #[.bool false, .string ⟨#[]⟩, .int .i64 0, .bool false, .string ⟨#[]⟩] 57) (.cells #[.bool false, .string ⟨#[]⟩, .int .i64 0, .bool false, .string ⟨#[]⟩] 57)
    refine ⟨?_, h2, h3⟩
    rw [show w.heap.size + 1 = (w.alloc (.cells #[.bool false, .string ⟨#[]⟩, .int .i64 0, .bool false, .string ⟨#[]⟩] 57)).heap.size by simp]
    exact h1)
  have hl1 := trim_len s0
  go_enter Tryz.func31, Tryz.ntmps31
  go_upto_region 2 with fail
  generalize (w.alloc (.cells #[.bool false, .string ⟨#[]⟩, .int .i64 0, .bool false, .string ⟨#[]⟩] 57)).alloc (.cells #[.bool false, .string ⟨#[]⟩, .int .i64 0, .bool false, .string ⟨#[]⟩] 57) = w1 at *
  go_cut [15] from 8 (fun v wr => v = .bool (negT s0) ∧ wr = w1)
  case first =>
    rcases s0 with _ | ⟨c, t⟩
    · go_wp2_with fail
      go_meet
      case rel => exact ⟨rfl, rfl⟩
    · have z2 : 0 < (ByteArray.mk (c :: t).toArray).size := by rw [size_mk]; simp
      have z2i : (0 : Int) < ((ByteArray.mk (c :: t).toArray).size : Int) := by omega
      have y2 : (ByteArray.mk (c :: t).toArray)[0] = c := str_get rfl z2
      by_cases hc : c = 126
      · have q3 : ((c.toNat : Int) == 126) = true := b_true ((byte_int (d := 126) rfl).2 hc)
        have HN := Lib.hid (show negT (c :: t) = true by rw [hc]; exact hasT_cons t)
        clear hc
        go_wp2_with fail
        go_meet
        case rel => exact ⟨by rw [HN.out], rfl⟩
      · have q3 : ((c.toNat : Int) == 126) = false := b_false (fun h => hc ((byte_int (d := 126) rfl).1 h))
        have HN := Lib.hid (show negT (c :: t) = false from hasT_stop hc)
        clear hc
        go_wp2_with fail
        go_meet
        case rel => exact ⟨by rw [HN.out], rfl⟩
  case rest =>
    obtain ⟨rfl, rfl⟩ := hcut
    go_upto_if 15 with fail
    go_cut [0] from 8 (fun v wr => v = .string ⟨(trimT s0).toArray⟩ ∧ Hid (RdI w wr (negT s0) [] 0 false []))
    case first =>
      cases hng : negT s0
      · have HST := Lib.hid (show s0 = trimT s0 by have := split_T s0; rw [hng] at this; exact this)
        have HNG := Lib.hid hng
        clear hng
        go_wp2_with fail
        go_meet
        case rel => exact ⟨by rw [← HST.out], by rw [HNG.out]; exact HI0⟩
      · have hst : s0 = 126 :: trimT s0 := by have := split_T s0; rw [hng] at this; exact this
        have hlen := congrArg List.length hst
        rw [List.length_cons] at hlen
        have r1 : (1 : Int) ≤ (s0.length : Int) := by omega
        have x3 : (ByteArray.mk s0.toArray).extract 1 s0.length = ByteArray.mk (trimT s0).toArray := by
          rw [bytes_drop]
          have h := congrArg (List.drop 1) hst
          rw [show s0.drop 1 = trimT s0 from h]
        have HNG := Lib.hid hng
        have g0 := HI0.out.free 0
        obtain ⟨c0, _⟩ := HI0.out.cells
        clear hng hst hlen
        go_wp2_with fail
        go_meet
        case rel => exact ⟨rfl, by rw [HNG.out]; exact HI0.out.set0 true⟩
    case rest =>
      obtain ⟨rfl, HI⟩ := hcut
      clear HI0
      have HF0 := Lib.hid (form_1 s0)
      obtain ⟨s1, hs1⟩ : ∃ s1, trimT s0 = s1 := ⟨_, rfl⟩
      rw [hs1] at HF0 hl1 ⊢
      have HS1 := Lib.hid hs1
      clear hs1
      have hle := lead_le s1
      have HR : Hid (∀ w, Calls Tryz.prog 66 #[.string ⟨s1.toArray⟩, .int .i64 0] w fun e w' => e = .returned (.int .i64 (lead s1 : Nat)) ∧ w = w') := Lib.hid (fun w => run_any s1 0 (Nat.zero_le _) (by omega) w)
      by_cases h1 : lead s1 = 0
      · have HFF := Lib.hid (show false = formL s0 by rw [HF0.out]; unfold form1; rw [if_pos (.inl h1)])
        have q1 : ((lead s1 : Int) == 0) = true := b_true (by omega)
        generalize lead s1 = n1 at *
        clear h1
        obtain ⟨c0, c1, c2, c3, c4⟩ := HI.out.cells
        obtain ⟨y0, y1, y2, y3, y4⟩ := HI.out.cells2
        obtain ⟨f0, f1, f2, f3, f4⟩ := HI.out.free2
        go_wp2_with ((go_at_call 66; ((with_reducible refine (HR.out _).mono ?_); rintro e w' ⟨rfl, rfl⟩)))
        obtain ⟨hz, hb⟩ := HI.out.out5 (.bool (negT s0)) (.string ⟨([]).toArray⟩) (.int .i64 (0)) (.bool (false)) (.string ⟨([]).toArray⟩)
        obtain ⟨z0, z1, z2, z3, z4⟩ := cells5 hz
        unfold set5 at z0 z1 z2 z3 z4 hb
        refine bodyPost_ret (v := .tuple #[.agg #[.bool (negT s0), .string ⟨([]).toArray⟩, .int .i64 (0), .bool (false), .string ⟨([]).toArray⟩], .bool false]) (by simp [results, Tryz.results31, go_sem, z0, z1, z2, z3, z4]) rfl ⟨_, _, _, _, _, _, rfl, HFF.out, fun h => (by cases h), hb⟩
      · have q1 : ((lead s1 : Int) == 0) = false := b_false (by omega)
        have r1 : (lead s1 : Int) ≤ (s1.length : Int) := by omega
        have xt : (ByteArray.mk s1.toArray).extract 0 (lead s1) = ByteArray.mk (s1.take (lead s1)).toArray := bytes_take _ _
        have xd : (ByteArray.mk s1.toArray).extract (lead s1) s1.length = ByteArray.mk (s1.drop (lead s1)).toArray := bytes_drop _ _
        have hl2 : (s1.drop (lead s1)).length ≤ 4096 := by rw [List.length_drop]; omega
        obtain ⟨c0, c1, c2, c3, c4⟩ := HI.out.cells
        have g1 := HI.out.free 1
        have HI1 := Lib.hid (HI.out.set1 (s1.take (lead s1)))
        have H1 := Lib.hid h1
        have HBF := Lib.hid (behind_f (s1 := s1) h1)
        have HBT := Lib.hid (fun t => behind_t (s1 := s1) (t := t) h1)
        have HFN := Lib.hid (fun t => form_no (s1 := s1) (t := t))
        have HWL := Lib.hid (show (s1.take (lead s1)).length ≤ 4096 by rw [List.length_take]; omega)
        generalize s1.take (lead s1) = W at *
        generalize s1.drop (lead s1) = s2 at *
        generalize lead s1 = n1 at *
        clear h1 HI
        go_upto_region 10 with ((go_at_call 66; ((with_reducible refine (HR.out _).mono ?_); rintro e w' ⟨rfl, rfl⟩)))
        clear c0 c1 c2 c3 c4 g1 q1 r1 xt xd
        generalize wc.setCell ⟨w.heap.size + 1, 1, none⟩ (.string ⟨W.toArray⟩) = w2 at *
        go_cut [6] from 8 (fun v wr => v = .bool (pointB s2) ∧ wr = w2)
        case first =>
          rcases s2 with _ | ⟨c, t⟩
          · go_wp2_with fail
            go_meet
            case rel => exact ⟨rfl, rfl⟩
          · have z2 : 0 < (ByteArray.mk (c :: t).toArray).size := by rw [size_mk]; simp
            have z2i : (0 : Int) < ((ByteArray.mk (c :: t).toArray).size : Int) := by omega
            have y2 : (ByteArray.mk (c :: t).toArray)[0] = c := str_get rfl z2
            by_cases hc : c = 46
            · have q3 : ((c.toNat : Int) == 46) = true := b_true ((byte_int (d := 46) rfl).2 hc)
              have HN := Lib.hid (show pointB (c :: t) = true by rw [hc]; rfl)
              clear hc
              go_wp2_with fail
              go_meet
              case rel => exact ⟨by rw [HN.out], rfl⟩
            · have q3 : ((c.toNat : Int) == 46) = false := b_false (fun h => hc ((byte_int (d := 46) rfl).1 h))
              have HN := Lib.hid (show pointB (c :: t) = false by show (c == 46) = false; simpa using hc)
              clear hc
              go_wp2_with fail
              go_meet
              case rel => exact ⟨by rw [HN.out], rfl⟩
        case rest =>
          obtain ⟨rfl, rfl⟩ := hcut
          go_upto_if 39 with fail
          go_cut [0, 5, 6] from 8 (fun v v5 v6 wr => v6 = .bool (pointB s2) ∧ ∃ Pt s3 : List UInt8, v = .string ⟨s3.toArray⟩ ∧ s3.length ≤ 4096 ∧ Hid (RdI w wr (negT s0) (W ++ Pt) Pt.length false []) ∧ Hid (Behind s1 (pointB s2) W Pt s3))
          case first =>
            cases hpb : pointB s2
            · have HBH := Lib.hid (HBF.out hpb)
              have HPB := Lib.hid hpb
              clear hpb
              go_wp2_with fail
              go_meet
              case rel => exact ⟨by first | rfl | rw [HPB.out], [], s2, rfl, hl2, by rw [List.append_nil]; exact HI1, by rw [HPB.out]; exact HBH⟩
            · obtain ⟨t, ht⟩ : ∃ t, s2 = 46 :: t := by
                rcases s2 with _ | ⟨c, t⟩
                · cases hpb
                · exact ⟨t, by rw [show c = 46 by simpa [pointB] using hpb]⟩
              have hlt := congrArg List.length ht
              rw [List.length_cons] at hlt
              have hld := lead_le t
              have hdr : s2.drop 1 = t := by rw [ht]; rfl
              have HR2 : Hid (∀ w, Calls Tryz.prog 66 #[.string ⟨s2.toArray⟩, .int .i64 1] w fun e w' => e = .returned (.int .i64 (lead t : Nat)) ∧ w = w') := Lib.hid (fun w => by
                have := run_any s2 1 (by omega) (by omega) w
                rw [hdr] at this
                exact this)
              by_cases h4 : lead t = 0
              · have HFF := Lib.hid (show false = formL s0 by rw [HF0.out, HFN.out t ht h4])
                have q4 : ((lead t : Int) == 0) = true := b_true (by omega)
                generalize lead t = n2 at *
                clear h4 ht hdr hpb
                obtain ⟨c0, c1, c2, c3, c4⟩ := HI1.out.cells
                obtain ⟨y0, y1, y2, y3, y4⟩ := HI1.out.cells2
                obtain ⟨f0, f1, f2, f3, f4⟩ := HI1.out.free2
                go_wp2_with ((go_at_call 66; ((with_reducible refine (HR2.out _).mono ?_); rintro e w' ⟨rfl, rfl⟩)))
                obtain ⟨hz, hb⟩ := HI1.out.out5 (.bool (negT s0)) (.string ⟨(W).toArray⟩) (.int .i64 (0)) (.bool (false)) (.string ⟨([]).toArray⟩)
                obtain ⟨z0, z1, z2, z3, z4⟩ := cells5 hz
                unfold set5 at z0 z1 z2 z3 z4 hb
                refine bodyPost_ret (v := .tuple #[.agg #[.bool (negT s0), .string ⟨(W).toArray⟩, .int .i64 (0), .bool (false), .string ⟨([]).toArray⟩], .bool false]) (by simp [results, Tryz.results31, go_sem, z0, z1, z2, z3, z4]) rfl ⟨_, _, _, _, _, _, rfl, HFF.out, fun h => (by cases h), hb⟩
              · have HBH := Lib.hid (HBT.out t ht h4)
                have HPB := Lib.hid hpb
                have q4 : ((lead t : Int) == 0) = false := b_false (by omega)
                have r2 : (lead t : Int) + 1 ≤ (s2.length : Int) := by omega
                have r3 : (1 : Int) ≤ (lead t : Int) + 1 := by omega
                have xs : (ByteArray.mk s2.toArray).extract 1 (lead t + 1) = ByteArray.mk (t.take (lead t)).toArray := by
                  rw [ht]
                  apply ByteArray.ext
                  rw [ByteArray.data_extract]
                  show (46 :: t).toArray.extract 1 (lead t + 1) = (t.take (lead t)).toArray
                  rw [List.extract_toArray]
                  simp [List.extract]
                have xd : (ByteArray.mk s2.toArray).extract (lead t + 1) s2.length = ByteArray.mk (t.drop (lead t)).toArray := by rw [bytes_drop, ht]; rfl
                have hn2 : lead t ≤ 5000 := by omega
                have HL3 := Lib.hid (show (t.drop (lead t)).length ≤ 4096 by rw [List.length_drop]; omega)
                have HNL := Lib.hid (show (t.take (lead t)).length = lead t by rw [List.length_take]; omega)
                have k1 : ∀ w, (Op.stringOp .add ⟨W.toArray⟩ ⟨(t.take (lead t)).toArray⟩).run Tryz.prog w = .ok (.string ⟨(W ++ t.take (lead t)).toArray⟩) w := fun w => cat9 W (t.take (lead t)) (by have := HWL.out; omega) (by rw [List.length_take]; omega) w
                generalize t.take (lead t) = Pt at *
                generalize t.drop (lead t) = s3 at *
                generalize lead t = n2 at *
                clear h4 ht hdr hpb hld hlt
                obtain ⟨c0, c1, c2, c3, c4⟩ := HI1.out.cells
                have g1 := HI1.out.free 1
                have g2 := HI1.out.free 2
                go_wp2_with ((go_at_call 66; ((with_reducible refine (HR2.out _).mono ?_); rintro e w' ⟨rfl, rfl⟩)))
                go_region
                go_wp2_with fail
                go_meet
                case rel => exact ⟨by first | rfl | rw [HPB.out], Pt, s3, rfl, HL3.out, by rw [HNL.out]; exact ((HI1.out.drewN 1).set1 (W ++ Pt)).set2 n2, by rw [HPB.out]; exact HBH⟩
          case rest =>
            obtain ⟨rfl, Pt, s3, rfl, hl3, HI3, HBH⟩ := hcut
            generalize pointB s2 = pb at *
            clear HI1 HBF HBT HFN HR H1 hl2 hle
            have HF1 := Lib.hid (HF0.out.trans HBH.out.2.2.2.2.2.2)
            rcases s3 with _ | ⟨c3, t3⟩
            · have HOK := Lib.hid (fun (h : pb = true) => (show RdOk s0 (negT s0) (W ++ Pt) Pt.length false [] from ok_end (by rw [HS1.out, ← h]; exact HBH.out) rfl))
              have HFF := Lib.hid (show pb = formL s0 by rw [HF1.out])
              obtain ⟨c0, c1, c2, c3, c4⟩ := HI3.out.cells
              obtain ⟨y0, y1, y2, y3, y4⟩ := HI3.out.cells2
              obtain ⟨f0, f1, f2, f3, f4⟩ := HI3.out.free2
              go_wp2_with fail
              obtain ⟨hz, hb⟩ := HI3.out.out5 (.bool (negT s0)) (.string ⟨(W ++ Pt).toArray⟩) (.int .i64 ((Pt.length : Int))) (.bool (false)) (.string ⟨([]).toArray⟩)
              obtain ⟨z0, z1, z2, z3, z4⟩ := cells5 hz
              unfold set5 at z0 z1 z2 z3 z4 hb
              refine bodyPost_ret (v := .tuple #[.agg #[.bool (negT s0), .string ⟨(W ++ Pt).toArray⟩, .int .i64 ((Pt.length : Int)), .bool (false), .string ⟨([]).toArray⟩], .bool pb]) (by simp [results, Tryz.results31, go_sem, z0, z1, z2, z3, z4]) rfl ⟨_, _, _, _, _, _, rfl, HFF.out, fun h => HOK.out h, hb⟩
            · have z3 : 0 < (ByteArray.mk (c3 :: t3).toArray).size := by rw [size_mk]; simp
              have z3i : (0 : Int) < ((ByteArray.mk (c3 :: t3).toArray).size : Int) := by omega
              have y3 : (ByteArray.mk (c3 :: t3).toArray)[0] = c3 := str_get rfl z3
              rw [List.length_cons] at hl3
              go_upto_region 20 with fail
              go_cut [71] from 8 (fun v wr => v = .bool (!(c3 == 69 || c3 == 101)) ∧ wr = wc)
              case first =>
                by_cases h69 : c3 = 69
                · have q3 : ((c3.toNat : Int) != 69) = false := n_false ((byte_int (d := 69) rfl).2 h69)
                  have HN := Lib.hid (show (!(c3 == 69 || c3 == 101)) = false by rw [h69]; rfl)
                  clear h69
                  go_wp2_with fail
                  go_meet
                  case rel => exact ⟨by rw [HN.out], rfl⟩
                · have q3 : ((c3.toNat : Int) != 69) = true := n_true (fun h => h69 ((byte_int (d := 69) rfl).1 h))
                  by_cases h101 : c3 = 101
                  · have q4 : ((c3.toNat : Int) != 101) = false := n_false ((byte_int (d := 101) rfl).2 h101)
                    have HN := Lib.hid (show (!(c3 == 69 || c3 == 101)) = false by rw [h101]; rfl)
                    clear h69 h101
                    go_wp2_with fail
                    go_meet
                    case rel => exact ⟨by rw [HN.out], rfl⟩
                  · have q4 : ((c3.toNat : Int) != 101) = true := n_true (fun h => h101 ((byte_int (d := 101) rfl).1 h))
                    have HN := Lib.hid (show (!(c3 == 69 || c3 == 101)) = true by simp [h69, h101])
                    clear h69 h101
                    go_wp2_with fail
                    go_meet
                    case rel => exact ⟨by rw [HN.out], rfl⟩
              case rest =>
                obtain ⟨rfl, rfl⟩ := hcut
                by_cases hE : c3 = 69 ∨ c3 = 101
                · have hEB : (!(c3 == 69 || c3 == 101)) = false := by rcases hE with h | h <;> rw [h] <;> rfl
                  rw [hEB]
                  have HE := Lib.hid hE
                  have HTL := Lib.hid (show formL s0 = (!(trimT t3).isEmpty && (lead (trimT t3) == (trimT t3).length)) by
                    rw [HF1.out]
                    show (if c3 = 69 ∨ c3 = 101 then _ else false) = _
                    rw [if_pos hE])
                  have HOX := Lib.hid (fun h1 h2 => ok_exp (s0 := s0) (W := W) (Pt := Pt) (t3 := t3) (pb := pb) (by rw [HS1.out]; exact HBH.out) hE h1 h2)
                  have r3 : (1 : Int) ≤ ((t3.length : Int) + 1) := by omega
                  have x3 : (ByteArray.mk (c3 :: t3).toArray).extract 1 (t3.length + 1) = ByteArray.mk t3.toArray := bytes_drop (c3 :: t3) 1
                  clear hE hEB
                  go_upto_region 23 with fail
                  clear y3 z3 z3i r3 x3
                  go_cut [82] from 8 (fun v wr => v = .bool (negT t3) ∧ wr = wc)
                  case first =>
                    rcases t3 with _ | ⟨c, t⟩
                    · go_wp2_with fail
                      go_meet
                      case rel => exact ⟨rfl, rfl⟩
                    · have z2 : 0 < (ByteArray.mk (c :: t).toArray).size := by rw [size_mk]; simp
                      have z2i : (0 : Int) < ((ByteArray.mk (c :: t).toArray).size : Int) := by omega
                      have y2 : (ByteArray.mk (c :: t).toArray)[0] = c := str_get rfl z2
                      by_cases hc : c = 126
                      · have q3 : ((c.toNat : Int) == 126) = true := b_true ((byte_int (d := 126) rfl).2 hc)
                        have HN := Lib.hid (show negT (c :: t) = true by rw [hc]; exact hasT_cons t)
                        clear hc
                        go_wp2_with fail
                        go_meet
                        case rel => exact ⟨by rw [HN.out], rfl⟩
                      · have q3 : ((c.toNat : Int) == 126) = false := b_false (fun h => hc ((byte_int (d := 126) rfl).1 h))
                        have HN := Lib.hid (show negT (c :: t) = false from hasT_stop hc)
                        clear hc
                        go_wp2_with fail
                        go_meet
                        case rel => exact ⟨by rw [HN.out], rfl⟩
                  case rest =>
                    obtain ⟨rfl, rfl⟩ := hcut
                    go_upto_if 82 with fail
                    go_cut [0] from 8 (fun v wr => v = .string ⟨(trimT t3).toArray⟩ ∧ Hid (RdI w wr (negT s0) (W ++ Pt) Pt.length (negT t3) []))
                    case first =>
                      cases hng : negT t3
                      · have HST := Lib.hid (show t3 = trimT t3 by have := split_T t3; rw [hng] at this; exact this)
                        have HNG := Lib.hid hng
                        clear hng
                        go_wp2_with fail
                        go_meet
                        case rel => exact ⟨by rw [← HST.out], by rw [HNG.out]; exact HI3⟩
                      · have hst : t3 = 126 :: trimT t3 := by have := split_T t3; rw [hng] at this; exact this
                        have hlen := congrArg List.length hst
                        rw [List.length_cons] at hlen
                        have r1 : (1 : Int) ≤ (t3.length : Int) := by omega
                        have x3 : (ByteArray.mk t3.toArray).extract 1 t3.length = ByteArray.mk (trimT t3).toArray := by
                          rw [bytes_drop]
                          have h := congrArg (List.drop 1) hst
                          rw [show t3.drop 1 = trimT t3 from h]
                        have HNG := Lib.hid hng
                        have g3 := HI3.out.free 3
                        obtain ⟨c0, c1, c2, c3', c4⟩ := HI3.out.cells
                        clear hng hst hlen
                        go_wp2_with fail
                        go_meet
                        case rel => exact ⟨rfl, by rw [HNG.out]; exact HI3.out.set3 true⟩
                    case rest =>
                      obtain ⟨rfl, HI4⟩ := hcut
                      have hls := trim_len t3
                      generalize negT t3 = lw at *
                      generalize trimT t3 = s5 at *
                      clear HI3 HF1 HF0 HBH
                      have g4 := HI4.out.free 4
                      obtain ⟨c0, c1, c2, c3', c4⟩ := HI4.out.cells
                      have HI5 := Lib.hid (HI4.out.set4 s5)
                      go_upto_region 27 with fail
                      clear c0 c1 c2 c3' c4 g4
                      generalize wc.setCell ⟨w.heap.size + 1, 4, none⟩ (.string ⟨s5.toArray⟩) = w5 at *
                      have HR5 : Hid (∀ w, Calls Tryz.prog 66 #[.string ⟨s5.toArray⟩, .int .i64 0] w fun e w' => e = .returned (.int .i64 (lead s5 : Nat)) ∧ w = w') := Lib.hid (fun w => run_any s5 0 (Nat.zero_le _) (by omega) w)
                      have HI6 := Lib.hid (show RdI w w5.drew (negT s0) (W ++ Pt) Pt.length lw s5 from HI5.out.drewN 1)
                      obtain ⟨c0, c1, c2, c3', c4⟩ := HI6.out.cells
                      obtain ⟨y0, y1, y2, y3', y4⟩ := HI6.out.cells2
                      obtain ⟨f0, f1, f2, f3, f4⟩ := HI6.out.free2
                      obtain ⟨y5, y6, y7, y8, y9⟩ := HI5.out.cells2
                      obtain ⟨f5, f6, f7, f8, f9⟩ := HI5.out.free2
                      have HK := Lib.hid (And.intro c0 (And.intro c1 (And.intro c2 (And.intro c3' c4))))
                      obtain ⟨d0, d1, d2, d3, d4⟩ := HI5.out.cells
                      have HK5 := Lib.hid (And.intro d0 (And.intro d1 (And.intro d2 (And.intro d3 d4))))
                      clear d0 d1 d2 d3 d4
                      have HN6 : Hid (∀ (v : Value) (i : Nat) (x : Value) (w' : World) (j : Nat), w'.cell? ⟨w.heap.size + 1, i, none⟩ = some v → (w'.setCell ⟨w.heap.size, j, none⟩ x).cell? ⟨w.heap.size + 1, i, none⟩ = some v) := Lib.hid fun v i x w' j h => by
                        rw [World.cell?_setCell_other _ _ _ _ (fun e => by have := congrArg Addr.block e; simp at this)]; exact h
                      have HND : Hid (∀ (v : Value) (i : Nat) (w' : World), w'.cell? ⟨w.heap.size + 1, i, none⟩ = some v → w'.drew.cell? ⟨w.heap.size + 1, i, none⟩ = some v) := Lib.hid fun v i w' h => by rw [World.cell?_drew]; exact h
                      have HS7 := Lib.hid (show (((((w5.setCell ⟨w.heap.size, 0, none⟩ (.bool (negT s0))).setCell ⟨w.heap.size, 1, none⟩ (.string ⟨(W ++ Pt).toArray⟩)).setCell ⟨w.heap.size, 2, none⟩ (.int .i64 (Pt.length : Int))).setCell ⟨w.heap.size, 3, none⟩ (.bool lw)).setCell ⟨w.heap.size, 4, none⟩ (.string ⟨s5.toArray⟩)).drew.cell? ⟨w.heap.size + 1, 0, none⟩ = some (.bool (negT s0)) ∧ (((((w5.setCell ⟨w.heap.size, 0, none⟩ (.bool (negT s0))).setCell ⟨w.heap.size, 1, none⟩ (.string ⟨(W ++ Pt).toArray⟩)).setCell ⟨w.heap.size, 2, none⟩ (.int .i64 (Pt.length : Int))).setCell ⟨w.heap.size, 3, none⟩ (.bool lw)).setCell ⟨w.heap.size, 4, none⟩ (.string ⟨s5.toArray⟩)).drew.cell? ⟨w.heap.size + 1, 1, none⟩ = some (.string ⟨(W ++ Pt).toArray⟩) ∧ (((((w5.setCell ⟨w.heap.size, 0, none⟩ (.bool (negT s0))).setCell ⟨w.heap.size, 1, none⟩ (.string ⟨(W ++ Pt).toArray⟩)).setCell ⟨w.heap.size, 2, none⟩ (.int .i64 (Pt.length : Int))).setCell ⟨w.heap.size, 3, none⟩ (.bool lw)).setCell ⟨w.heap.size, 4, none⟩ (.string ⟨s5.toArray⟩)).drew.cell? ⟨w.heap.size + 1, 2, none⟩ = some (.int .i64 (Pt.length : Int)) ∧ (((((w5.setCell ⟨w.heap.size, 0, none⟩ (.bool (negT s0))).setCell ⟨w.heap.size, 1, none⟩ (.string ⟨(W ++ Pt).toArray⟩)).setCell ⟨w.heap.size, 2, none⟩ (.int .i64 (Pt.length : Int))).setCell ⟨w.heap.size, 3, none⟩ (.bool lw)).setCell ⟨w.heap.size, 4, none⟩ (.string ⟨s5.toArray⟩)).drew.cell? ⟨w.heap.size + 1, 3, none⟩ = some (.bool lw) ∧ (((((w5.setCell ⟨w.heap.size, 0, none⟩ (.bool (negT s0))).setCell ⟨w.heap.size, 1, none⟩ (.string ⟨(W ++ Pt).toArray⟩)).setCell ⟨w.heap.size, 2, none⟩ (.int .i64 (Pt.length : Int))).setCell ⟨w.heap.size, 3, none⟩ (.bool lw)).setCell ⟨w.heap.size, 4, none⟩ (.string ⟨s5.toArray⟩)).drew.cell? ⟨w.heap.size + 1, 4, none⟩ = some (.string ⟨s5.toArray⟩) from ⟨HND.out _ _ _ (HN6.out _ _ _ _ _ (HN6.out _ _ _ _ _ (HN6.out _ _ _ _ _ (HN6.out _ _ _ _ _ (HN6.out _ _ _ _ _ HK5.out.1))))), HND.out _ _ _ (HN6.out _ _ _ _ _ (HN6.out _ _ _ _ _ (HN6.out _ _ _ _ _ (HN6.out _ _ _ _ _ (HN6.out _ _ _ _ _ HK5.out.2.1))))), HND.out _ _ _ (HN6.out _ _ _ _ _ (HN6.out _ _ _ _ _ (HN6.out _ _ _ _ _ (HN6.out _ _ _ _ _ (HN6.out _ _ _ _ _ HK5.out.2.2.1))))), HND.out _ _ _ (HN6.out _ _ _ _ _ (HN6.out _ _ _ _ _ (HN6.out _ _ _ _ _ (HN6.out _ _ _ _ _ (HN6.out _ _ _ _ _ HK5.out.2.2.2.1))))), HND.out _ _ _ (HN6.out _ _ _ _ _ (HN6.out _ _ _ _ _ (HN6.out _ _ _ _ _ (HN6.out _ _ _ _ _ (HN6.out _ _ _ _ _ HK5.out.2.2.2.2)))))⟩)
                      by_cases h5 : s5 = []
                      · have HFF := Lib.hid (show false = formL s0 by rw [HTL.out, h5]; rfl)
                        subst h5
                        refine wp_region_held_drew (S := (fun w' : World => w'.cell? ⟨w.heap.size + 1, 0, none⟩ = some (.bool (negT s0)) ∧ w'.cell? ⟨w.heap.size + 1, 1, none⟩ = some (.string ⟨(W ++ Pt).toArray⟩) ∧ w'.cell? ⟨w.heap.size + 1, 2, none⟩ = some (.int .i64 (Pt.length : Int)) ∧ w'.cell? ⟨w.heap.size + 1, 3, none⟩ = some (.bool lw) ∧ w'.cell? ⟨w.heap.size + 1, 4, none⟩ = some (.string ⟨([] : List UInt8).toArray⟩))) (by kernel_rfl) HK.out (fun hHeld => ?_)
                        refine take_at (i := 0) (v := ?_) (some 88) rfl rfl (by kernel_rfl) (by kernel_rfl) (by kernel_rfl) (fun _ _ _ h => h) (by rfl) (by assumption) ?_ ?_
                        rotate_left
                        · intro wq hSw
                          (try dsimp only at hSw)
                          go_simp
                          all_goals (try with_reducible rfl)
                        (try simp only [Act.put, List.setIfInBounds_toArray, List.set_cons_zero, List.set_cons_succ])
                        refine take_at (i := 1) (v := ?_) (some 89) rfl rfl (by kernel_rfl) (by kernel_rfl) (by kernel_rfl) (fun _ _ _ h => h) (by rfl) (by assumption) ?_ ?_
                        rotate_left
                        · intro wq hSw
                          (try dsimp only at hSw)
                          go_simp
                          all_goals (try with_reducible rfl)
                        (try simp only [Act.put, List.setIfInBounds_toArray, List.set_cons_zero, List.set_cons_succ])
                        refine take_at (i := 2) (v := ?_) (some 90) rfl rfl (by kernel_rfl) (by kernel_rfl) (by kernel_rfl) (fun _ _ _ h => h) (by rfl) (by assumption) ?_ ?_
                        rotate_left
                        · intro wq hSw
                          (try dsimp only at hSw)
                          go_simp
                          all_goals (try with_reducible rfl)
                        (try simp only [Act.put, List.setIfInBounds_toArray, List.set_cons_zero, List.set_cons_succ])
                        refine take_at (i := 3) (v := ?_) (some 91) rfl rfl (by kernel_rfl) (by kernel_rfl) (by kernel_rfl) (fun _ _ _ h => h) (by rfl) (by assumption) ?_ ?_
                        rotate_left
                        · intro wq hSw
                          (try dsimp only at hSw)
                          go_simp
                          all_goals (try with_reducible rfl)
                        (try simp only [Act.put, List.setIfInBounds_toArray, List.set_cons_zero, List.set_cons_succ])
                        refine take_at (i := 4) (v := ?_) (some 92) rfl rfl (by kernel_rfl) (by kernel_rfl) (by kernel_rfl) (fun _ _ _ h => h) (by rfl) (by assumption) ?_ ?_
                        rotate_left
                        · intro wq hSw
                          (try dsimp only at hSw)
                          go_simp
                          all_goals (try with_reducible rfl)
                        (try simp only [Act.put, List.setIfInBounds_toArray, List.set_cons_zero, List.set_cons_succ])
                        refine skip_at (i := 5) (some 93) rfl rfl (by kernel_rfl) (by kernel_rfl) (by kernel_rfl) (fun _ _ _ h => h) (by rfl) (by assumption) ?_
                        (try simp only [Act.put, List.setIfInBounds_toArray, List.set_cons_zero, List.set_cons_succ])
                        refine skip_at (i := 6) (some 94) rfl rfl (by kernel_rfl) (by kernel_rfl) (by kernel_rfl) (fun _ _ _ h => h) (by rfl) (by assumption) ?_
                        (try simp only [Act.put, List.setIfInBounds_toArray, List.set_cons_zero, List.set_cons_succ])
                        refine skip_at (i := 7) (some 95) rfl rfl (by kernel_rfl) (by kernel_rfl) (by kernel_rfl) (fun _ _ _ h => h) (by rfl) (by assumption) ?_
                        (try simp only [Act.put, List.setIfInBounds_toArray, List.set_cons_zero, List.set_cons_succ])
                        refine skip_at (i := 8) (some 96) rfl rfl (by kernel_rfl) (by kernel_rfl) (by kernel_rfl) (fun _ _ _ h => h) (by rfl) (by assumption) ?_
                        (try simp only [Act.put, List.setIfInBounds_toArray, List.set_cons_zero, List.set_cons_succ])
                        refine skip_at (i := 9) (some 97) rfl rfl (by kernel_rfl) (by kernel_rfl) (by kernel_rfl) (fun _ _ _ h => h) (by rfl) (by assumption) ?_
                        (try simp only [Act.put, List.setIfInBounds_toArray, List.set_cons_zero, List.set_cons_succ])
                        refine take_at (i := 10) (v := ?_) (some 98) rfl rfl (by kernel_rfl) (by kernel_rfl) (by kernel_rfl) (fun _ _ _ h => h) (by rfl) (by assumption) ?_ ?_
                        rotate_left
                        · intro wq hSw
                          (try dsimp only at hSw)
                          go_simp
                          all_goals (try with_reducible rfl)
                        (try simp only [Act.put, List.setIfInBounds_toArray, List.set_cons_zero, List.set_cons_succ])
                        refine wpAnyH_ready (rs := [11]) (by kernel_rfl) (by simp) ?_
                        refine AllReadyH.cons rfl (fun K hK => ?_) AllReadyH.nil
                        rw [if_pos (by rfl)]
                        go_simp
                        with_reducible refine hK.out _ _ HS7.out (fun hHeld2 => ?_)
                        clear hK K hHeld
                        (try simp only [Act.put, List.setIfInBounds_toArray, List.set_cons_zero, List.set_cons_succ])
                        refine take_at (i := 12) (v := ?_) (some 3) rfl rfl (by kernel_rfl) (by kernel_rfl) (by kernel_rfl) (fun _ _ _ h => h) (by rfl) (by assumption) ?_ ?_
                        rotate_left
                        · intro wq hSw
                          (try dsimp only at hSw)
                          go_simp
                          all_goals (try with_reducible rfl)
                        (try simp only [Act.put, List.setIfInBounds_toArray, List.set_cons_zero, List.set_cons_succ])
                        refine wpAnyH_done (by kernel_rfl) ?_ _
                        go_wp2_with fail
                        obtain ⟨hz, hb⟩ := HI5.out.out5 (.bool (negT s0)) (.string ⟨(W ++ Pt).toArray⟩) (.int .i64 ((Pt.length : Int))) (.bool (lw)) (.string ⟨(([] : List UInt8)).toArray⟩)
                        obtain ⟨z0, z1, z2, z3, z4⟩ := cells5 hz
                        unfold set5 at z0 z1 z2 z3 z4 hb
                        refine bodyPost_ret (v := .tuple #[.agg #[.bool (negT s0), .string ⟨(W ++ Pt).toArray⟩, .int .i64 ((Pt.length : Int)), .bool (lw), .string ⟨(([] : List UInt8)).toArray⟩], .bool (false)]) (by simp [results, Tryz.results31, go_sem, z0, z1, z2, z3, z4]) rfl ⟨_, _, _, _, _, _, rfl, HFF.out, fun h => (by cases h), hb.drew⟩
                      · have hpos : 0 < s5.length := List.length_pos_iff.2 h5
                        have ql : decide ((0 : Int) < (s5.length : Int)) = true := decide_eq_true (by omega)
                        have ql2 : decide (0 < s5.length) = true := decide_eq_true (by omega)
                        have HFF := Lib.hid (show ((lead s5 : Int) == (s5.length : Int)) = formL s0 by
                          rw [HTL.out]
                          have e : s5.isEmpty = false := by cases s5 <;> simp_all
                          rw [e]
                          by_cases h : lead s5 = s5.length
                          · rw [b_true (by omega), h]; simp
                          · rw [b_false (by omega)]; simp [h])
                        have HOK := Lib.hid (fun (h : ((lead s5 : Int) == (s5.length : Int)) = true) => HOX.out h5 (by have := beq_iff_eq.1 h; omega))
                        generalize lead s5 = n5 at *
                        clear h5
                        first
                          | go_region_held3 (fun w' => w'.cell? ⟨w.heap.size + 1, 0, none⟩ = some (.bool (negT s0)) ∧ w'.cell? ⟨w.heap.size + 1, 1, none⟩ = some (.string ⟨(W ++ Pt).toArray⟩) ∧ w'.cell? ⟨w.heap.size + 1, 2, none⟩ = some (.int .i64 (Pt.length : Int)) ∧ w'.cell? ⟨w.heap.size + 1, 3, none⟩ = some (.bool lw) ∧ w'.cell? ⟨w.heap.size + 1, 4, none⟩ = some (.string ⟨s5.toArray⟩))
                              (first | with_reducible exact HK.out | with_reducible exact HS7.out | go_keep)
                              (first
                                | (go_at_call 66; ((with_reducible refine (HR5.out _).mono ?_); rintro e w' ⟨rfl, rfl⟩)))
                          | fail
                        go_wp2_with fail
                        obtain ⟨hz, hb⟩ := HI5.out.out5 (.bool (negT s0)) (.string ⟨(W ++ Pt).toArray⟩) (.int .i64 ((Pt.length : Int))) (.bool (lw)) (.string ⟨(s5).toArray⟩)
                        obtain ⟨z0, z1, z2, z3, z4⟩ := cells5 hz
                        unfold set5 at z0 z1 z2 z3 z4 hb
                        refine bodyPost_ret (v := .tuple #[.agg #[.bool (negT s0), .string ⟨(W ++ Pt).toArray⟩, .int .i64 ((Pt.length : Int)), .bool (lw), .string ⟨(s5).toArray⟩], .bool (((n5 : Int) == (s5.length : Int)))]) (by simp [results, Tryz.results31, go_sem, z0, z1, z2, z3, z4]) rfl ⟨_, _, _, _, _, _, rfl, HFF.out, fun h => HOK.out h, hb.drew⟩
                · have hEB : (!(c3 == 69 || c3 == 101)) = true := by simp only [not_or] at hE; simp [hE.1, hE.2]
                  rw [hEB]
                  have HFF := Lib.hid (show false = formL s0 by
                    rw [HF1.out]
                    show false = (if c3 = 69 ∨ c3 = 101 then _ else false)
                    rw [if_neg hE])
                  clear hE hEB
                  obtain ⟨c0, c1, c2, c3, c4⟩ := HI3.out.cells
                  obtain ⟨y0, y1, y2, y3, y4⟩ := HI3.out.cells2
                  obtain ⟨f0, f1, f2, f3, f4⟩ := HI3.out.free2
                  go_wp2_with fail
                  obtain ⟨hz, hb⟩ := HI3.out.out5 (.bool (negT s0)) (.string ⟨(W ++ Pt).toArray⟩) (.int .i64 ((Pt.length : Int))) (.bool (false)) (.string ⟨([]).toArray⟩)
                  obtain ⟨z0, z1, z2, z3, z4⟩ := cells5 hz
                  unfold set5 at z0 z1 z2 z3 z4 hb
                  refine bodyPost_ret (v := .tuple #[.agg #[.bool (negT s0), .string ⟨(W ++ Pt).toArray⟩, .int .i64 ((Pt.length : Int)), .bool (false), .string ⟨([]).toArray⟩], .bool false]) (by simp [results, Tryz.results31, go_sem, z0, z1, z2, z3, z4]) rfl ⟨_, _, _, _, _, _, rfl, HFF.out, fun h => (by cases h), hb⟩
end Go.Proofs.YtijncfidjjfmiaaGreatDoor
