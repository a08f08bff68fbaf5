/- Lambda: which nodes are made: the program's below, the reference's. Lambda: which nodes are made: the reference's below. Lambda: the reference's in, what a node binds (both). Lambda: the reference's put. Lambda: union. Lambda: the library's search among rising ints. Lambda: is one of a list's ints in a set; without. Lambda: without. Lambda: with, where the new one is the greatest. Lambda: the primitives' table: those of one type's order and sums. Lambda: which ints and texts are right; which keys are keys. Lambda: which keys are keys: the program's keyed. Lambda: which keys are keys: of a list, both ways. Lambda: which keys are keys: the reference's. Lambda: a node that binds functions: its form, both ways. -/
import Derived.Test.YtjhdlnllhjffkaaGreatDoorCloMb
import Derived.Test.YtjhdlnllhjffkaaGreatDoorProg
import Derived.Deep.CutBlock
import Derived.Deep.CutRange
import Derived.Deep.RegionHeld3
import Derived.Deep.DeepCutAuto
import Derived.Deep.QuietTactic
import Derived.Lib.SliceRun
namespace Go.Proofs.YtjhdlnllhjffkaaGreatDoor
open Go.RowKit LamM

theorem infoB : (Tryz.prog.info? 4).map (fun i => (i.zero, i.size, i.bytes)) = some (some (.bool false), 1, 1) := by kernel_rfl
theorem undB : Tryz.prog.underlying 34 = some (.slice 4) := by kernel_rfl

/-- What below hands back. -/
def BelowPost (L : List Tm) (root n : Nat) (w : World) (e : Ending) (w' : World) : Prop :=
  ∃ g, e = .returned (.tuple #[.slice (some ⟨g, 0, none⟩) n n, .bool (below L root).2]) ∧ w.heap.size ≤ g ∧ w'.ownsRow g 4 1 (.slice (some ⟨g, 0, none⟩) n n) n (boolVals n (below L root).1) ∧ Below w.heap.size w w'

/-- The round's place: -1, or j. -/
def AtI (k : Nat) (v : Value) : Prop := (k = 0 ∧ v = .int .i64 (-1)) ∨ (∃ j : Nat, k = j + 1 ∧ v = .int .i64 (j : Int))
theorem AtI.start (n : Nat) : AtI n (.int .i64 ((n : Int) - 1)) := by
  rcases n with _ | n
  · exact .inl ⟨rfl, rfl⟩
  · exact .inr ⟨n, rfl, by congr 1; omega⟩

theorem stepA_cons {i : Nat} {a : Int} {l : List Int} {s : (Nat → Bool) × Bool} : stepA i (a :: l) s = stepA i l (if a < 0 ∨ (i : Int) ≤ a then (s.1, false) else (upd s.1 a.toNat, s.2)) := rfl
theorem drop_at {α : Type} {l : List α} {m : Nat} {a : α} (h : l[m]? = some a) : l.drop m = a :: l.drop (m + 1) := by
  obtain ⟨h1, h2⟩ := List.getElem?_eq_some_iff.1 h
  rw [List.drop_eq_getElem_cons h1, h2]

theorem cell_spell {w : World} {ad : Addr} {i k : Nat} {v : Value} : (w.cell? (ad.add (i + (k + 1))) = some v) = (w.cell? ⟨(ad.add i).block, (ad.add i).off + (k + 1), none⟩ = some v) := by
  rw [← add_of_add]; rfl
end Go.Proofs.YtjhdlnllhjffkaaGreatDoor

namespace Go.Proofs.YtjhdlnllhjffkaaGreatDoor
open Go.RowKit LamM

theorem upd_lo {f : Nat → Bool} {x j : Nat} (h : x < j) : upd f x j = f j := by
  unfold upd
  rw [show (j == x) = false from beq_eq_false_iff_ne.2 (by omega), Bool.false_or]

end Go.Proofs.YtjhdlnllhjffkaaGreatDoor

namespace Go.Proofs.YtjhdlnllhjffkaaGreatDoor
open Go.RowKit LamM

theorem contains_at {l : List Int} {x : Int} {k : Nat} (h : l[k]? = some x) : l.contains x = true := by
  rw [List.contains_iff_mem]; exact List.mem_of_getElem? h
theorem contains_no {l : List Int} {x : Int} (h : ∀ k : Nat, k < l.length → l[k]? ≠ some x) : l.contains x = false := by
  cases hc : l.contains x
  · rfl
  · rw [List.contains_iff_mem] at hc
    obtain ⟨k, hk, e⟩ := List.getElem_of_mem hc
    exact absurd (by rw [List.getElem?_eq_getElem hk, e]) (h k hk)

set_option maxRecDepth 100000 in
set_option maxHeartbeats 1000000 in
theorem rin_any (l : List Int) (v : Value) (x : Int) (B : Nat) (w : World) (hV : IV w B v l) :
    Calls Tryz.prog 20 #[v, .int .i64 x] w fun e w' => e = .returned (.bool (l.contains x)) ∧ w = w' := by
  obtain ⟨A, c, rfl, h1, h2⟩ := hV.len
  have hl : l.length ≤ 9223372036854775807 := by unfold maxLen at h2; omega
  have HV := Lib.hid hV
  have HY := Lib.hid (fun k (h : l[k]? = some x) => contains_at h)
  have HNO := Lib.hid (fun (h : ∀ k : Nat, k < l.length → l[k]? ≠ some x) => contains_no h)
  obtain ⟨r, hr⟩ : ∃ r, l.contains x = r := ⟨_, rfl⟩
  rw [hr] at HY HNO ⊢
  clear hV hr
  go_enter Tryz.func20, Tryz.ntmps20
  go_wp2
  go_loopw [5] (fun i wr => wr = w ∧ ∃ k : Nat, k ≤ l.length ∧ i = .int .i64 (k : Int) ∧ Hid (∀ j : Nat, j < k → l[j]? ≠ some x)) (fun i _ => l.length - (intOf i).toNat)
  case atStart => exact ⟨rfl, 0, Nat.zero_le _, rfl, Lib.hid (fun j h => by omega)⟩
  case round =>
    obtain ⟨rfl, k, hk, rfl, HK⟩ := hrel
    rcases Nat.lt_or_ge k l.length with hlt | hge
    · obtain ⟨a, ha⟩ : ∃ a, l[k]? = some a := ⟨_, List.getElem?_eq_getElem hlt⟩
      obtain ⟨aa, rfl, _, ca⟩ := HV.out.at_ ha
      have hm1 : (k : Int) < (l.length : Int) := by omega
      by_cases h : a = x
      · have HR := Lib.hid (HY.out k (by rw [ha, h]))
        have q := b_true h
        clear h ha
        go_wp2_with fail
        go_ret
        exact ⟨by rw [HR.out]; rfl, rfl⟩
      · have q := b_false h
        have HK2 := Lib.hid (show ∀ j : Nat, j < k + 1 → l[j]? ≠ some x from fun j hj e => by
          rcases Nat.lt_or_ge j k with h3 | h3
          · exact HK.out j h3 e
          · obtain rfl : j = k := by omega
            rw [ha] at e; exact h (Option.some.inj e))
        clear h ha
        go_wp2_with fail
        go_roundw
        case rel => exact ⟨by first | rfl | trivial, k + 1, by omega, by go_num, HK2⟩
        case measure => simp [intOf]; omega
    · have HR := Lib.hid (HNO.out (fun j hj => HK.out j (by omega)))
      have q : (l.length : Int) ≤ (k : Int) := by omega
      clear hge hk
      go_wp2_with fail
      go_ret
      exact ⟨by rw [HR.out]; rfl, rfl⟩

/-- A fresh slice of one int. -/
theorem one_IV (w : World) (x : Int) : IV (w.alloc (.cells #[.int .i64 x] 3)) (w.heap.size + 1) (.slice (some ⟨w.heap.size, 0, none⟩) 1 1) [x] := by
  refine ⟨_, _, rfl, Nat.le_refl _, by unfold maxLen; decide, rfl, fun _ => ⟨_, rfl, Nat.lt_succ_self _, fun j u hj => ?_⟩⟩
  have h := (Blk.new w 3 #[.int .i64 x]).cell 0
  match j, hj with
  | 0, hj =>
    have : u = .int .i64 x := by simpa [intVals] using hj.symm
    subst this
    exact h
  | j + 1, hj => simp [intVals] at hj
theorem nil_IV (w : World) (B : Nat) : IV w B (.slice none 0 0) [] := ⟨none, 0, rfl, Nat.le_refl _, by unfold maxLen; omega, Reads.none_⟩
theorem IV.more {w : World} {B B' : Nat} {v : Value} {l : List Int} (h : IV w B v l) (hB : B ≤ B') : IV w B' v l := by
  obtain ⟨A, c, e, h1, h2, h3⟩ := h
  exact ⟨A, c, e, h1, h2, h3.more hB⟩
theorem IV.below {w w' : World} {v : Value} {l : List Int} (h : IV w w.heap.size v l) (hb : Below w.heap.size w w') : IV w' w'.heap.size v l :=
  (h.keep (fun _ hp => hb.cell hp)).more hb.size
/-- Gives ints: a slice that reads as these. -/
def GivesI (w : World) (l : List Int) (e : Ending) (w' : World) : Prop := ∃ v, e = .returned v ∧ IV w' w'.heap.size v l ∧ Below w.heap.size w w'
theorem one_after (w : World) (o : Obj) (x : Int) : IV ((w.alloc o).alloc (.cells #[.int .i64 x] 3)) ((w.alloc o).alloc (.cells #[.int .i64 x] 3)).heap.size (.slice (some ⟨w.heap.size + 1, 0, none⟩) 1 1) [x] := by
  have h := one_IV (w.alloc o) x
  rw [show (w.alloc o).heap.size = w.heap.size + 1 by simp] at h
  exact h.more (by simp)
end Go.Proofs.YtjhdlnllhjffkaaGreatDoor

namespace Go.Proofs.YtjhdlnllhjffkaaGreatDoor
open Go.RowKit LamM

theorem infoI : (Tryz.prog.info? 3).map (fun i => (i.zero, i.size, i.bytes)) = some (some (.int .i64 0), 1, 8) := by kernel_rfl
theorem undI : Tryz.prog.underlying 31 = some (.slice 3) := by kernel_rfl
theorem one_cell (w : World) (x : Value) (t : TypeId) : ∀ j u, [x][j]? = some u → (w.alloc (.cells #[x] t)).cell? ((⟨w.heap.size, 0, none⟩ : Addr).add j) = some u := by
  intro j u hj
  match j, hj with
  | 0, hj =>
    have : u = x := by simpa using hj.symm
    subst this
    exact (Blk.new w t #[u]).cell 0
  | j + 1, hj => simp at hj
theorem one_one (x : Int) : ∀ u ∈ [Value.int .i64 x], u.oneCell' = true := by
  intro u hu; rw [List.mem_singleton] at hu; subst hu; rfl
/-- A row of ints of the call's own. -/
def OI (base : Nat) (w : World) (v : Value) (l : List Int) : Prop := w.ownsRow base 3 1 v l.length (intVals l)
theorem intVals_app (a b : List Int) : intVals (a ++ b) = intVals a ++ intVals b := by unfold intVals; simp
theorem intVals_len (a : List Int) : (intVals a).length = a.length := by unfold intVals; simp
theorem OI.app {base : Nat} {w : World} {v : Value} {a b : List Int} (h : w.ownsRow base 3 1 v (a.length + b.length) (intVals a ++ intVals b)) : OI base w v (a ++ b) := by
  unfold OI
  rw [List.length_append, intVals_app]; exact h
theorem OI.one {base : Nat} {w : World} {v : Value} {a : List Int} {x : Int} (h : w.ownsRow base 3 1 v (a.length + 1) (intVals a ++ [.int .i64 x])) : OI base w v (a ++ [x]) := OI.app (b := [x]) h
theorem OI.iv {base : Nat} {w : World} {v : Value} {l : List Int} (h : OI base w v l) : IV w w.heap.size v l := by
  rcases h.2 with ⟨rfl, h0⟩ | ⟨g, cap, cur, rfl, h1, h2, h3, h4, h5⟩
  · obtain rfl : l = [] := List.eq_nil_of_length_eq_zero h0
    exact nil_IV _ _
  · exact ⟨_, _, rfl, h3, h4, Reads.of_own (c := cap) h⟩

/-- Where a set is parted by a number. -/
theorem ins_split {x : Int} : ∀ {p q : List Int}, (∀ y ∈ p, y < x) → (∀ y ∈ q, x < y) → ins x (p ++ q) = p ++ x :: q
  | [], [], _, _ => rfl
  | [], y :: q, _, h => by
    show ins x (y :: q) = _
    unfold ins; rw [if_pos (h y List.mem_cons_self)]; rfl
  | a :: p, q, hp, hq => by
    have h1 := hp a List.mem_cons_self
    show ins x (a :: (p ++ q)) = _
    unfold ins
    rw [if_neg (by omega), if_neg (by omega), ins_split (fun y hy => hp y (List.mem_cons_of_mem _ hy)) hq]
    rfl
theorem drop_take_more {α : Type} {l : List α} {j k : Nat} {a : α} (hj : j ≤ k) (h : l[k]? = some a) : (l.drop j).take (k - j) ++ [a] = (l.drop j).take (k + 1 - j) := by
  rw [show k + 1 - j = (k - j) + 1 by omega, List.take_add_one, List.getElem?_drop, show j + (k - j) = k by omega, h]; rfl
theorem take_more {α : Type} {l : List α} {k : Nat} {a : α} (h : l[k]? = some a) : l.take k ++ [a] = l.take (k + 1) := by
  rw [List.take_add_one, h]; rfl
/-- Where put stands, k places on: what is out, is it done. -/
def PutSt (l : List Int) (x : Int) (k : Nat) (out : List Int) (dn : Bool) : Prop :=
  (dn = false ∧ out = l.take k ∧ ∀ y ∈ l.take k, y < x) ∨ (dn = true ∧ ∃ j, j ≤ k ∧ out = l.take j ++ x :: (l.drop j).take (k - j) ∧ (∀ y ∈ l.take j, y < x) ∧ ∀ y ∈ l.drop j, x < y)
theorem ss_drop {l : List Int} (hs : SS l) {k : Nat} {a : Int} (h : l[k]? = some a) : ∀ y ∈ l.drop k, a ≤ y := by
  have := List.Pairwise.sublist (List.drop_sublist k l) hs
  rw [drop_at h] at this ⊢
  intro y hy
  rcases List.mem_cons.1 hy with rfl | hy
  · exact Int.le_refl _
  · have := (ss_cons.1 this).1 y hy; omega
theorem PutSt.start (l : List Int) (x : Int) : PutSt l x 0 [] false := .inl ⟨rfl, rfl, fun y hy => by cases hy⟩
theorem PutSt.low {l : List Int} {x a : Int} {k : Nat} {out : List Int} (h : PutSt l x k out false) (ha : l[k]? = some a) (hx : a < x) : PutSt l x (k + 1) (out ++ [a]) false := by
  rcases h with ⟨_, rfl, h2⟩ | ⟨h, _⟩
  · refine .inl ⟨rfl, take_more ha, fun y hy => ?_⟩
    rw [← take_more ha] at hy
    rcases List.mem_append.1 hy with hy | hy
    · exact h2 y hy
    · rw [List.mem_singleton] at hy; omega
  · cases h
theorem PutSt.turn {l : List Int} {x a : Int} {k : Nat} {out : List Int} (hs : SS l) (h : PutSt l x k out false) (ha : l[k]? = some a) (hx : x < a) : PutSt l x (k + 1) (out ++ [x] ++ [a]) true := by
  rcases h with ⟨_, rfl, h2⟩ | ⟨h, _⟩
  · refine .inr ⟨rfl, k, Nat.le_succ _, ?_, h2, fun y hy => by have := ss_drop hs ha y hy; omega⟩
    rw [← drop_take_more (Nat.le_refl k) ha]
    simp
  · cases h
theorem PutSt.high {l : List Int} {x a : Int} {k : Nat} {out : List Int} (h : PutSt l x k out true) (ha : l[k]? = some a) : PutSt l x (k + 1) (out ++ [a]) true := by
  rcases h with ⟨h, _⟩ | ⟨_, j, hj, rfl, h1, h2⟩
  · cases h
  · refine .inr ⟨rfl, j, by omega, ?_, h1, h2⟩
    rw [← drop_take_more hj ha]
    simp
theorem PutSt.endF {l : List Int} {x : Int} {out : List Int} (h : PutSt l x l.length out false) : out ++ [x] = ins x l := by
  rcases h with ⟨_, rfl, h2⟩ | ⟨h, _⟩
  · rw [List.take_length] at *
    have := ins_split (q := []) h2 (fun y hy => by cases hy)
    rw [List.append_nil] at this
    exact this.symm
  · cases h
theorem PutSt.endT {l : List Int} {x : Int} {out : List Int} (h : PutSt l x l.length out true) : out = ins x l := by
  rcases h with ⟨h, _⟩ | ⟨_, j, hj, rfl, h1, h2⟩
  · cases h
  · rw [show (l.drop j).take (l.length - j) = l.drop j from List.take_of_length_le (by rw [List.length_drop]; omega)]
    have := ins_split h1 h2
    rw [List.take_append_drop] at this
    exact this.symm
theorem PutSt.len {l : List Int} {x : Int} {k : Nat} {out : List Int} {dn : Bool} (h : PutSt l x k out dn) : out.length ≤ l.length + 1 := by
  rcases h with ⟨_, rfl, _⟩ | ⟨_, j, hj, rfl, _, _⟩
  · rw [List.length_take]; omega
  · simp; omega

set_option maxRecDepth 100000 in
set_option maxHeartbeats 4000000 in
theorem rput_any (l : List Int) (v : Value) (x : Int) (w : World) (hs : SS l) (hl : l.length ≤ 2000000000000) (hV : IV w w.heap.size v l) :
    Calls Tryz.prog 40 #[v, .int .i64 x] w (GivesI w (ins x l)) := by
  obtain ⟨i0, hi0, hz0, hz1, hz2⟩ := info_parts infoI
  have HIN := Lib.hid (fun w' (h : IV w' w.heap.size v l) => rin_any l v x w.heap.size w' h)
  obtain ⟨A, c, rfl, h1, h2⟩ := hV.len
  have HV := Lib.hid hV
  cases hc : l.contains x
  · have hne : ∀ a k, l[k]? = some a → a ≠ x := fun a k h e => by
      subst e; rw [contains_at h] at hc; cases hc
    have HNE := Lib.hid hne
    rw [hc] at HIN
    obtain ⟨R, hR⟩ : ∃ R, ins x l = R := ⟨_, rfl⟩
    have HEF := Lib.hid (fun out (h : PutSt l x l.length out false) => (show out ++ [x] = R by rw [← hR]; exact h.endF))
    have HET := Lib.hid (fun out (h : PutSt l x l.length out true) => (show out = R by rw [← hR]; exact h.endT))
    rw [hR]
    have HS := Lib.hid hs
    have HP0 := Lib.hid (PutSt.start l x)
    clear hV hs hc hne hR
    go_enter Tryz.func40, Tryz.ntmps40
    go_wp2_with (go_at_call 20; ((with_reducible refine (HIN.out _ HV.out).mono ?_); rintro e w' ⟨rfl, rfl⟩))
    go_loopw [5, 6, 7] (fun o dv i wr => ∃ (k : Nat) (out : List Int) (dn : Bool), k ≤ l.length ∧ i = .int .i64 (k : Int) ∧ dv = .bool dn ∧ Hid (PutSt l x k out dn) ∧ Hid (OI w.heap.size wr o out) ∧ Hid (Below w.heap.size w wr)) (fun _ _ i _ => l.length - (intOf i).toNat)
    case atStart => exact ⟨0, [], false, Nat.zero_le _, rfl, rfl, HP0, Lib.hid (World.ownsRow_nil _ _ _ _), Lib.hid (Below.refl _ _)⟩
    case round =>
      obtain ⟨k, out, dn, hk, rfl, rfl, HP, HO, HB⟩ := hrel
      have hsz := HB.out.size
      have hol := HP.out.len
      rcases Nat.lt_or_ge k l.length with hlt | hge
      · obtain ⟨a, ha⟩ : ∃ a, l[k]? = some a := ⟨_, List.getElem?_eq_getElem hlt⟩
        obtain ⟨aa, rfl, haa, ca⟩ := (HV.out.keep (fun p hp => HB.out.cell hp)).at_ ha
        have hne := HNE.out a k ha
        have hm1 : (k : Int) < (l.length : Int) := by omega
        cases dn
        · by_cases hx : x < a
          · have HP2 := Lib.hid (HP.out.turn HS.out ha hx)
            have q := decide_eq_true hx
            clear ha hne
            go_wp2_with (at_builtin; refine wpList_append_own _ rfl _ _ 31 rfl w.heap.size 3 i0 (.int .i64 0) 1 8 undI hi0 hz0 hz1 hz2 rfl (by decide) _ _ _ rfl (World.ownsRow.alloc HO.out _) ⟨wr.heap.size, 0, none⟩ 1 1 [_] rfl rfl (one_cell wr _ _) (one_one _) (by unfold maxLen; omega) (by omega) (by simp; omega) ?_)
            intro v1 w2 hown2 hgrow2 _
            have HO2 := Lib.hid (OI.one hown2)
            have HB2 := Lib.hid ((HB.out.alloc hsz _).grown hgrow2 (by simp; omega) (fun j hj => (World.ownsRow.lt HO.out j hj).1))
            have hsz2 := HB2.out.size
            have hol2 : (out ++ [x]).length = out.length + 1 := by simp
            have ca2 : w2.cell? (aa.add k) = some (.int .i64 a) := by
              rw [HB2.out.cell (by rw [block_of_add]; exact haa), ← HB.out.cell (by rw [block_of_add]; exact haa)]; exact ca
            clear hown2 hgrow2 ca
            go_wp2_with (at_builtin; refine wpList_append_own _ rfl _ _ 31 rfl w.heap.size 3 i0 (.int .i64 0) 1 8 undI hi0 hz0 hz1 hz2 rfl (by decide) _ _ _ rfl (World.ownsRow.alloc HO2.out _) ⟨w2.heap.size, 0, none⟩ 1 1 [_] rfl rfl (one_cell w2 _ _) (one_one _) (by unfold maxLen; omega) (by omega) (by simp; omega) ?_)
            intro v3 w4 hown4 hgrow4 _
            have HO4 := Lib.hid (OI.one (a := out ++ [x]) (by rw [hol2]; exact hown4))
            have HB4 := Lib.hid ((HB2.out.alloc hsz2 _).grown hgrow4 (by simp; omega) (fun j hj => (World.ownsRow.lt HO2.out j hj).1))
            clear hown4 hgrow4
            go_wp2_with fail
            go_roundw
            case rel => exact ⟨k + 1, _, true, by omega, by go_num, rfl, HP2, HO4, HB4⟩
            case measure => simp [intOf]; omega
          · have HP2 := Lib.hid (HP.out.low ha (by omega))
            have q := decide_eq_false hx
            clear ha hne
            go_wp2_with (at_builtin; refine wpList_append_own _ rfl _ _ 31 rfl w.heap.size 3 i0 (.int .i64 0) 1 8 undI hi0 hz0 hz1 hz2 rfl (by decide) _ _ _ rfl (World.ownsRow.alloc HO.out _) ⟨wr.heap.size, 0, none⟩ 1 1 [_] rfl rfl (one_cell wr _ _) (one_one _) (by unfold maxLen; omega) (by omega) (by simp; omega) ?_)
            intro v1 w2 hown2 hgrow2 _
            have HO2 := Lib.hid (OI.one hown2)
            have HB2 := Lib.hid ((HB.out.alloc hsz _).grown hgrow2 (by simp; omega) (fun j hj => (World.ownsRow.lt HO.out j hj).1))
            clear hown2 hgrow2
            go_wp2_with fail
            go_roundw
            case rel => exact ⟨k + 1, _, false, by omega, by go_num, rfl, HP2, HO2, HB2⟩
            case measure => simp [intOf]; omega
        · have HP2 := Lib.hid (HP.out.high ha)
          clear ha hne
          go_wp2_with (at_builtin; refine wpList_append_own _ rfl _ _ 31 rfl w.heap.size 3 i0 (.int .i64 0) 1 8 undI hi0 hz0 hz1 hz2 rfl (by decide) _ _ _ rfl (World.ownsRow.alloc HO.out _) ⟨wr.heap.size, 0, none⟩ 1 1 [_] rfl rfl (one_cell wr _ _) (one_one _) (by unfold maxLen; omega) (by omega) (by simp; omega) ?_)
          intro v1 w2 hown2 hgrow2 _
          have HO2 := Lib.hid (OI.one hown2)
          have HB2 := Lib.hid ((HB.out.alloc hsz _).grown hgrow2 (by simp; omega) (fun j hj => (World.ownsRow.lt HO.out j hj).1))
          clear hown2 hgrow2
          go_wp2_with fail
          go_roundw
          case rel => exact ⟨k + 1, _, true, by omega, by go_num, rfl, HP2, HO2, HB2⟩
          case measure => simp [intOf]; omega
      · obtain rfl : k = l.length := by omega
        have q : (l.length : Int) ≤ (l.length : Int) := Int.le_refl _
        cases dn
        · have HR := Lib.hid (HEF.out _ HP.out)
          clear hge hk
          go_wp2_with (at_builtin; refine wpList_append_own _ rfl _ _ 31 rfl w.heap.size 3 i0 (.int .i64 0) 1 8 undI hi0 hz0 hz1 hz2 rfl (by decide) _ _ _ rfl (World.ownsRow.alloc HO.out _) ⟨wr.heap.size, 0, none⟩ 1 1 [_] rfl rfl (one_cell wr _ _) (one_one _) (by unfold maxLen; omega) (by omega) (by simp; omega) ?_)
          intro v1 w2 hown2 hgrow2 _
          have HO2 := Lib.hid (OI.one hown2)
          have HB2 := Lib.hid ((HB.out.alloc hsz _).grown hgrow2 (by simp; omega) (fun j hj => (World.ownsRow.lt HO.out j hj).1))
          clear hown2 hgrow2
          go_wp2_with fail
          go_ret
          exact ⟨_, rfl, by rw [← HR.out]; exact HO2.out.iv, HB2.out⟩
        · have HR := Lib.hid (HET.out _ HP.out)
          clear hge hk
          go_wp2_with fail
          go_ret
          exact ⟨_, rfl, by rw [← HR.out]; exact HO.out.iv, HB.out⟩
  · have hm := ins_mem hs (List.contains_iff_mem.1 hc)
    rw [hc] at HIN
    rw [hm]
    clear hV hs hc hm
    go_enter Tryz.func40, Tryz.ntmps40
    go_wp2_with (go_at_call 20; ((with_reducible refine (HIN.out _ HV.out).mono ?_); rintro e w' ⟨rfl, rfl⟩))
    go_ret
    exact ⟨_, rfl, HV.out, Below.refl _ _⟩
end Go.Proofs.YtjhdlnllhjffkaaGreatDoor

namespace Go.Proofs.YtjhdlnllhjffkaaGreatDoor
open Go.RowKit LamM

theorem OI.drew {base : Nat} {w : World} {v : Value} {l : List Int} (h : OI base w v l) : OI base w.drew v l := h
theorem IV.tail {w : World} {B : Nat} {A : Option Addr} {n c : Nat} {x : Int} {l : List Int} (h : IV w B (.slice A n c) (x :: l)) : IV w B (.slice (if c = 1 then A else A.map (·.add 1)) l.length (c - 1)) l := by
  obtain ⟨A', c', e, h1, h2, h3⟩ := h
  injection e with e1 e2 e3
  subst e1 e3
  rw [List.length_cons] at h1 h3
  have h4 := h3.cut (k := 1) (cap := c) (by omega) h1
  refine ⟨_, _, rfl, by omega, by omega, ?_⟩
  rw [Nat.add_sub_cancel, Nat.one_mul] at h4
  exact h4
theorem IV.cons {w : World} {B : Nat} {v : Value} {x : Int} {l : List Int} (h : IV w B v (x :: l)) : ∃ ad c, v = .slice (some ad) (l.length + 1) c ∧ ad.block < B ∧ w.cell? ad = some (.int .i64 x) ∧ l.length + 1 ≤ c ∧ c ≤ maxLen := by
  obtain ⟨A, c, rfl, h1, h2⟩ := h.len
  obtain ⟨ad, rfl, hb, hc⟩ := h.at_ (j := 0) rfl
  exact ⟨ad, c, rfl, hb, hc, h1, h2⟩

theorem OI.drewN {base : Nat} {w : World} {v : Value} {l : List Int} (h : OI base w v l) (n : Nat) : OI base (w.drewN n) v l := h
theorem IV.drew {w : World} {B : Nat} {v : Value} {l : List Int} (h : IV w B v l) : IV w.drew B v l := h
theorem IV.reads {w : World} {B n c : Nat} {A : Option Addr} {l : List Int} (h : IV w B (.slice A n c) l) : Reads w B 1 A l.length (intVals l) := by
  obtain ⟨A', c', e, _, _, h3⟩ := h
  injection e with e1 e2 e3
  subst e1
  exact h3
theorem intVals_one (l : List Int) : ∀ u ∈ intVals l, u.oneCell' = true := by
  intro u hu; unfold intVals at hu; obtain ⟨d, _, rfl⟩ := List.mem_map.1 hu; rfl

end Go.Proofs.YtjhdlnllhjffkaaGreatDoor

namespace Go.Proofs.YtjhdlnllhjffkaaGreatDoor
open Go.RowKit LamM

theorem isNaN1_any (x : Int) (w : World) : Calls Tryz.prog 85 #[.int .i64 x] w fun e w' => e = .returned (.bool false) ∧ w = w' := by
  have q := n_false (rfl : x = x)
  go_enter Tryz.func85, Tryz.ntmps85
  go_wp2
  go_ret
  exact ⟨rfl, rfl⟩
theorem isNaN2_any (x : Int) (w : World) : Calls Tryz.prog 155 #[.int .i64 x] w fun e w' => e = .returned (.bool false) ∧ w = w' := by
  have q := n_false (rfl : x = x)
  go_enter Tryz.func155, Tryz.ntmps155
  go_wp2
  go_ret
  exact ⟨rfl, rfl⟩
theorem less_any (x y : Int) (w : World) : Calls Tryz.prog 84 #[.int .i64 x, .int .i64 y] w fun e w' => e = .returned (.bool (decide (x < y))) ∧ w = w' := by
  have H := Lib.hid (fun x w => isNaN2_any x w)
  obtain ⟨r, hr⟩ : ∃ r, decide (x < y) = r := ⟨_, rfl⟩
  rw [hr]
  go_enter Tryz.func84, Tryz.ntmps84
  go_wp2_with (go_at_call 155; ((with_reducible refine (H.out _ _).mono ?_); rintro e w' ⟨rfl, rfl⟩))
  go_ret
  exact ⟨rfl, rfl⟩

/-- How many of a set lie below a number. -/
def posn (s : List Int) (v : Int) : Nat := (s.takeWhile fun x => decide (x < v)).length
theorem posn_eq {v : Int} : ∀ {s : List Int} {i : Nat}, i ≤ s.length → (∀ k x, k < i → s[k]? = some x → x < v) → (∀ x, s[i]? = some x → v ≤ x) → posn s v = i
  | [], i, hi, _, _ => by simp at hi; subst hi; rfl
  | x :: s, 0, _, _, h => by
    unfold posn
    rw [List.takeWhile_cons, if_neg (by have := h x rfl; simp; omega)]; rfl
  | x :: s, i + 1, hi, h1, h2 => by
    have h0 := h1 0 x (Nat.succ_pos _) rfl
    have ih := posn_eq (s := s) (i := i) (v := v) (by simp at hi; omega) (fun k y hk hy => h1 (k + 1) y (by omega) hy) (fun y hy => h2 y hy)
    unfold posn at ih ⊢
    rw [List.takeWhile_cons, if_pos (by simpa using h0), List.length_cons, ih]
theorem ss_lt {s : List Int} (hs : SS s) {i j : Nat} {x y : Int} (hij : i < j) (hx : s[i]? = some x) (hy : s[j]? = some y) : x < y := by
  obtain ⟨h1, rfl⟩ := List.getElem?_eq_some_iff.1 hx
  obtain ⟨h2, rfl⟩ := List.getElem?_eq_some_iff.1 hy
  exact List.pairwise_iff_getElem.1 hs i j h1 h2 hij

def BsPost (s : List Int) (v : Int) (w : World) (e : Ending) (w' : World) : Prop := e = .returned (.tuple #[.int .i64 (posn s v : Nat), .bool (s.contains v)]) ∧ w = w'
end Go.Proofs.YtjhdlnllhjffkaaGreatDoor

namespace Go.Proofs.YtjhdlnllhjffkaaGreatDoor
open Go.RowKit LamM

theorem any_yes {l s : List Int} {k : Nat} {a : Int} (h : l[k]? = some a) (hc : s.contains a = true) : l.any (fun v => s.contains v) = true :=
  List.any_eq_true.2 ⟨a, List.mem_of_getElem? h, hc⟩
theorem any_no {l s : List Int} (h : ∀ j x, j < l.length → l[j]? = some x → s.contains x = false) : l.any (fun v => s.contains v) = false := by
  rw [Bool.eq_false_iff]
  intro hc
  obtain ⟨x, hx, hcx⟩ := List.any_eq_true.1 hc
  obtain ⟨j, hj, e⟩ := List.getElem_of_mem hx
  rw [h j x hj (by rw [List.getElem?_eq_getElem hj, e])] at hcx
  cases hcx

def IdxPost (r : Bool) (w : World) (e : Ending) (w' : World) : Prop := ∃ z : Int, e = .returned (.int .i64 z) ∧ (r = true → 0 ≤ z) ∧ (r = false → z = -1) ∧ w = w'
set_option maxRecDepth 100000 in
set_option maxHeartbeats 2000000 in
theorem index_any (l : List Int) (vl : Value) (x : Int) (B : Nat) (w : World) (hVL : IV w B vl l) :
    Calls Tryz.prog 34 #[vl, .int .i64 x] w (IdxPost (l.contains x) w) := by
  obtain ⟨A, c, rfl, h1, h2⟩ := hVL.len
  have hl : l.length ≤ 9223372036854775807 := by unfold maxLen at h2; omega
  have HV := Lib.hid hVL
  have HY := Lib.hid (fun k (h : l[k]? = some x) => contains_at h)
  have HNO := Lib.hid (fun (h : ∀ k : Nat, k < l.length → l[k]? ≠ some x) => contains_no h)
  unfold IdxPost
  obtain ⟨r, hr⟩ : ∃ r, l.contains x = r := ⟨_, rfl⟩
  rw [hr] at HY HNO ⊢
  clear hVL hr
  go_enter Tryz.func34, Tryz.ntmps34
  go_wp2
  go_loopw [8] (fun i wr => wr = w ∧ ∃ k : Nat, k ≤ l.length ∧ i = .int .i64 (k : Int) ∧ Hid (∀ j : Nat, j < k → l[j]? ≠ some x)) (fun i _ => l.length - (intOf i).toNat)
  case atStart => exact ⟨rfl, 0, Nat.zero_le _, rfl, Lib.hid (fun j h => by omega)⟩
  case round =>
    obtain ⟨rfl, k, hk, rfl, HK⟩ := hrel
    rcases Nat.lt_or_ge k l.length with hlt | hge
    · obtain ⟨a, ha⟩ : ∃ a, l[k]? = some a := ⟨_, List.getElem?_eq_getElem hlt⟩
      obtain ⟨aa, rfl, _, ca⟩ := HV.out.at_ ha
      have hm1 : (k : Int) < (l.length : Int) := by omega
      by_cases h : x = a
      · have HR := Lib.hid (HY.out k (by rw [ha, h]))
        have q := b_true h
        clear h ha
        go_wp2_with fail
        go_ret
        exact ⟨(k : Int), rfl, fun _ => by omega, fun h => (by rw [HR.out] at h; cases h), rfl⟩
      · have q := b_false h
        have HK2 := Lib.hid (show ∀ j : Nat, j < k + 1 → l[j]? ≠ some x from fun j hj e => by
          rcases Nat.lt_or_ge j k with h3 | h3
          · exact HK.out j h3 e
          · obtain rfl : j = k := by omega
            rw [ha] at e; exact h (Option.some.inj e).symm)
        clear h ha
        go_wp2_with fail
        go_roundw
        case rel => exact ⟨by first | rfl | trivial, k + 1, by omega, by go_num, HK2⟩
        case measure => simp [intOf]; omega
    · have HR := Lib.hid (HNO.out (fun j hj => HK.out j (by omega)))
      have q : (l.length : Int) ≤ (k : Int) := by omega
      clear hge hk
      go_wp2_with fail
      go_ret
      exact ⟨-1, rfl, fun h => (by rw [HR.out] at h; cases h), fun _ => rfl, rfl⟩
set_option maxRecDepth 100000 in
theorem con_any (l : List Int) (vl : Value) (x : Int) (B : Nat) (w : World) (hVL : IV w B vl l) :
    Calls Tryz.prog 15 #[vl, .int .i64 x] w fun e w' => e = .returned (.bool (l.contains x)) ∧ w = w' := by
  have H := Lib.hid (index_any l vl x B w hVL)
  obtain ⟨r, hr⟩ : ∃ r, l.contains x = r := ⟨_, rfl⟩
  unfold IdxPost at H
  rw [hr] at H ⊢
  clear hVL hr
  go_enter Tryz.func15, Tryz.ntmps15
  go_wp2_with fail
  go_at_call 34
  (with_reducible refine (H.out).mono ?_)
  rintro e w' ⟨z, rfl, hz1, hz2, rfl⟩
  cases r
  · obtain rfl := hz2 rfl
    clear hz1 hz2
    go_wp2_with fail
    go_ret
    exact ⟨rfl, rfl⟩
  · have hz := hz1 rfl
    clear hz1 hz2
    go_wp2_with fail
    go_ret
    exact ⟨by simp, rfl⟩
end Go.Proofs.YtjhdlnllhjffkaaGreatDoor

namespace Go.Proofs.YtjhdlnllhjffkaaGreatDoor
open Go.RowKit LamM

theorem wout_none {s l : List Int} (h : l.any (fun v => s.contains v) = false) : wout s l = s := by
  unfold wout
  rw [List.filter_eq_self]
  intro x hx
  cases hc : l.contains x
  · rfl
  · rw [List.contains_iff_mem] at hc
    have : l.any (fun v => s.contains v) = true := List.any_eq_true.2 ⟨x, hc, List.contains_iff_mem.2 hx⟩
    rw [this] at h; cases h
theorem wout_step {s l : List Int} {k : Nat} {a : Int} (h : s[k]? = some a) : wout (s.take (k + 1)) l = if l.contains a then wout (s.take k) l else wout (s.take k) l ++ [a] := by
  unfold wout
  rw [List.take_add_one, h, List.filter_append]
  show _ ++ [a].filter (fun v => !l.contains v) = _
  cases hc : l.contains a
  · rw [if_neg (by decide), show [a].filter (fun v => !l.contains v) = [a] by rw [List.filter_cons, hc]; rfl]
  · rw [if_pos rfl, show [a].filter (fun v => !l.contains v) = [] by rw [List.filter_cons, hc]; rfl, List.append_nil]
theorem wout_len (s l : List Int) : (wout s l).length ≤ s.length := List.length_filter_le _ _

end Go.Proofs.YtjhdlnllhjffkaaGreatDoor

namespace Go.Proofs.YtjhdlnllhjffkaaGreatDoor
open Go.RowKit LamM

def GivesOI (base : Nat) (w : World) (l : List Int) (e : Ending) (w' : World) : Prop := ∃ v, e = .returned v ∧ OI base w' v l ∧ Below base w w'
/-- append, the second slice of another type. -/
theorem run_append_types {P : Program} (w : World) (t t' ty e e' : TypeId) (ht : P.underlying t = some (.slice e)) (ht' : P.underlying t' = some (.slice e')) (a : Option Addr) (n c : Nat) (x : Value) :
    (Builtin.append_ #[t, t'] ty #[.slice a n c, x]).run P w = (Builtin.append_ #[t, t] ty #[.slice a n c, x]).run P w := by
  have u1 : ∀ w, Sem.run P (underlying t) w = .ok (TypeDesc.slice e) w := run_underlying ht
  have u2 : ∀ w, Sem.run P (underlying t') w = .ok (TypeDesc.slice e') w := run_underlying ht'
  simp [Builtin.append_, u1, u2]
theorem ownsRow_slice {w : World} {base : Nat} {e : TypeId} {size n : Nat} {v : Value} {xs : List Value} (h : w.ownsRow base e size v n xs) : ∃ a c, v = .slice a n c := by
  rcases h.2 with ⟨rfl, h0⟩ | ⟨g, cap, cur, rfl, _⟩
  · exact ⟨none, 0, by rw [h0]⟩
  · exact ⟨_, _, rfl⟩
theorem wpList_append_two {P : Program} (w : World) {ops : Array Oper} {rest : List Oper} {o : Oper} {a : Act} {Q : Exit → Act → World → Prop} (hgd : o.guard = none) (s x : Operand) (t t' e' : TypeId)
    (ho : o.op = .call { callee := .builtin .append, args := #[s, x], argTypes := #[t, t'] }) (ht' : P.underlying t' = some (.slice e'))
    (base : Nat) (e : TypeId) (i : TypeInfo) (z : Value) (size bytes : Nat) (ht : P.underlying t = some (.slice e)) (hi : P.info? e = some i) (hz : i.zero = some z)
    (hsize : i.size = size) (hby : i.bytes = bytes) (hzs : z.cells.size = size) (hsz : 0 < size)
    (v : Value) (n : Nat) (xs : List Value) (hs : a.eval s = v) (hown : w.ownsRow base e size v n xs)
    (B : Nat) (A : Option Addr) (m c : Nat) (news : List Value) (hx : a.eval x = .slice A m c) (hr : Reads w B size A m news) (h1 : ∀ u ∈ news, u.oneCell' = true)
    (h63 : n + m ≤ maxLen) (hbytes : (n + m) * bytes ≤ 140737488355328) (hbase : base ≤ w.heap.size)
    (h : ∀ v' w', w'.ownsRow base e size v' (n + m) (xs ++ news) → w.grownBy w' v.ownBlock → (v'.ownBlock = v.ownBlock ∨ v'.ownBlock = some w.heap.size) → wpList P ops Q rest (a.put o.dst v') w') : wpList P ops Q (o :: rest) a w := by
  refine wpList_plain hgd fun _ hK => ?_
  obtain ⟨v', w', hrun, h2, h3, h4⟩ := run_append_any (P := P) w base t o.type e i z size bytes ht hi hz hsize hby hzs hsz v n xs hown B A m c news hr h1 h63 hbytes hbase
  obtain ⟨va, vc, rfl⟩ := ownsRow_slice hown
  rw [← run_append_types w t t' o.type e e' ht ht' va n vc] at hrun
  unfold Oper.wp execOp
  simp only [ho, resolve, invoke, builtin, Sem.run_bind, Sem.run_pure, Result.andThen_ok, List.map_toArray, List.map_cons, List.map_nil, hs, hx, hrun]
  exact hK _ _ (h v' w' h2 h3 h4)

theorem own_cap {a : Option Addr} {n c c' j : Nat} (h : (Value.slice a n c).ownBlock = some j) : (Value.slice a n c').ownBlock = some j := by
  rcases a with _ | ⟨b, o, sp⟩
  · simp [Value.ownBlock] at h
  · simpa [Value.ownBlock] using h
theorem posn_end {s : List Int} {v : Int} (h : ∀ x ∈ s, x < v) : posn s v = s.length :=
  posn_eq (Nat.le_refl _) (fun k x _ hx => h x (List.mem_of_getElem? hx)) (fun x hx => by rw [List.getElem?_eq_none (Nat.le_refl _)] at hx; cases hx)
theorem no_end {s : List Int} {v : Int} (h : ∀ x ∈ s, x < v) : s.contains v = false :=
  contains_no fun k _ hx => by have := h v (List.mem_of_getElem? hx); omega
end Go.Proofs.YtjhdlnllhjffkaaGreatDoor

namespace Go.Proofs.YtjhdlnllhjffkaaGreatDoor
open Go.RowKit LamM

/-- A primitive's five cells. -/
def prC (nm : List UInt8) (con args : Int) (ty : ByteArray) (rv : Value) : List Value := [.string ⟨nm.toArray⟩, .int .i64 con, .int .i64 args, .string ty, rv]
def recCells (con : Int) (T1 T2 T3 : ByteArray) (rv : Value) : List Value :=
  prC [43] con 2 T1 rv ++ (prC [45] con 2 T1 rv ++ (prC [42] con 2 T1 rv ++ (prC [126] con 1 T2 rv ++ (prC [97, 98, 115] con 1 T2 rv ++ (prC [60] con 2 T3 (.slice none 0 0) ++ (prC [60, 61] con 2 T3 (.slice none 0 0) ++ (prC [62] con 2 T3 (.slice none 0 0) ++ prC [62, 61] con 2 T3 (.slice none 0 0))))))))
set_option maxRecDepth 100000 in
set_option maxHeartbeats 4000000 in
theorem reckons_any (con : Int) (T : ByteArray) (ra : Option Addr) (rn rc : Nat) (w : World) (hT : T.size ≤ 100) :
    Calls Tryz.prog 26 #[.int .i64 con, .string T, .slice ra rn rc] w fun e w' => ∃ T1 T2 T3, e = .returned (.slice (some ⟨w.heap.size, 0, none⟩) 9 9) ∧ w' = w.alloc (.cells (recCells con T1 T2 T3 (.slice ra rn rc)).toArray 70) := by
  go_enter Tryz.func26, Tryz.ntmps26
  go_wp2_with fail
  go_ret
  exact ⟨_, _, _, rfl, rfl⟩
end Go.Proofs.YtjhdlnllhjffkaaGreatDoor

namespace Go.Proofs.YtjhdlnllhjffkaaGreatDoor
open Go.RowKit LamM

def rightI (x : Int) : Bool := decide (-4611686018427387904 ≤ x ∧ x ≤ 4611686018427387903)
theorem rightI_and (x : Int) : rightI x = (decide (-4611686018427387904 ≤ x) && decide (x ≤ 4611686018427387903)) := by unfold rightI; simp [Bool.decide_and]
set_option maxRecDepth 100000 in
theorem fright_any (x : Int) (w : World) : Calls Tryz.prog 147 #[.int .i64 x] w fun e w' => e = .returned (.bool (rightI x)) ∧ w = w' := by
  obtain ⟨r, hr⟩ : ∃ r, rightI x = r := ⟨_, rfl⟩
  rw [hr]
  rw [rightI_and] at hr
  by_cases h1 : -4611686018427387904 ≤ x
  · by_cases h2 : x ≤ 4611686018427387903
    · have q1 := decide_eq_true h1
      have q2 := decide_eq_true h2
      rw [q1, q2] at hr
      obtain rfl : r = true := hr.symm
      clear hr
      go_enter Tryz.func147, Tryz.ntmps147
      go_wp2
      go_ret
      exact ⟨rfl, rfl⟩
    · have q1 := decide_eq_true h1
      have q2 := decide_eq_false h2
      rw [q1, q2] at hr
      obtain rfl : r = false := hr.symm
      clear hr
      go_enter Tryz.func147, Tryz.ntmps147
      go_wp2
      go_ret
      exact ⟨rfl, rfl⟩
  · have q1 := decide_eq_false h1
    rw [q1] at hr
    obtain rfl : r = false := hr.symm
    clear hr
    go_enter Tryz.func147, Tryz.ntmps147
    go_wp2
    go_ret
    exact ⟨rfl, rfl⟩
set_option maxRecDepth 100000 in
theorem rright_any (x : Int) (w : World) : Calls Tryz.prog 59 #[.int .i64 x] w fun e w' => e = .returned (.bool (rightI x)) ∧ w = w' := by
  obtain ⟨r, hr⟩ : ∃ r, rightI x = r := ⟨_, rfl⟩
  rw [hr]
  rw [rightI_and] at hr
  by_cases h1 : -4611686018427387904 ≤ x
  · by_cases h2 : x ≤ 4611686018427387903
    · have q1 := decide_eq_true h1
      have q2 := decide_eq_true h2
      rw [q1, q2] at hr
      obtain rfl : r = true := hr.symm
      clear hr
      go_enter Tryz.func59, Tryz.ntmps59
      go_wp2
      go_ret
      exact ⟨rfl, rfl⟩
    · have q1 := decide_eq_true h1
      have q2 := decide_eq_false h2
      rw [q1, q2] at hr
      obtain rfl : r = false := hr.symm
      clear hr
      go_enter Tryz.func59, Tryz.ntmps59
      go_wp2
      go_ret
      exact ⟨rfl, rfl⟩
  · have q1 := decide_eq_false h1
    rw [q1] at hr
    obtain rfl : r = false := hr.symm
    clear hr
    go_enter Tryz.func59, Tryz.ntmps59
    go_wp2
    go_ret
    exact ⟨rfl, rfl⟩
theorem sright_any (t : List UInt8) (w : World) : Calls Tryz.prog 148 #[.string ⟨t.toArray⟩] w fun e w' => e = .returned (.bool (decide (t.length ≤ 65536))) ∧ w = w' := by
  have hs := size_mk t
  obtain ⟨r, hr⟩ : ∃ r, decide (t.length ≤ 65536) = r := ⟨_, rfl⟩
  have hr2 : decide ((t.length : Int) ≤ 65536) = r := by rw [← hr]; congr 1; exact propext ⟨fun h => by omega, fun h => by omega⟩
  rw [hr]
  go_enter Tryz.func148, Tryz.ntmps148
  go_wp2
  go_ret
  exact ⟨rfl, rfl⟩
theorem tright_any (t : List UInt8) (w : World) : Calls Tryz.prog 60 #[.string ⟨t.toArray⟩] w fun e w' => e = .returned (.bool (decide (t.length ≤ 65536))) ∧ w = w' := by
  have hs := size_mk t
  obtain ⟨r, hr⟩ : ∃ r, decide (t.length ≤ 65536) = r := ⟨_, rfl⟩
  have hr2 : decide ((t.length : Int) ≤ 65536) = r := by rw [← hr]; congr 1; exact propext ⟨fun h => by omega, fun h => by omega⟩
  rw [hr]
  go_enter Tryz.func60, Tryz.ntmps60
  go_wp2
  go_ret
  exact ⟨rfl, rfl⟩
end Go.Proofs.YtjhdlnllhjffkaaGreatDoor

namespace Go.Proofs.YtjhdlnllhjffkaaGreatDoor
open Go.RowKit LamM

def kyAgg (y : Ky) : Value := .agg #[.int .i64 y.k, .int .i64 y.i, .string ⟨y.t.toArray⟩]
def KBox (y : Ky) : Obj := .cells #[.int .i64 y.k, .int .i64 y.i, .string ⟨y.t.toArray⟩] 151
end Go.Proofs.YtjhdlnllhjffkaaGreatDoor

namespace Go.Proofs.YtjhdlnllhjffkaaGreatDoor
open Go.RowKit LamM

theorem keyVals_at : ∀ (l : List Ky) (i : Nat) (y : Ky), l[i]? = some y → (keyVals l)[i * 3]? = some (.int .i64 y.k) ∧ (keyVals l)[i * 3 + 1]? = some (.int .i64 y.i) ∧ (keyVals l)[i * 3 + 2]? = some (.string ⟨y.t.toArray⟩)
  | [], i, y, h => by simp at h
  | x :: l, 0, y, h => by
    have : x = y := by simpa using h
    subst this
    exact ⟨rfl, rfl, rfl⟩
  | x :: l, i + 1, y, h => by
    have ih := keyVals_at l i y (by simpa using h)
    have e : keyVals (x :: l) = [.int .i64 x.k, .int .i64 x.i, .string ⟨x.t.toArray⟩] ++ keyVals l := by unfold keyVals; rw [List.flatMap_cons]
    rw [e, show (i + 1) * 3 = 3 + i * 3 by omega]
    have sh : ∀ m, ([.int .i64 x.k, .int .i64 x.i, .string ⟨x.t.toArray⟩] ++ keyVals l : List Value)[3 + m]? = (keyVals l)[m]? := fun m => by
      rw [List.getElem?_append_right (by simp), show 3 + m - [Value.int .i64 x.k, .int .i64 x.i, .string ⟨x.t.toArray⟩].length = m by simp]
    rw [sh, show 3 + i * 3 + 1 = 3 + (i * 3 + 1) by omega, sh, show 3 + i * 3 + 2 = 3 + (i * 3 + 2) by omega, sh]
    exact ih
theorem KV.at_ {w : World} {B : Nat} {A : Option Addr} {n c : Nat} {l : List Ky} (h : KV w B (.slice A n c) l) {j : Nat} {y : Ky} (hj : l[j]? = some y) :
    ∃ ad, A = some ad ∧ ad.block < B ∧ w.cell? (ad.add (j * 3)) = some (.int .i64 y.k) ∧ w.cell? (ad.add (j * 3 + (0 + 1))) = some (.int .i64 y.i) ∧ w.cell? (ad.add (j * 3 + (1 + 1))) = some (.string ⟨y.t.toArray⟩) := by
  obtain ⟨A', c', e, _, _, hr⟩ := h
  injection e with e1 e2 e3
  subst e1 e3
  have hlt : j < l.length := (List.getElem?_eq_some_iff.1 hj).1
  obtain ⟨ad, hA, hb, hc⟩ := hr.2 (by omega)
  obtain ⟨v0, v1, v2⟩ := keyVals_at l j y hj
  exact ⟨ad, hA, hb, hc _ _ v0, hc _ _ v1, hc _ _ v2⟩
theorem KV.len {w : World} {B : Nat} {v : Value} {l : List Ky} (h : KV w B v l) : ∃ A c, v = .slice A l.length c ∧ l.length ≤ c ∧ c ≤ maxLen := by
  obtain ⟨A, c, e, h1, h2, _⟩ := h; exact ⟨A, c, e, h1, h2⟩
theorem all_yes {l : List Ky} {k : Nat} {a : Ky} (h : l[k]? = some a) (hc : keyOk a = false) : l.all keyOk = false := by
  rw [Bool.eq_false_iff]
  intro ha
  rw [List.all_eq_true] at ha
  rw [ha a (List.mem_of_getElem? h)] at hc; cases hc
theorem all_no {l : List Ky} (h : ∀ j x, j < l.length → l[j]? = some x → keyOk x = true) : l.all keyOk = true := by
  rw [List.all_eq_true]
  intro x hx
  obtain ⟨j, hj, e⟩ := List.getElem_of_mem hx
  exact h j x hj (by rw [List.getElem?_eq_getElem hj, e])

def IdxK (r : Bool) (w : World) (e : Ending) (w' : World) : Prop := ∃ z : Int, e = .returned (.int .i64 z) ∧ (r = false → 0 ≤ z) ∧ (r = true → z = -1) ∧ Below w.heap.size w w'
end Go.Proofs.YtjhdlnllhjffkaaGreatDoor

namespace Go.Proofs.YtjhdlnllhjffkaaGreatDoor
open Go.RowKit LamM

set_option maxRecDepth 100000 in
set_option maxHeartbeats 4000000 in
theorem rkeys_any (l : List Ky) (vl : Value) (w : World) (hVL : KV w w.heap.size vl l) :
    Calls Tryz.prog 61 #[vl] w fun e w' => e = .returned (.bool (l.all keyOk)) ∧ w = w' := by
  obtain ⟨A, c, rfl, h1, h2⟩ := hVL.len
  have hl : l.length ≤ 9223372036854775807 := by unfold maxLen at h2; omega
  have HV := Lib.hid hVL
  have HS := Lib.hid (fun t w => tright_any t w)
  have HY := Lib.hid (fun k a (h : l[k]? = some a) (hc : keyOk a = false) => all_yes h hc)
  have HN := Lib.hid (all_no (l := l))
  obtain ⟨r, hr⟩ : ∃ r, l.all keyOk = r := ⟨_, rfl⟩
  rw [hr] at HY HN ⊢
  clear hr hVL
  go_enter Tryz.func61, Tryz.ntmps61
  go_wp2
  go_loopw [3] (fun iv wr => wr = w ∧ ∃ k : Nat, k ≤ l.length ∧ iv = .int .i64 (k : Int) ∧ Hid (∀ j x, j < k → l[j]? = some x → keyOk x = true)) (fun iv _ => l.length - (intOf iv).toNat)
  case atStart => exact ⟨rfl, 0, Nat.zero_le _, rfl, Lib.hid (fun j x h => by omega)⟩
  case round =>
    obtain ⟨rfl, k, hk, rfl, HK⟩ := hrel
    rcases Nat.lt_or_ge k l.length with hlt | hge
    · obtain ⟨a, ha⟩ : ∃ a, l[k]? = some a := ⟨_, List.getElem?_eq_getElem hlt⟩
      obtain ⟨aa, rfl, _, ca, cb, cc⟩ := HV.out.at_ ha
      rw [cell_spell] at cb cc
      have hm1 : (k : Int) < (l.length : Int) := by omega
      have HK2 := Lib.hid (fun (hca : keyOk a = true) => (show ∀ j x, j < k + 1 → l[j]? = some x → keyOk x = true from fun j x hj hx => by
          rcases Nat.lt_or_ge j k with h3 | h3
          · exact HK.out j x h3 hx
          · obtain rfl : j = k := by omega
            rw [ha] at hx; rw [← Option.some.inj hx]; exact hca))
      have HF := Lib.hid (fun (hca : keyOk a = false) => HY.out k a ha hca)
      have hko : keyOk a = (a.k == 1 || a.k == 2 || (a.k == 3 && decide (a.t.length ≤ 65536))) := rfl
      have HSa := Lib.hid (HS.out a.t)
      clear ha
      by_cases k1 : a.k = 1
      · have q1 := b_true k1
        have q2 := n_false k1
        have q3 := b_false (show a.k ≠ 3 by omega)
        rw [q1, Bool.true_or, Bool.true_or] at hko
        have HK3 := Lib.hid (HK2.out hko)
        clear hko k1
        go_wp2_with (go_at_call 60; ((with_reducible refine (HSa.out _).mono ?_); rintro e w' ⟨rfl, rfl⟩))
        go_roundw
        case rel => exact ⟨by first | rfl | trivial, k + 1, by omega, by go_num, HK3⟩
        case measure => simp [intOf]; omega
      · have q1 := b_false k1
        have p1 := n_true k1
        rw [q1, Bool.false_or] at hko
        by_cases k2 : a.k = 2
        · have q2 := b_true k2
          have p2 := n_false k2
          have q3 := b_false (show a.k ≠ 3 by omega)
          rw [q2, Bool.true_or] at hko
          have HK3 := Lib.hid (HK2.out hko)
          clear hko k1 k2
          go_wp2_with (go_at_call 60; ((with_reducible refine (HSa.out _).mono ?_); rintro e w' ⟨rfl, rfl⟩))
          go_roundw
          case rel => exact ⟨by first | rfl | trivial, k + 1, by omega, by go_num, HK3⟩
          case measure => simp [intOf]; omega
        · have q2 := b_false k2
          have p2 := n_true k2
          rw [q2, Bool.false_or] at hko
          by_cases k3 : a.k = 3
          · have q3 := b_true k3
            have p3 := n_false k3
            rw [q3, Bool.true_and] at hko
            rw [← hko] at HSa
            cases hca : keyOk a
            · rw [hca] at HSa
              have HR := Lib.hid (HF.out hca)
              clear hko hca k1 k2 k3
              go_wp2_with (go_at_call 60; ((with_reducible refine (HSa.out _).mono ?_); rintro e w' ⟨rfl, rfl⟩))
              go_ret
              exact ⟨by rw [HR.out]; rfl, rfl⟩
            · rw [hca] at HSa
              have HK3 := Lib.hid (HK2.out hca)
              clear hko hca k1 k2 k3
              go_wp2_with (go_at_call 60; ((with_reducible refine (HSa.out _).mono ?_); rintro e w' ⟨rfl, rfl⟩))
              go_roundw
              case rel => exact ⟨by first | rfl | trivial, k + 1, by omega, by go_num, HK3⟩
              case measure => simp [intOf]; omega
          · have q3 := b_false k3
            have p3 := n_true k3
            rw [q3, Bool.false_and] at hko
            have HR := Lib.hid (HF.out hko)
            clear hko k1 k2 k3
            go_wp2_with (go_at_call 60; ((with_reducible refine (HSa.out _).mono ?_); rintro e w' ⟨rfl, rfl⟩))
            go_ret
            exact ⟨by rw [HR.out]; rfl, rfl⟩
    · have q : (l.length : Int) ≤ (k : Int) := by omega
      have HR := Lib.hid (HN.out (fun j x hj hx => HK.out j x (by omega) hx))
      clear hge hk
      go_wp2_with fail
      go_ret
      exact ⟨by rw [HR.out]; rfl, rfl⟩
end Go.Proofs.YtjhdlnllhjffkaaGreatDoor

namespace Go.Proofs.YtjhdlnllhjffkaaGreatDoor
open Go.RowKit LamM

theorem fixGo_step {L : List Tm} {vs ws : List Int} {k : Nat} {v a : Int} (hv : vs[k]? = some v) (ha : ws[k]? = some a) :
    fixGo L (vs.drop k) (ws.drop k) = (!(decide (v < 0) || kindAt L a != 8) && fixGo L (vs.drop (k + 1)) (ws.drop (k + 1))) := by
  rw [drop_at hv, drop_at ha]; rfl
theorem fixGo_end {L : List Tm} {vs ws : List Int} : fixGo L (vs.drop vs.length) ws = true := by
  rw [List.drop_length]; cases ws <;> rfl

end Go.Proofs.YtjhdlnllhjffkaaGreatDoor
