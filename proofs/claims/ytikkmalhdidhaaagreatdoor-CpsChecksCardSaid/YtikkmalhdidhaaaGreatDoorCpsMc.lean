/- Lambda: which nodes are made: the program's below, the reference's. Lambda: which nodes are made: the reference's below. Lambda: the reference's in, what a node binds (both). Lambda: the reference's put. Lambda: union. -/
import Derived.Test.YtikkmalhdidhaaaGreatDoorCpsMb
import Derived.Test.YtikkmalhdidhaaaGreatDoorProg
import Derived.Deep.CutBlock
import Derived.Deep.CutRange
import Derived.Deep.RegionHeld3
import Derived.Deep.DeepCutAuto
import Derived.Deep.QuietTactic
namespace Go.Proofs.YtikkmalhdidhaaaGreatDoor
open Go.RowKit LamM

theorem infoB : (Tryz.prog.info? 4).map (fun i => (i.zero, i.size, i.bytes)) = some (some (.bool false), 1, 1) := by kernel_rfl
theorem undB : Tryz.prog.underlying 32 = some (.slice 4) := by kernel_rfl

/-- What below hands back. -/
def BelowPost (L : List Tm) (root n : Nat) (w : World) (e : Ending) (w' : World) : Prop :=
  ∃ g, e = .returned (.tuple #[.slice (some ⟨g, 0, none⟩) n n, .bool (below L root).2]) ∧ w.heap.size ≤ g ∧ w'.ownsRow g 4 1 (.slice (some ⟨g, 0, none⟩) n n) n (boolVals n (below L root).1) ∧ Below w.heap.size w w'

/-- The round's place: -1, or j. -/
def AtI (k : Nat) (v : Value) : Prop := (k = 0 ∧ v = .int .i64 (-1)) ∨ (∃ j : Nat, k = j + 1 ∧ v = .int .i64 (j : Int))
theorem AtI.start (n : Nat) : AtI n (.int .i64 ((n : Int) - 1)) := by
  rcases n with _ | n
  · exact .inl ⟨rfl, rfl⟩
  · exact .inr ⟨n, rfl, by congr 1; omega⟩

theorem stepA_cons {i : Nat} {a : Int} {l : List Int} {s : (Nat → Bool) × Bool} : stepA i (a :: l) s = stepA i l (if a < 0 ∨ (i : Int) ≤ a then (s.1, false) else (upd s.1 a.toNat, s.2)) := rfl
theorem drop_at {α : Type} {l : List α} {m : Nat} {a : α} (h : l[m]? = some a) : l.drop m = a :: l.drop (m + 1) := by
  obtain ⟨h1, h2⟩ := List.getElem?_eq_some_iff.1 h
  rw [List.drop_eq_getElem_cons h1, h2]

theorem cell_spell {w : World} {ad : Addr} {i k : Nat} {v : Value} : (w.cell? (ad.add (i + (k + 1))) = some v) = (w.cell? ⟨(ad.add i).block, (ad.add i).off + (k + 1), none⟩ = some v) := by
  rw [← add_of_add]; rfl
set_option maxRecDepth 100000 in
set_option maxHeartbeats 2000000 in
theorem lbelow_any (L : List Tm) (A : Option Addr) (c n : Nat) (root : Nat) (w : World) (hr : root < L.length) (hn : n = root + 1) (hN : NV w w.heap.size (.slice A L.length c) L) :
    Calls Tryz.prog 82 #[.slice A L.length c, .int .i64 (root : Int)] w (BelowPost L root n w) := by
  obtain ⟨i0, hi0, hz0, hz1, hz2⟩ := info_parts infoB
  obtain ⟨A', c', e, hc1, hc2⟩ := hN.len
  injection e with e1 e2 e3
  subst e1 e3
  have hLn : L.length ≤ 1300000000000 := by omega
  have hle := fun j => below_le L root j
  obtain ⟨T, hT⟩ : ∃ T, below L root = T := ⟨_, rfl⟩
  have HT := Lib.hid hT
  have HTB : Hid (belowF L (root + 1) (upd (fun _ => false) root, true) = T) := Lib.hid hT
  have HN := Lib.hid hN
  have hnr : n ≤ L.length := by omega
  have hn1 : n ≤ root + 1 := by omega
  have hn2 : root + 1 ≤ n := by omega
  clear hN hT hle hn
  unfold BelowPost
  rw [HT.out]
  go_enter Tryz.func82, Tryz.ntmps82
  go_wp2_with (refine wpList_make_full _ rfl _ _ _ rfl w.heap.size 4 i0 (.bool false) 1 undB hi0 hz0 hz1 _ _ _ _ n rfl rfl (by omega) (by omega) (by rw [hz2]; omega) (by unfold maxLen; omega) (Nat.le_refl _) ?_)
  intro w1 hown1 hgrow1
  rw [boolVals_made] at hown1
  have hbel1 : Below w.heap.size w w1 := (Below.refl _ _).grown hgrow1 (Nat.le_refl _) (fun k hk => by cases hk)
  obtain ⟨g, hg⟩ : ∃ g, g = w.heap.size := ⟨_, rfl⟩
  rw [← hg] at hown1 ⊢
  have hgl : g < w1.heap.size := (World.ownsRow.lt hown1 g rfl).2
  have hrn : root < n := by omega
  have c1 : w1.cell? ⟨g, root, none⟩ = some (.bool false) := by
    rw [World.ownsRow.cellAt hown1 root (by omega), boolVals_get hrn]
  have f1 := World.ownsRow.frozenAt hown1 root
  have hst := (World.ownsRow.stored hown1 root (.bool true)).1
  rw [boolVals_set hrn] at hst
  have HO1 := Lib.hid hst
  have HBE1 := Lib.hid (hbel1.setCell (p := ⟨g, root, none⟩) (by show w.heap.size ≤ g; omega) (.bool true))
  have hri : (root : Int) < (n : Int) := by omega
  have HG := Lib.hid hg
  have hg2 : w.heap.size ≤ g := by omega
  clear hown1 hgrow1 hbel1 hst hg
  go_wp2
  go_loopw [7, 8] (fun ok i wr => ∃ (k : Nat) (f : Nat → Bool) (b : Bool), k ≤ n ∧ AtI k i ∧ ok = .bool b ∧ Hid (belowF L k (f, b) = T) ∧ Hid (wr.ownsRow g 4 1 (.slice (some ⟨g, 0, none⟩) n n) n (boolVals n f)) ∧ Hid (Below w.heap.size w wr)) (fun _ i _ => (intOf i + 1).toNat)
  case atStart => exact ⟨root + 1, _, true, by omega, .inr ⟨root, rfl, rfl⟩, rfl, HTB, HO1, HBE1⟩
  case round =>
    obtain ⟨k, f, b, hk, hi, rfl, HQ, HOW, HB⟩ := hrel
    rcases hi with ⟨rfl, rfl⟩ | ⟨j, rfl, rfl⟩
    · have hQ : T = (f, b) := HQ.out.symm
      have HO := Lib.hid (show T.1 = f ∧ T.2 = b by rw [hQ]; exact ⟨rfl, rfl⟩)
      have hgw : w.heap.size ≤ g := by omega
      clear hQ
      go_wp2_with fail
      go_ret2
      exact ⟨g, by rw [HO.out.2]; rfl, hgw, by rw [HO.out.1]; exact HOW.out, HB.out⟩
    · have hjn : j < n := by omega
      have hjn1 : (j : Int) < (n : Int) := by omega
      have cj := World.ownsRow.cellAt HOW.out j (by omega)
      rw [boolVals_get hjn] at cj
      cases hf : f j
      · rw [hf] at cj
        have HQ2 := Lib.hid (show belowF L j (f, b) = T by have := HQ.out; unfold belowF at this; rw [show (f, b).1 j = false from hf, if_neg (by decide)] at this; exact this)
        clear hf
        go_wp2_with fail
        go_roundw
        case rel =>
          have hs := AtI.start j
          exact ⟨j, f, b, by omega, hs, rfl, HQ2, HOW, HB⟩
        case measure => simp [intOf]
      · rw [hf] at cj
        obtain ⟨t, ht⟩ : ∃ t, L[j]? = some t := ⟨_, List.getElem?_eq_getElem (by omega)⟩
        have HA := Lib.hid (show argsAt L j = t.args by unfold argsAt; rw [ht])
        have HQ2 := Lib.hid (show belowF L j (stepA j t.args (f, b)) = T by have := HQ.out; unfold belowF at this; rw [show (f, b).1 j = true from hf, if_pos rfl, HA.out] at this; exact this)
        have hNr := HN.out.keep (fun p hp => HB.out.cell hp)
        obtain ⟨ad, vv, kv, av, rfl, had, htv, _, _, _, _, _, _, _, ca⟩ := hNr.at_ ht
        rw [cell_spell] at ca
        obtain ⟨Aa, na, rfl, hna, hnm⟩ := htv.a.len
        have hal : t.args.length ≤ 9223372036854775807 := by unfold maxLen at hnm; omega
        have HV := Lib.hid htv.a
        have HRA := Lib.hid htv.ra
        have hjL : (j : Int) < (L.length : Int) := by omega
        clear hf ht htv hNr
        generalize t.args = args at *
        obtain ⟨S, hS⟩ : ∃ S, stepA j args (f, b) = S := ⟨_, rfl⟩
        have HS0 : Hid (stepA j (args.drop 0) (f, b) = S) := Lib.hid hS
        rw [hS] at HQ2
        clear hS
        go_wp2_with fail
        go_loopw [7, 33] (fun ok ix wr2 => ∃ (m : Nat) (f2 : Nat → Bool) (b2 : Bool), m ≤ args.length ∧ ix = .int .i64 (m : Int) ∧ ok = .bool b2 ∧ Hid (stepA j (args.drop m) (f2, b2) = S) ∧ Hid (wr2.ownsRow g 4 1 (.slice (some ⟨g, 0, none⟩) n n) n (boolVals n f2)) ∧ Hid (Below w.heap.size w wr2)) (fun _ i _ => args.length - (intOf i).toNat)
        case atStart => exact ⟨0, f, b, Nat.zero_le _, rfl, rfl, HS0, HOW, HB⟩
        case round =>
          obtain ⟨m, f2, b2, hm, rfl, rfl, HS, HOW2, HB2⟩ := hrel
          rcases Nat.lt_or_ge m args.length with hlt | hge
          · obtain ⟨a, ha⟩ : ∃ a, args[m]? = some a := ⟨_, List.getElem?_eq_getElem hlt⟩
            obtain ⟨aa, rfl, haa, ca2⟩ := (HV.out.keep (fun p hp => (HB2.out.cell hp).trans (HB.out.cell hp).symm)).at_ ha
            have hra := HRA.out a (List.mem_of_getElem? ha)
            have HS1 := HS.out
            rw [drop_at ha, stepA_cons] at HS1
            have hm1 : (m : Int) < (args.length : Int) := by omega
            clear ha
            by_cases h1 : a < 0
            · rw [if_pos (.inl h1)] at HS1
              have HS2 := Lib.hid HS1
              clear HS1
              go_wp2_with fail
              go_roundw
              case rel => exact ⟨m + 1, f2, false, by omega, by go_num, rfl, HS2, HOW2, HB2⟩
              case measure => simp [intOf]; omega
            · by_cases h2 : (j : Int) ≤ a
              · rw [if_pos (.inr h2)] at HS1
                have HS2 := Lib.hid HS1
                have q1 : decide (a < 0) = false := decide_eq_false h1
                have q2 : decide ((j : Int) ≤ a) = true := decide_eq_true h2
                clear HS1
                go_wp2_with fail
                go_roundw
                case rel => exact ⟨m + 1, f2, false, by omega, by go_num, rfl, HS2, HOW2, HB2⟩
                case measure => simp [intOf]; omega
              · rw [if_neg (by rintro (h | h) <;> omega)] at HS1
                obtain ⟨x, rfl⟩ : ∃ x : Nat, a = (x : Int) := ⟨a.toNat, by omega⟩
                rw [Int.toNat_natCast] at HS1
                have HS2 := Lib.hid HS1
                have hx1 : (x : Int) < (n : Int) := by omega
                have cx := World.ownsRow.cellAt HOW2.out x (by omega)
                rw [boolVals_get (by omega)] at cx
                have fx := World.ownsRow.frozenAt HOW2.out x
                have hst := (World.ownsRow.stored HOW2.out x (.bool true)).1
                rw [boolVals_set (by omega)] at hst
                have HO3 := Lib.hid hst
                have HB3 := Lib.hid (HB2.out.setCell (p := ⟨g, x, none⟩) (by show w.heap.size ≤ g; omega) (.bool true))
                have hxj : ((x : Nat) : Int) < (j : Int) := by omega
                clear HS1 hst h1 h2
                go_wp2_with fail
                go_roundw
                case rel => exact ⟨m + 1, _, b2, by omega, by go_num, rfl, HS2, HO3, HB3⟩
                case measure => simp [intOf]; omega
          · have hmm : m = args.length := by omega
            have HSS := Lib.hid (show (f2, b2) = S by have := HS.out; rw [List.drop_eq_nil_of_le (by omega)] at this; exact this)
            have HQ3 := Lib.hid (show belowF L j (f2, b2) = T by rw [HSS.out]; exact HQ2.out)
            have q0 : (args.length : Int) ≤ (m : Int) := by omega
            clear hmm hge hm
            go_wp2_with fail
            go_roundw
            case rel =>
              have hs := AtI.start j
              exact ⟨j, f2, b2, by omega, hs, rfl, HQ3, HOW2, HB2⟩
            case measure => simp [intOf]
end Go.Proofs.YtikkmalhdidhaaaGreatDoor

namespace Go.Proofs.YtikkmalhdidhaaaGreatDoor
open Go.RowKit LamM

theorem upd_lo {f : Nat → Bool} {x j : Nat} (h : x < j) : upd f x j = f j := by
  unfold upd
  rw [show (j == x) = false from beq_eq_false_iff_ne.2 (by omega), Bool.false_or]

end Go.Proofs.YtikkmalhdidhaaaGreatDoor

namespace Go.Proofs.YtikkmalhdidhaaaGreatDoor
open Go.RowKit LamM

theorem contains_at {l : List Int} {x : Int} {k : Nat} (h : l[k]? = some x) : l.contains x = true := by
  rw [List.contains_iff_mem]; exact List.mem_of_getElem? h
theorem contains_no {l : List Int} {x : Int} (h : ∀ k : Nat, k < l.length → l[k]? ≠ some x) : l.contains x = false := by
  cases hc : l.contains x
  · rfl
  · rw [List.contains_iff_mem] at hc
    obtain ⟨k, hk, e⟩ := List.getElem_of_mem hc
    exact absurd (by rw [List.getElem?_eq_getElem hk, e]) (h k hk)

set_option maxRecDepth 100000 in
set_option maxHeartbeats 1000000 in
theorem rin_any (l : List Int) (v : Value) (x : Int) (B : Nat) (w : World) (hV : IV w B v l) :
    Calls Tryz.prog 19 #[v, .int .i64 x] w fun e w' => e = .returned (.bool (l.contains x)) ∧ w = w' := by
  obtain ⟨A, c, rfl, h1, h2⟩ := hV.len
  have hl : l.length ≤ 9223372036854775807 := by unfold maxLen at h2; omega
  have HV := Lib.hid hV
  have HY := Lib.hid (fun k (h : l[k]? = some x) => contains_at h)
  have HNO := Lib.hid (fun (h : ∀ k : Nat, k < l.length → l[k]? ≠ some x) => contains_no h)
  obtain ⟨r, hr⟩ : ∃ r, l.contains x = r := ⟨_, rfl⟩
  rw [hr] at HY HNO ⊢
  clear hV hr
  go_enter Tryz.func19, Tryz.ntmps19
  go_wp2
  go_loopw [5] (fun i wr => wr = w ∧ ∃ k : Nat, k ≤ l.length ∧ i = .int .i64 (k : Int) ∧ Hid (∀ j : Nat, j < k → l[j]? ≠ some x)) (fun i _ => l.length - (intOf i).toNat)
  case atStart => exact ⟨rfl, 0, Nat.zero_le _, rfl, Lib.hid (fun j h => by omega)⟩
  case round =>
    obtain ⟨rfl, k, hk, rfl, HK⟩ := hrel
    rcases Nat.lt_or_ge k l.length with hlt | hge
    · obtain ⟨a, ha⟩ : ∃ a, l[k]? = some a := ⟨_, List.getElem?_eq_getElem hlt⟩
      obtain ⟨aa, rfl, _, ca⟩ := HV.out.at_ ha
      have hm1 : (k : Int) < (l.length : Int) := by omega
      by_cases h : a = x
      · have HR := Lib.hid (HY.out k (by rw [ha, h]))
        have q := b_true h
        clear h ha
        go_wp2_with fail
        go_ret
        exact ⟨by rw [HR.out]; rfl, rfl⟩
      · have q := b_false h
        have HK2 := Lib.hid (show ∀ j : Nat, j < k + 1 → l[j]? ≠ some x from fun j hj e => by
          rcases Nat.lt_or_ge j k with h3 | h3
          · exact HK.out j h3 e
          · obtain rfl : j = k := by omega
            rw [ha] at e; exact h (Option.some.inj e))
        clear h ha
        go_wp2_with fail
        go_roundw
        case rel => exact ⟨by first | rfl | trivial, k + 1, by omega, by go_num, HK2⟩
        case measure => simp [intOf]; omega
    · have HR := Lib.hid (HNO.out (fun j hj => HK.out j (by omega)))
      have q : (l.length : Int) ≤ (k : Int) := by omega
      clear hge hk
      go_wp2_with fail
      go_ret
      exact ⟨by rw [HR.out]; rfl, rfl⟩

/-- A fresh slice of one int. -/
theorem one_IV (w : World) (x : Int) : IV (w.alloc (.cells #[.int .i64 x] 3)) (w.heap.size + 1) (.slice (some ⟨w.heap.size, 0, none⟩) 1 1) [x] := by
  refine ⟨_, _, rfl, Nat.le_refl _, by unfold maxLen; decide, rfl, fun _ => ⟨_, rfl, Nat.lt_succ_self _, fun j u hj => ?_⟩⟩
  have h := (Blk.new w 3 #[.int .i64 x]).cell 0
  match j, hj with
  | 0, hj =>
    have : u = .int .i64 x := by simpa [intVals] using hj.symm
    subst this
    exact h
  | j + 1, hj => simp [intVals] at hj
theorem nil_IV (w : World) (B : Nat) : IV w B (.slice none 0 0) [] := ⟨none, 0, rfl, Nat.le_refl _, by unfold maxLen; omega, Reads.none_⟩
theorem IV.more {w : World} {B B' : Nat} {v : Value} {l : List Int} (h : IV w B v l) (hB : B ≤ B') : IV w B' v l := by
  obtain ⟨A, c, e, h1, h2, h3⟩ := h
  exact ⟨A, c, e, h1, h2, h3.more hB⟩
theorem IV.below {w w' : World} {v : Value} {l : List Int} (h : IV w w.heap.size v l) (hb : Below w.heap.size w w') : IV w' w'.heap.size v l :=
  (h.keep (fun _ hp => hb.cell hp)).more hb.size
/-- Gives ints: a slice that reads as these. -/
def GivesI (w : World) (l : List Int) (e : Ending) (w' : World) : Prop := ∃ v, e = .returned v ∧ IV w' w'.heap.size v l ∧ Below w.heap.size w w'
theorem one_after (w : World) (o : Obj) (x : Int) : IV ((w.alloc o).alloc (.cells #[.int .i64 x] 3)) ((w.alloc o).alloc (.cells #[.int .i64 x] 3)).heap.size (.slice (some ⟨w.heap.size + 1, 0, none⟩) 1 1) [x] := by
  have h := one_IV (w.alloc o) x
  rw [show (w.alloc o).heap.size = w.heap.size + 1 by simp] at h
  exact h.more (by simp)
def BoxT (t : Tm) (vv kv av : Value) : Obj := .cells #[.int .i64 t.k, .int .i64 t.n, .int .i64 t.i, .int .u64 t.b, .string ⟨t.t.toArray⟩, vv, kv, av] 69

set_option maxRecDepth 100000 in
set_option maxHeartbeats 2000000 in
theorem lbound_any (t : Tm) (vv kv av : Value) (k : Nat) (w : World) (hT : TV w w.heap.size t vv kv av) :
    Calls Tryz.prog 159 #[.agg (tmVals t vv kv av).toArray, .int .i64 (k : Int)] w (GivesI w (boundAt t k)) := by
  have HT := Lib.hid hT
  have HB1 := Lib.hid ((Below.refl w.heap.size w).alloc (Nat.le_refl _) (BoxT t vv kv av))
  have HB2 := Lib.hid (two_alloc w (BoxT t vv kv av) (.cells #[.int .i64 t.n] 3))
  have HON := Lib.hid (one_after w (BoxT t vv kv av) t.n)
  have HNI := Lib.hid (nil_IV (w.alloc (BoxT t vv kv av)) (w.alloc (BoxT t vv kv av)).heap.size)
  have HVS := Lib.hid (hT.v.below HB1.out)
  have HBL := Blk.new w 69 #[.int .i64 t.k, .int .i64 t.n, .int .i64 t.i, .int .u64 t.b, .string ⟨t.t.toArray⟩, vv, kv, av]
  have c0 := HBL.cell 0
  have c1 := HBL.cell 1
  have c5 := HBL.cell 5
  obtain ⟨R, hR⟩ : ∃ R, boundAt t k = R := ⟨_, rfl⟩
  have HR := Lib.hid hR
  rw [hR]
  unfold boundAt at hR
  clear hT HBL
  unfold tmVals
  unfold BoxT at HB1 HB2 HON HNI HVS
  by_cases k8 : t.k = 8
  · rw [if_pos k8] at hR
    have q8 := b_true k8
    have HR2 := Lib.hid hR
    clear hR k8
    go_enter Tryz.func159, Tryz.ntmps159
    go_wp2_with fail
    go_ret
    exact ⟨_, rfl, by rw [← HR2.out]; exact HON.out, HB2.out⟩
  · rw [if_neg k8] at hR
    have q8 := b_false k8
    clear k8
    by_cases k10 : t.k = 10 ∨ t.k = 14
    · rw [if_pos k10] at hR
      by_cases h1 : k = 1
      · rw [if_pos h1] at hR
        have q1 := b_true (show (k : Int) = 1 by omega)
        have HR2 := Lib.hid hR
        clear hR h1
        rcases k10 with k10 | k10
        · have q10 := b_true k10
          clear k10
          go_enter Tryz.func159, Tryz.ntmps159
          go_wp2_with fail
          go_ret
          exact ⟨_, rfl, by rw [← HR2.out]; exact HON.out, HB2.out⟩
        · have q10 := b_false (show t.k ≠ 10 by omega)
          have q14 := b_true k10
          clear k10
          go_enter Tryz.func159, Tryz.ntmps159
          go_wp2_with fail
          go_ret
          exact ⟨_, rfl, by rw [← HR2.out]; exact HON.out, HB2.out⟩
      · rw [if_neg h1] at hR
        have q1 := b_false (show (k : Int) ≠ 1 by omega)
        have HR2 := Lib.hid hR
        clear hR h1
        rcases k10 with k10 | k10
        · have q10 := b_true k10
          clear k10
          go_enter Tryz.func159, Tryz.ntmps159
          go_wp2_with fail
          go_ret
          exact ⟨_, rfl, by rw [← HR2.out]; exact HNI.out, HB1.out⟩
        · have q10 := b_false (show t.k ≠ 10 by omega)
          have q14 := b_true k10
          clear k10
          go_enter Tryz.func159, Tryz.ntmps159
          go_wp2_with fail
          go_ret
          exact ⟨_, rfl, by rw [← HR2.out]; exact HNI.out, HB1.out⟩
    · rw [if_neg k10] at hR
      have q10 := b_false (show t.k ≠ 10 from fun h => k10 (.inl h))
      have q14 := b_false (show t.k ≠ 14 from fun h => k10 (.inr h))
      clear k10
      by_cases k11 : t.k = 11
      · rw [if_pos k11] at hR
        have q11 := b_true k11
        have HR2 := Lib.hid hR
        clear hR k11
        go_enter Tryz.func159, Tryz.ntmps159
        go_wp2_with fail
        go_ret
        exact ⟨_, rfl, by rw [← HR2.out]; exact HVS.out, HB1.out⟩
      · rw [if_neg k11] at hR
        have q11 := b_false k11
        have HR2 := Lib.hid hR
        clear hR k11
        go_enter Tryz.func159, Tryz.ntmps159
        go_wp2_with fail
        go_ret
        exact ⟨_, rfl, by rw [← HR2.out]; exact HNI.out, HB1.out⟩

end Go.Proofs.YtikkmalhdidhaaaGreatDoor

namespace Go.Proofs.YtikkmalhdidhaaaGreatDoor
open Go.RowKit LamM

theorem infoI : (Tryz.prog.info? 3).map (fun i => (i.zero, i.size, i.bytes)) = some (some (.int .i64 0), 1, 8) := by kernel_rfl
theorem undI : Tryz.prog.underlying 25 = some (.slice 3) := by kernel_rfl
theorem one_cell (w : World) (x : Value) (t : TypeId) : ∀ j u, [x][j]? = some u → (w.alloc (.cells #[x] t)).cell? ((⟨w.heap.size, 0, none⟩ : Addr).add j) = some u := by
  intro j u hj
  match j, hj with
  | 0, hj =>
    have : u = x := by simpa using hj.symm
    subst this
    exact (Blk.new w t #[u]).cell 0
  | j + 1, hj => simp at hj
theorem one_one (x : Int) : ∀ u ∈ [Value.int .i64 x], u.oneCell' = true := by
  intro u hu; rw [List.mem_singleton] at hu; subst hu; rfl
/-- A row of ints of the call's own. -/
def OI (base : Nat) (w : World) (v : Value) (l : List Int) : Prop := w.ownsRow base 3 1 v l.length (intVals l)
theorem intVals_app (a b : List Int) : intVals (a ++ b) = intVals a ++ intVals b := by unfold intVals; simp
theorem intVals_len (a : List Int) : (intVals a).length = a.length := by unfold intVals; simp
theorem OI.app {base : Nat} {w : World} {v : Value} {a b : List Int} (h : w.ownsRow base 3 1 v (a.length + b.length) (intVals a ++ intVals b)) : OI base w v (a ++ b) := by
  unfold OI
  rw [List.length_append, intVals_app]; exact h
theorem OI.one {base : Nat} {w : World} {v : Value} {a : List Int} {x : Int} (h : w.ownsRow base 3 1 v (a.length + 1) (intVals a ++ [.int .i64 x])) : OI base w v (a ++ [x]) := OI.app (b := [x]) h
theorem OI.iv {base : Nat} {w : World} {v : Value} {l : List Int} (h : OI base w v l) : IV w w.heap.size v l := by
  rcases h.2 with ⟨rfl, h0⟩ | ⟨g, cap, cur, rfl, h1, h2, h3, h4, h5⟩
  · obtain rfl : l = [] := List.eq_nil_of_length_eq_zero h0
    exact nil_IV _ _
  · exact ⟨_, _, rfl, h3, h4, Reads.of_own (c := cap) h⟩

/-- Where a set is parted by a number. -/
theorem ins_split {x : Int} : ∀ {p q : List Int}, (∀ y ∈ p, y < x) → (∀ y ∈ q, x < y) → ins x (p ++ q) = p ++ x :: q
  | [], [], _, _ => rfl
  | [], y :: q, _, h => by
    show ins x (y :: q) = _
    unfold ins; rw [if_pos (h y List.mem_cons_self)]; rfl
  | a :: p, q, hp, hq => by
    have h1 := hp a List.mem_cons_self
    show ins x (a :: (p ++ q)) = _
    unfold ins
    rw [if_neg (by omega), if_neg (by omega), ins_split (fun y hy => hp y (List.mem_cons_of_mem _ hy)) hq]
    rfl
theorem drop_take_more {α : Type} {l : List α} {j k : Nat} {a : α} (hj : j ≤ k) (h : l[k]? = some a) : (l.drop j).take (k - j) ++ [a] = (l.drop j).take (k + 1 - j) := by
  rw [show k + 1 - j = (k - j) + 1 by omega, List.take_add_one, List.getElem?_drop, show j + (k - j) = k by omega, h]; rfl
theorem take_more {α : Type} {l : List α} {k : Nat} {a : α} (h : l[k]? = some a) : l.take k ++ [a] = l.take (k + 1) := by
  rw [List.take_add_one, h]; rfl
/-- Where put stands, k places on: what is out, is it done. -/
def PutSt (l : List Int) (x : Int) (k : Nat) (out : List Int) (dn : Bool) : Prop :=
  (dn = false ∧ out = l.take k ∧ ∀ y ∈ l.take k, y < x) ∨ (dn = true ∧ ∃ j, j ≤ k ∧ out = l.take j ++ x :: (l.drop j).take (k - j) ∧ (∀ y ∈ l.take j, y < x) ∧ ∀ y ∈ l.drop j, x < y)
theorem ss_drop {l : List Int} (hs : SS l) {k : Nat} {a : Int} (h : l[k]? = some a) : ∀ y ∈ l.drop k, a ≤ y := by
  have := List.Pairwise.sublist (List.drop_sublist k l) hs
  rw [drop_at h] at this ⊢
  intro y hy
  rcases List.mem_cons.1 hy with rfl | hy
  · exact Int.le_refl _
  · have := (ss_cons.1 this).1 y hy; omega
theorem PutSt.start (l : List Int) (x : Int) : PutSt l x 0 [] false := .inl ⟨rfl, rfl, fun y hy => by cases hy⟩
theorem PutSt.low {l : List Int} {x a : Int} {k : Nat} {out : List Int} (h : PutSt l x k out false) (ha : l[k]? = some a) (hx : a < x) : PutSt l x (k + 1) (out ++ [a]) false := by
  rcases h with ⟨_, rfl, h2⟩ | ⟨h, _⟩
  · refine .inl ⟨rfl, take_more ha, fun y hy => ?_⟩
    rw [← take_more ha] at hy
    rcases List.mem_append.1 hy with hy | hy
    · exact h2 y hy
    · rw [List.mem_singleton] at hy; omega
  · cases h
theorem PutSt.turn {l : List Int} {x a : Int} {k : Nat} {out : List Int} (hs : SS l) (h : PutSt l x k out false) (ha : l[k]? = some a) (hx : x < a) : PutSt l x (k + 1) (out ++ [x] ++ [a]) true := by
  rcases h with ⟨_, rfl, h2⟩ | ⟨h, _⟩
  · refine .inr ⟨rfl, k, Nat.le_succ _, ?_, h2, fun y hy => by have := ss_drop hs ha y hy; omega⟩
    rw [← drop_take_more (Nat.le_refl k) ha]
    simp
  · cases h
theorem PutSt.high {l : List Int} {x a : Int} {k : Nat} {out : List Int} (h : PutSt l x k out true) (ha : l[k]? = some a) : PutSt l x (k + 1) (out ++ [a]) true := by
  rcases h with ⟨h, _⟩ | ⟨_, j, hj, rfl, h1, h2⟩
  · cases h
  · refine .inr ⟨rfl, j, by omega, ?_, h1, h2⟩
    rw [← drop_take_more hj ha]
    simp
theorem PutSt.endF {l : List Int} {x : Int} {out : List Int} (h : PutSt l x l.length out false) : out ++ [x] = ins x l := by
  rcases h with ⟨_, rfl, h2⟩ | ⟨h, _⟩
  · rw [List.take_length] at *
    have := ins_split (q := []) h2 (fun y hy => by cases hy)
    rw [List.append_nil] at this
    exact this.symm
  · cases h
theorem PutSt.endT {l : List Int} {x : Int} {out : List Int} (h : PutSt l x l.length out true) : out = ins x l := by
  rcases h with ⟨h, _⟩ | ⟨_, j, hj, rfl, h1, h2⟩
  · cases h
  · rw [show (l.drop j).take (l.length - j) = l.drop j from List.take_of_length_le (by rw [List.length_drop]; omega)]
    have := ins_split h1 h2
    rw [List.take_append_drop] at this
    exact this.symm
theorem PutSt.len {l : List Int} {x : Int} {k : Nat} {out : List Int} {dn : Bool} (h : PutSt l x k out dn) : out.length ≤ l.length + 1 := by
  rcases h with ⟨_, rfl, _⟩ | ⟨_, j, hj, rfl, _, _⟩
  · rw [List.length_take]; omega
  · simp; omega

set_option maxRecDepth 100000 in
set_option maxHeartbeats 4000000 in
theorem rput_any (l : List Int) (v : Value) (x : Int) (w : World) (hs : SS l) (hl : l.length ≤ 2000000000000) (hV : IV w w.heap.size v l) :
    Calls Tryz.prog 16 #[v, .int .i64 x] w (GivesI w (ins x l)) := by
  obtain ⟨i0, hi0, hz0, hz1, hz2⟩ := info_parts infoI
  have HIN := Lib.hid (fun w' (h : IV w' w.heap.size v l) => rin_any l v x w.heap.size w' h)
  obtain ⟨A, c, rfl, h1, h2⟩ := hV.len
  have HV := Lib.hid hV
  cases hc : l.contains x
  · have hne : ∀ a k, l[k]? = some a → a ≠ x := fun a k h e => by
      subst e; rw [contains_at h] at hc; cases hc
    have HNE := Lib.hid hne
    rw [hc] at HIN
    obtain ⟨R, hR⟩ : ∃ R, ins x l = R := ⟨_, rfl⟩
    have HEF := Lib.hid (fun out (h : PutSt l x l.length out false) => (show out ++ [x] = R by rw [← hR]; exact h.endF))
    have HET := Lib.hid (fun out (h : PutSt l x l.length out true) => (show out = R by rw [← hR]; exact h.endT))
    rw [hR]
    have HS := Lib.hid hs
    have HP0 := Lib.hid (PutSt.start l x)
    clear hV hs hc hne hR
    go_enter Tryz.func16, Tryz.ntmps16
    go_wp2_with (go_at_call 19; ((with_reducible refine (HIN.out _ HV.out).mono ?_); rintro e w' ⟨rfl, rfl⟩))
    go_loopw [5, 6, 7] (fun o dv i wr => ∃ (k : Nat) (out : List Int) (dn : Bool), k ≤ l.length ∧ i = .int .i64 (k : Int) ∧ dv = .bool dn ∧ Hid (PutSt l x k out dn) ∧ Hid (OI w.heap.size wr o out) ∧ Hid (Below w.heap.size w wr)) (fun _ _ i _ => l.length - (intOf i).toNat)
    case atStart => exact ⟨0, [], false, Nat.zero_le _, rfl, rfl, HP0, Lib.hid (World.ownsRow_nil _ _ _ _), Lib.hid (Below.refl _ _)⟩
    case round =>
      obtain ⟨k, out, dn, hk, rfl, rfl, HP, HO, HB⟩ := hrel
      have hsz := HB.out.size
      have hol := HP.out.len
      rcases Nat.lt_or_ge k l.length with hlt | hge
      · obtain ⟨a, ha⟩ : ∃ a, l[k]? = some a := ⟨_, List.getElem?_eq_getElem hlt⟩
        obtain ⟨aa, rfl, haa, ca⟩ := (HV.out.keep (fun p hp => HB.out.cell hp)).at_ ha
        have hne := HNE.out a k ha
        have hm1 : (k : Int) < (l.length : Int) := by omega
        cases dn
        · by_cases hx : x < a
          · have HP2 := Lib.hid (HP.out.turn HS.out ha hx)
            have q := decide_eq_true hx
            clear ha hne
            go_wp2_with (at_builtin; refine wpList_append_own _ rfl _ _ 25 rfl w.heap.size 3 i0 (.int .i64 0) 1 8 undI hi0 hz0 hz1 hz2 rfl (by decide) _ _ _ rfl (World.ownsRow.alloc HO.out _) ⟨wr.heap.size, 0, none⟩ 1 1 [_] rfl rfl (one_cell wr _ _) (one_one _) (by unfold maxLen; omega) (by omega) (by simp; omega) ?_)
            intro v1 w2 hown2 hgrow2 _
            have HO2 := Lib.hid (OI.one hown2)
            have HB2 := Lib.hid ((HB.out.alloc hsz _).grown hgrow2 (by simp; omega) (fun j hj => (World.ownsRow.lt HO.out j hj).1))
            have hsz2 := HB2.out.size
            have hol2 : (out ++ [x]).length = out.length + 1 := by simp
            have ca2 : w2.cell? (aa.add k) = some (.int .i64 a) := by
              rw [HB2.out.cell (by rw [block_of_add]; exact haa), ← HB.out.cell (by rw [block_of_add]; exact haa)]; exact ca
            clear hown2 hgrow2 ca
            go_wp2_with (at_builtin; refine wpList_append_own _ rfl _ _ 25 rfl w.heap.size 3 i0 (.int .i64 0) 1 8 undI hi0 hz0 hz1 hz2 rfl (by decide) _ _ _ rfl (World.ownsRow.alloc HO2.out _) ⟨w2.heap.size, 0, none⟩ 1 1 [_] rfl rfl (one_cell w2 _ _) (one_one _) (by unfold maxLen; omega) (by omega) (by simp; omega) ?_)
            intro v3 w4 hown4 hgrow4 _
            have HO4 := Lib.hid (OI.one (a := out ++ [x]) (by rw [hol2]; exact hown4))
            have HB4 := Lib.hid ((HB2.out.alloc hsz2 _).grown hgrow4 (by simp; omega) (fun j hj => (World.ownsRow.lt HO2.out j hj).1))
            clear hown4 hgrow4
            go_wp2_with fail
            go_roundw
            case rel => exact ⟨k + 1, _, true, by omega, by go_num, rfl, HP2, HO4, HB4⟩
            case measure => simp [intOf]; omega
          · have HP2 := Lib.hid (HP.out.low ha (by omega))
            have q := decide_eq_false hx
            clear ha hne
            go_wp2_with (at_builtin; refine wpList_append_own _ rfl _ _ 25 rfl w.heap.size 3 i0 (.int .i64 0) 1 8 undI hi0 hz0 hz1 hz2 rfl (by decide) _ _ _ rfl (World.ownsRow.alloc HO.out _) ⟨wr.heap.size, 0, none⟩ 1 1 [_] rfl rfl (one_cell wr _ _) (one_one _) (by unfold maxLen; omega) (by omega) (by simp; omega) ?_)
            intro v1 w2 hown2 hgrow2 _
            have HO2 := Lib.hid (OI.one hown2)
            have HB2 := Lib.hid ((HB.out.alloc hsz _).grown hgrow2 (by simp; omega) (fun j hj => (World.ownsRow.lt HO.out j hj).1))
            clear hown2 hgrow2
            go_wp2_with fail
            go_roundw
            case rel => exact ⟨k + 1, _, false, by omega, by go_num, rfl, HP2, HO2, HB2⟩
            case measure => simp [intOf]; omega
        · have HP2 := Lib.hid (HP.out.high ha)
          clear ha hne
          go_wp2_with (at_builtin; refine wpList_append_own _ rfl _ _ 25 rfl w.heap.size 3 i0 (.int .i64 0) 1 8 undI hi0 hz0 hz1 hz2 rfl (by decide) _ _ _ rfl (World.ownsRow.alloc HO.out _) ⟨wr.heap.size, 0, none⟩ 1 1 [_] rfl rfl (one_cell wr _ _) (one_one _) (by unfold maxLen; omega) (by omega) (by simp; omega) ?_)
          intro v1 w2 hown2 hgrow2 _
          have HO2 := Lib.hid (OI.one hown2)
          have HB2 := Lib.hid ((HB.out.alloc hsz _).grown hgrow2 (by simp; omega) (fun j hj => (World.ownsRow.lt HO.out j hj).1))
          clear hown2 hgrow2
          go_wp2_with fail
          go_roundw
          case rel => exact ⟨k + 1, _, true, by omega, by go_num, rfl, HP2, HO2, HB2⟩
          case measure => simp [intOf]; omega
      · obtain rfl : k = l.length := by omega
        have q : (l.length : Int) ≤ (l.length : Int) := Int.le_refl _
        cases dn
        · have HR := Lib.hid (HEF.out _ HP.out)
          clear hge hk
          go_wp2_with (at_builtin; refine wpList_append_own _ rfl _ _ 25 rfl w.heap.size 3 i0 (.int .i64 0) 1 8 undI hi0 hz0 hz1 hz2 rfl (by decide) _ _ _ rfl (World.ownsRow.alloc HO.out _) ⟨wr.heap.size, 0, none⟩ 1 1 [_] rfl rfl (one_cell wr _ _) (one_one _) (by unfold maxLen; omega) (by omega) (by simp; omega) ?_)
          intro v1 w2 hown2 hgrow2 _
          have HO2 := Lib.hid (OI.one hown2)
          have HB2 := Lib.hid ((HB.out.alloc hsz _).grown hgrow2 (by simp; omega) (fun j hj => (World.ownsRow.lt HO.out j hj).1))
          clear hown2 hgrow2
          go_wp2_with fail
          go_ret
          exact ⟨_, rfl, by rw [← HR.out]; exact HO2.out.iv, HB2.out⟩
        · have HR := Lib.hid (HET.out _ HP.out)
          clear hge hk
          go_wp2_with fail
          go_ret
          exact ⟨_, rfl, by rw [← HR.out]; exact HO.out.iv, HB.out⟩
  · have hm := ins_mem hs (List.contains_iff_mem.1 hc)
    rw [hc] at HIN
    rw [hm]
    clear hV hs hc hm
    go_enter Tryz.func16, Tryz.ntmps16
    go_wp2_with (go_at_call 19; ((with_reducible refine (HIN.out _ HV.out).mono ?_); rintro e w' ⟨rfl, rfl⟩))
    go_ret
    exact ⟨_, rfl, HV.out, Below.refl _ _⟩
end Go.Proofs.YtikkmalhdidhaaaGreatDoor

namespace Go.Proofs.YtikkmalhdidhaaaGreatDoor
open Go.RowKit LamM

theorem undS : Tryz.prog.underlying 205 = some (.slice 3) := by kernel_rfl
theorem OI.drew {base : Nat} {w : World} {v : Value} {l : List Int} (h : OI base w v l) : OI base w.drew v l := h
theorem IV.tail {w : World} {B : Nat} {A : Option Addr} {n c : Nat} {x : Int} {l : List Int} (h : IV w B (.slice A n c) (x :: l)) : IV w B (.slice (if c = 1 then A else A.map (·.add 1)) l.length (c - 1)) l := by
  obtain ⟨A', c', e, h1, h2, h3⟩ := h
  injection e with e1 e2 e3
  subst e1 e3
  rw [List.length_cons] at h1 h3
  have h4 := h3.cut (k := 1) (cap := c) (by omega) h1
  refine ⟨_, _, rfl, by omega, by omega, ?_⟩
  rw [Nat.add_sub_cancel, Nat.one_mul] at h4
  exact h4
theorem IV.cons {w : World} {B : Nat} {v : Value} {x : Int} {l : List Int} (h : IV w B v (x :: l)) : ∃ ad c, v = .slice (some ad) (l.length + 1) c ∧ ad.block < B ∧ w.cell? ad = some (.int .i64 x) ∧ l.length + 1 ≤ c ∧ c ≤ maxLen := by
  obtain ⟨A, c, rfl, h1, h2⟩ := h.len
  obtain ⟨ad, rfl, hb, hc⟩ := h.at_ (j := 0) rfl
  exact ⟨ad, c, rfl, hb, hc, h1, h2⟩

theorem OI.drewN {base : Nat} {w : World} {v : Value} {l : List Int} (h : OI base w v l) (n : Nat) : OI base (w.drewN n) v l := h
theorem IV.drew {w : World} {B : Nat} {v : Value} {l : List Int} (h : IV w B v l) : IV w.drew B v l := h
theorem IV.reads {w : World} {B n c : Nat} {A : Option Addr} {l : List Int} (h : IV w B (.slice A n c) l) : Reads w B 1 A l.length (intVals l) := by
  obtain ⟨A', c', e, _, _, h3⟩ := h
  injection e with e1 e2 e3
  subst e1
  exact h3
theorem intVals_one (l : List Int) : ∀ u ∈ intVals l, u.oneCell' = true := by
  intro u hu; unfold intVals at hu; obtain ⟨d, _, rfl⟩ := List.mem_map.1 hu; rfl

set_option maxRecDepth 100000 in
set_option maxHeartbeats 4000000 in
theorem lunion_any (a b : List Int) (va vb : Value) (w : World) (hsa : SS a) (hsb : SS b) (hla : a.length ≤ 2000000000000) (hlb : b.length ≤ 2000000000000) (ha : IV w w.heap.size va a) (hb : IV w w.heap.size vb b) :
    Calls Tryz.prog 157 #[va, vb] w (GivesI w (mrg a b)) := by
  obtain ⟨i0, hi0, hz0, hz1, hz2⟩ := info_parts infoI
  rcases b with _ | ⟨y0, b0⟩
  · obtain ⟨A, c, rfl, h1, h2⟩ := ha.len
    obtain ⟨A', c', rfl, h1', h2'⟩ := hb.len
    have HA := Lib.hid ha
    clear ha hb hsa hsb
    rw [mrg_nil]
    go_enter Tryz.func157, Tryz.ntmps157
    go_wp2_with fail
    go_ret
    exact ⟨_, rfl, HA.out, Below.refl _ _⟩
  · obtain ⟨A, c, rfl, h1, h2⟩ := ha.len
    obtain ⟨bd, c', rfl, hbd, cb, h1', h2'⟩ := hb.cons
    have HA := Lib.hid ha
    have HB := Lib.hid hb
    have HSA := Lib.hid hsa
    have HSB := Lib.hid hsb
    rw [List.length_cons] at hlb
    obtain ⟨n, hn⟩ : ∃ n, a.length + (b0.length + 1) = n := ⟨_, rfl⟩
    have hn1 : n ≤ a.length + (b0.length + 1) := by omega
    have hn2 : a.length + (b0.length + 1) ≤ n := by omega
    obtain ⟨R, hR⟩ : ∃ R, mrg a (y0 :: b0) = R := ⟨_, rfl⟩
    have HR := Lib.hid hR
    rw [hR]
    clear ha hb hsa hsb hn hR
    go_enter Tryz.func157, Tryz.ntmps157
    go_wp2_with (refine wpList_make_own _ rfl _ _ _ rfl w.heap.size 3 i0 (.int .i64 0) 1 undS hi0 hz0 hz1 _ _ _ n rfl rfl (by omega) (by rw [hz2]; omega) (by unfold maxLen; omega) (Nat.le_refl _) ?_)
    intro w1 hown1 hgrow1
    have HO1 := Lib.hid (show OI w.heap.size w1 _ [] from hown1)
    have HB1 := Lib.hid ((Below.refl w.heap.size w).grown hgrow1 (Nat.le_refl _) (fun k hk => by cases hk))
    have HA1 := Lib.hid (HA.out.keep (fun p hp => HB1.out.cell hp))
    have HBB := Lib.hid (HB.out.keep (fun p hp => HB1.out.cell hp))
    clear hown1 hgrow1 HA HB
    go_wp2_with fail
    go_loopg [0, 1, 5] (a.length + (b0.length + 1)) (fun gk av bv o wr => ∃ p q out : List Int, p.length + q.length = gk ∧ out.length + gk ≤ n ∧ Hid (IV wr w.heap.size av p) ∧ Hid (IV wr w.heap.size bv q) ∧ Hid (SS p) ∧ Hid (SS q) ∧ Hid (OI w.heap.size wr o out) ∧ Hid (out ++ mrg p q = R) ∧ Hid (Below w.heap.size w wr))
    case atStart => exact ⟨a, y0 :: b0, [], by simp, by simp; omega, HA1, HBB, HSA, HSB, HO1, HR, HB1⟩
    case round =>
      obtain ⟨p, q, out, hpq, hon, HP, HQ, HSP, HSQ, HO, HRR, HBW⟩ := hrel
      have hsz := HBW.out.size
      have hp1 : p.length + q.length ≤ gk := by omega
      have hp2 : gk ≤ p.length + q.length := by omega
      clear hpq
      rcases p with _ | ⟨x, p⟩
      · have HRR2 := Lib.hid (show out ++ q = R by have := HRR.out; rw [mrg_nil_left HSQ.out] at this; exact this)
        rw [List.length_nil] at hp1 hp2
        obtain ⟨PA, pc, rfl, hpl, hpc⟩ := HP.out.len
        obtain ⟨QA, qc, rfl, hql, hqc⟩ := HQ.out.len
        have HRP := Lib.hid (HP.out.reads)
        have HRQ := Lib.hid (HQ.out.reads)
        go_wp2_with (at_builtin; refine wpList_append_any _ rfl _ _ 205 rfl w.heap.size 3 i0 (.int .i64 0) 1 8 undS hi0 hz0 hz1 hz2 rfl (by decide) _ _ _ rfl HO.out w.heap.size _ _ _ _ rfl HRP.out (intVals_one _) (by have := (List.length_nil : ([] : List Int).length = 0); unfold maxLen; omega) (by have := (List.length_nil : ([] : List Int).length = 0); omega) (by omega) ?_)
        intro v2 w2 hown2 hgrow2 _
        have HO2 := Lib.hid (show OI w.heap.size w2 v2 (out) from (by have := OI.app (a := out) (b := []) hown2; rwa [List.append_nil] at this))
        have HB2 := Lib.hid (HBW.out.grown hgrow2 (by omega) (fun j hj => (World.ownsRow.lt HO.out j hj).1))
        have HRQ2 := Lib.hid (HRQ.out.keep (fun p hp => (HB2.out.cell hp).trans (HBW.out.cell hp).symm))
        have hsz2 := HB2.out.size
        have hol2 : (out).length = out.length := by simp
        clear hown2 hgrow2
        go_wp2_with (at_builtin; refine wpList_append_any _ rfl _ _ 205 rfl w.heap.size 3 i0 (.int .i64 0) 1 8 undS hi0 hz0 hz1 hz2 rfl (by decide) _ _ _ rfl HO2.out w.heap.size _ _ _ _ rfl HRQ2.out (intVals_one _) (by have := (List.length_nil : ([] : List Int).length = 0); unfold maxLen; omega) (by have := (List.length_nil : ([] : List Int).length = 0); omega) (by omega) ?_)
        intro v3 w3 hown3 hgrow3 _
        have HO3 := Lib.hid (show OI w.heap.size w3 v3 R from by rw [← HRR2.out]; exact OI.app (a := out) (b := q) hown3)
        have HB3 := Lib.hid (HB2.out.grown hgrow3 (by omega) (fun j hj => (World.ownsRow.lt HO2.out j hj).1))
        clear hown3 hgrow3
        go_wp2_with fail
        go_ret
        exact ⟨_, rfl, HO3.out.iv, HB3.out⟩
      · rcases q with _ | ⟨y, q⟩
        · have HRR2 := Lib.hid (show out ++ (x :: p) = R by have := HRR.out; rw [mrg_nil] at this; exact this)
          rw [List.length_nil, List.length_cons] at hp1 hp2
          obtain ⟨PA, pc, rfl, hpl, hpc⟩ := HP.out.len
          obtain ⟨QA, qc, rfl, hql, hqc⟩ := HQ.out.len
          have HRP := Lib.hid (HP.out.reads)
          have HRQ := Lib.hid (HQ.out.reads)
          go_wp2_with (at_builtin; refine wpList_append_any _ rfl _ _ 205 rfl w.heap.size 3 i0 (.int .i64 0) 1 8 undS hi0 hz0 hz1 hz2 rfl (by decide) _ _ _ rfl HO.out w.heap.size _ _ _ _ rfl HRP.out (intVals_one _) (by have := (List.length_cons : (x :: p).length = p.length + 1); unfold maxLen; omega) (by have := (List.length_cons : (x :: p).length = p.length + 1); omega) (by omega) ?_)
          intro v2 w2 hown2 hgrow2 _
          have HO2 := Lib.hid (show OI w.heap.size w2 v2 (out ++ (x :: p)) from OI.app (a := out) (b := x :: p) hown2)
          have HB2 := Lib.hid (HBW.out.grown hgrow2 (by omega) (fun j hj => (World.ownsRow.lt HO.out j hj).1))
          have HRQ2 := Lib.hid (HRQ.out.keep (fun p hp => (HB2.out.cell hp).trans (HBW.out.cell hp).symm))
          have hsz2 := HB2.out.size
          have hol2 : (out ++ (x :: p)).length = out.length + (p.length + 1) := by simp
          clear hown2 hgrow2
          go_wp2_with (at_builtin; refine wpList_append_any _ rfl _ _ 205 rfl w.heap.size 3 i0 (.int .i64 0) 1 8 undS hi0 hz0 hz1 hz2 rfl (by decide) _ _ _ rfl HO2.out w.heap.size _ _ _ _ rfl HRQ2.out (intVals_one _) (by have := (List.length_nil : ([] : List Int).length = 0); unfold maxLen; omega) (by have := (List.length_nil : ([] : List Int).length = 0); omega) (by omega) ?_)
          intro v3 w3 hown3 hgrow3 _
          have HO3 := Lib.hid (show OI w.heap.size w3 v3 R from by rw [← HRR2.out]; exact (by have := OI.app (a := out ++ (x :: p)) (b := []) (by rw [hol2]; exact hown3); rwa [List.append_nil] at this))
          have HB3 := Lib.hid (HB2.out.grown hgrow3 (by omega) (fun j hj => (World.ownsRow.lt HO2.out j hj).1))
          clear hown3 hgrow3
          go_wp2_with fail
          go_ret
          exact ⟨_, rfl, HO3.out.iv, HB3.out⟩
        · obtain ⟨pd, pc, rfl, hpd, cp, hpl, hpc⟩ := HP.out.cons
          obtain ⟨qd, qc, rfl, hqd, cq, hql, hqc⟩ := HQ.out.cons
          rw [List.length_cons, List.length_cons] at hp1 hp2
          have HBW0 := HBW
          obtain ⟨PT, hPT⟩ : ∃ PT, (if pc = 1 then some pd else some ({ block := pd.block, off := pd.off + 1 } : Addr)) = PT := ⟨_, rfl⟩
          obtain ⟨QT, hQT⟩ : ∃ QT, (if qc = 1 then some qd else some ({ block := qd.block, off := qd.off + 1 } : Addr)) = QT := ⟨_, rfl⟩
          have HPT := Lib.hid (show IV wr w.heap.size (.slice PT p.length (pc - 1)) p by rw [← hPT]; exact HP.out.tail)
          have HQT := Lib.hid (show IV wr w.heap.size (.slice QT q.length (qc - 1)) q by rw [← hQT]; exact HQ.out.tail)
          have z1 : (0 : Int) < (p.length : Int) + 1 := by omega
          have z2 : (0 : Int) < (q.length : Int) + 1 := by omega
          have r1 : (1 : Int) ≤ (p.length : Int) + 1 := by omega
          have r2 : (1 : Int) ≤ (q.length : Int) + 1 := by omega
          have r3 : (1 : Int) ≤ ((p.length + 1 : Nat) : Int) := by omega
          have r4 : (1 : Int) ≤ ((q.length + 1 : Nat) : Int) := by omega
          by_cases hlt : x < y
          · have q1 := decide_eq_true hlt
            have HRR2 := Lib.hid (show (out ++ [x]) ++ mrg p (y :: q) = R by have := HRR.out; rw [mrg_lt HSP.out HSQ.out hlt] at this; simpa using this)
            go_wp2_with fail
            go_quiet (fail)
            have HO1 := Lib.hid (OI.drewN HO.out nq)
            have HB1 := Lib.hid (below_drewN HBW.out nq)
            have cp1 : (wr.drewN nq).cell? pd = some (.int .i64 x) := cp
            have cq1 : (wr.drewN nq).cell? qd = some (.int .i64 y) := cq
            generalize wr.drewN nq = w1 at *
            go_wp2_with fail
            have hsz1 := HB1.out.size
            go_region_held3 (fun w' => w'.cell? pd = some (.int .i64 x)) (first | with_reducible exact CP2.out | go_keep) (first
                          | (refine step_append_any _ rfl _ _ 205 rfl w.heap.size 3 i0 (.int .i64 0) 1 8 undS hi0 hz0 hz1 hz2 rfl (by decide) _ _ _ rfl (World.ownsRow.drew (World.ownsRow.alloc HO1.out _)) _ _ _ _ _ rfl (IV.reads (IV.drew (one_IV _ _))) (intVals_one _) (by have := (List.length_cons : ([x] : List Int).length = 0 + 1); unfold maxLen; omega) (by have := (List.length_cons : ([x] : List Int).length = 0 + 1); omega) (by simp; omega) ?_; intro v2 w2 hown2 hgrow2 _; have HO2 := Lib.hid (OI.one hown2); have HB2 := Lib.hid ((HB1.out.alloc hsz1 (.cells #[.int .i64 x] 3)).drew.grown hgrow2 (by simp; omega) (fun j hj => (World.ownsRow.lt HO1.out j hj).1)); have CP2 := Lib.hid ((HB2.out.cell hpd).trans ((HB1.out.cell hpd).symm.trans cp1)); clear hown2 hgrow2))
            all_goals go_wp2_with fail
            all_goals go_roundg (gk - 1)
            all_goals first | omega | exact ⟨p, y :: q, out ++ [x], by first | omega | (simp; omega), by first | omega | (simp; omega), Lib.hid (HPT.out.keep (fun p hp => (HB2.out.cell hp).trans (HBW0.out.cell hp).symm)), Lib.hid (HQ.out.keep (fun p hp => (HB2.out.cell hp).trans (HBW0.out.cell hp).symm)), Lib.hid (ss_cons.1 HSP.out).2, HSQ, HO2, HRR2, HB2⟩
          · by_cases hgt : y < x
            · have q1 := decide_eq_false hlt
              have q2 := decide_eq_true hgt
              have HRR2 := Lib.hid (show (out ++ [y]) ++ mrg (x :: p) q = R by have := HRR.out; rw [mrg_gt HSP.out HSQ.out hgt] at this; simpa using this)
              go_wp2_with fail
              go_quiet (fail)
              have HO1 := Lib.hid (OI.drewN HO.out nq)
              have HB1 := Lib.hid (below_drewN HBW.out nq)
              have cp1 : (wr.drewN nq).cell? pd = some (.int .i64 x) := cp
              have cq1 : (wr.drewN nq).cell? qd = some (.int .i64 y) := cq
              generalize wr.drewN nq = w1 at *
              clear cp cq HO HBW
              go_wp2_with fail
              go_quiet (fail)
              have HO := HO1
              have HBW := HB1
              clear HO1 HB1
              have HO1 := Lib.hid (OI.drewN HO.out nq)
              have HB1 := Lib.hid (below_drewN HBW.out nq)
              have cp := cp1
              have cq := cq1
              clear cp1 cq1
              have cp1 : (w1.drewN nq).cell? pd = some (.int .i64 x) := cp
              have cq1 : (w1.drewN nq).cell? qd = some (.int .i64 y) := cq
              clear cp cq
              generalize w1.drewN nq = w5 at *
              go_wp2_with fail
              have hsz1 := HB1.out.size
              go_region_held3 (fun w' => w'.cell? qd = some (.int .i64 y)) (first | with_reducible exact CP2.out | go_keep) (first
                              | (refine step_append_any _ rfl _ _ 205 rfl w.heap.size 3 i0 (.int .i64 0) 1 8 undS hi0 hz0 hz1 hz2 rfl (by decide) _ _ _ rfl (World.ownsRow.drew (World.ownsRow.alloc HO1.out _)) _ _ _ _ _ rfl (IV.reads (IV.drew (one_IV _ _))) (intVals_one _) (by have := (List.length_cons : ([y] : List Int).length = 0 + 1); unfold maxLen; omega) (by have := (List.length_cons : ([y] : List Int).length = 0 + 1); omega) (by simp; omega) ?_; intro v2 w2 hown2 hgrow2 _; have HO2 := Lib.hid (OI.one hown2); have HB2 := Lib.hid ((HB1.out.alloc hsz1 (.cells #[.int .i64 y] 3)).drew.grown hgrow2 (by simp; omega) (fun j hj => (World.ownsRow.lt HO1.out j hj).1)); have CP2 := Lib.hid ((HB2.out.cell hqd).trans ((HB1.out.cell hqd).symm.trans cq1)); clear hown2 hgrow2))
              all_goals go_wp2_with fail
              all_goals go_roundg (gk - 1)
              all_goals first | omega | exact ⟨x :: p, q, out ++ [y], by first | omega | (simp; omega), by first | omega | (simp; omega), Lib.hid (HP.out.keep (fun p hp => (HB2.out.cell hp).trans (HBW0.out.cell hp).symm)), Lib.hid (HQT.out.keep (fun p hp => (HB2.out.cell hp).trans (HBW0.out.cell hp).symm)), HSP, Lib.hid (ss_cons.1 HSQ.out).2, HO2, HRR2, HB2⟩
            · obtain rfl : x = y := by omega
              have q1 := decide_eq_false hlt
              have HRR2 := Lib.hid (show (out ++ [x]) ++ mrg p q = R by have := HRR.out; rw [mrg_eq HSP.out HSQ.out] at this; simpa using this)
              go_wp2_with fail
              go_quiet (fail)
              have HO1 := Lib.hid (OI.drewN HO.out nq)
              have HB1 := Lib.hid (below_drewN HBW.out nq)
              have cp1 : (wr.drewN nq).cell? pd = some (.int .i64 x) := cp
              have cq1 : (wr.drewN nq).cell? qd = some (.int .i64 x) := cq
              generalize wr.drewN nq = w1 at *
              clear cp cq HO HBW
              go_wp2_with fail
              go_quiet (fail)
              have HO := HO1
              have HBW := HB1
              clear HO1 HB1
              have HO1 := Lib.hid (OI.drewN HO.out nq)
              have HB1 := Lib.hid (below_drewN HBW.out nq)
              have cp := cp1
              have cq := cq1
              clear cp1 cq1
              have cp1 : (w1.drewN nq).cell? pd = some (.int .i64 x) := cp
              have cq1 : (w1.drewN nq).cell? qd = some (.int .i64 x) := cq
              clear cp cq
              generalize w1.drewN nq = w5 at *
              go_wp2_with fail
              have hsz1 := HB1.out.size
              go_region_held3 (fun w' => w'.cell? pd = some (.int .i64 x)) (first | with_reducible exact CP2.out | go_keep) (first
                              | (refine step_append_any _ rfl _ _ 205 rfl w.heap.size 3 i0 (.int .i64 0) 1 8 undS hi0 hz0 hz1 hz2 rfl (by decide) _ _ _ rfl (World.ownsRow.drew (World.ownsRow.alloc HO1.out _)) _ _ _ _ _ rfl (IV.reads (IV.drew (one_IV _ _))) (intVals_one _) (by have := (List.length_cons : ([x] : List Int).length = 0 + 1); unfold maxLen; omega) (by have := (List.length_cons : ([x] : List Int).length = 0 + 1); omega) (by simp; omega) ?_; intro v2 w2 hown2 hgrow2 _; have HO2 := Lib.hid (OI.one hown2); have HB2 := Lib.hid ((HB1.out.alloc hsz1 (.cells #[.int .i64 x] 3)).drew.grown hgrow2 (by simp; omega) (fun j hj => (World.ownsRow.lt HO1.out j hj).1)); have CP2 := Lib.hid ((HB2.out.cell hpd).trans ((HB1.out.cell hpd).symm.trans cp1)); clear hown2 hgrow2))
              all_goals go_wp2_with fail
              all_goals go_roundg (gk - 2)
              all_goals first | omega | exact ⟨p, q, out ++ [x], by first | omega | (simp; omega), by first | omega | (simp; omega), Lib.hid (HPT.out.keep (fun p hp => (HB2.out.cell hp).trans (HBW0.out.cell hp).symm)), Lib.hid (HQT.out.keep (fun p hp => (HB2.out.cell hp).trans (HBW0.out.cell hp).symm)), Lib.hid (ss_cons.1 HSP.out).2, Lib.hid (ss_cons.1 HSQ.out).2, HO2, HRR2, HB2⟩
end Go.Proofs.YtikkmalhdidhaaaGreatDoor
