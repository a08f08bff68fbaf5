/- Lambda: which nodes are made: the program's below, the reference's. Lambda: which nodes are made: the reference's below. Lambda: the reference's in, what a node binds (both). -/
import Derived.Test.YtmedfpejfpdpdaaGreatDoorLamKit
import Derived.Test.YtmedfpejfpdpdaaGreatDoorProg
import Derived.Deep.CutBlock
import Derived.Deep.CutRange
import Derived.Deep.RegionHeld3
import Derived.Deep.DeepCutAuto
namespace Go.Proofs.YtmedfpejfpdpdaaGreatDoor
open Go.RowKit LamM

theorem infoB : (Tryz.prog.info? 4).map (fun i => (i.zero, i.size, i.bytes)) = some (some (.bool false), 1, 1) := by kernel_rfl
theorem undB : Tryz.prog.underlying 32 = some (.slice 4) := by kernel_rfl

/-- What below hands back. -/
def BelowPost (L : List Tm) (root n : Nat) (w : World) (e : Ending) (w' : World) : Prop :=
  ∃ g, e = .returned (.tuple #[.slice (some ⟨g, 0, none⟩) n n, .bool (below L root).2]) ∧ w.heap.size ≤ g ∧ w'.ownsRow g 4 1 (.slice (some ⟨g, 0, none⟩) n n) n (boolVals n (below L root).1) ∧ Below w.heap.size w w'

/-- The round's place: -1, or j. -/
def AtI (k : Nat) (v : Value) : Prop := (k = 0 ∧ v = .int .i64 (-1)) ∨ (∃ j : Nat, k = j + 1 ∧ v = .int .i64 (j : Int))
theorem AtI.start (n : Nat) : AtI n (.int .i64 ((n : Int) - 1)) := by
  rcases n with _ | n
  · exact .inl ⟨rfl, rfl⟩
  · exact .inr ⟨n, rfl, by congr 1; omega⟩

theorem stepA_cons {i : Nat} {a : Int} {l : List Int} {s : (Nat → Bool) × Bool} : stepA i (a :: l) s = stepA i l (if a < 0 ∨ (i : Int) ≤ a then (s.1, false) else (upd s.1 a.toNat, s.2)) := rfl
theorem drop_at {α : Type} {l : List α} {m : Nat} {a : α} (h : l[m]? = some a) : l.drop m = a :: l.drop (m + 1) := by
  obtain ⟨h1, h2⟩ := List.getElem?_eq_some_iff.1 h
  rw [List.drop_eq_getElem_cons h1, h2]

theorem cell_spell {w : World} {ad : Addr} {i k : Nat} {v : Value} : (w.cell? (ad.add (i + (k + 1))) = some v) = (w.cell? ⟨(ad.add i).block, (ad.add i).off + (k + 1), none⟩ = some v) := by
  rw [← add_of_add]; rfl
set_option maxRecDepth 100000 in
set_option maxHeartbeats 2000000 in
theorem lbelow_any (L : List Tm) (A : Option Addr) (c n : Nat) (root : Nat) (w : World) (hr : root < L.length) (hn : n = root + 1) (hN : NV w w.heap.size (.slice A L.length c) L) :
    Calls Tryz.prog 9 #[.slice A L.length c, .int .i64 (root : Int)] w (BelowPost L root n w) := by
  obtain ⟨i0, hi0, hz0, hz1, hz2⟩ := info_parts infoB
  obtain ⟨A', c', e, hc1, hc2⟩ := hN.len
  injection e with e1 e2 e3
  subst e1 e3
  have hLn : L.length ≤ 1300000000000 := by omega
  have hle := fun j => below_le L root j
  obtain ⟨T, hT⟩ : ∃ T, below L root = T := ⟨_, rfl⟩
  have HT := Lib.hid hT
  have HTB : Hid (belowF L (root + 1) (upd (fun _ => false) root, true) = T) := Lib.hid hT
  have HN := Lib.hid hN
  have hnr : n ≤ L.length := by omega
  have hn1 : n ≤ root + 1 := by omega
  have hn2 : root + 1 ≤ n := by omega
  clear hN hT hle hn
  unfold BelowPost
  rw [HT.out]
  go_enter Tryz.func9, Tryz.ntmps9
  go_wp2_with (refine wpList_make_full _ rfl _ _ _ rfl w.heap.size 4 i0 (.bool false) 1 undB hi0 hz0 hz1 _ _ _ _ n rfl rfl (by omega) (by omega) (by rw [hz2]; omega) (by unfold maxLen; omega) (Nat.le_refl _) ?_)
  intro w1 hown1 hgrow1
  rw [boolVals_made] at hown1
  have hbel1 : Below w.heap.size w w1 := (Below.refl _ _).grown hgrow1 (Nat.le_refl _) (fun k hk => by cases hk)
  obtain ⟨g, hg⟩ : ∃ g, g = w.heap.size := ⟨_, rfl⟩
  rw [← hg] at hown1 ⊢
  have hgl : g < w1.heap.size := (World.ownsRow.lt hown1 g rfl).2
  have hrn : root < n := by omega
  have c1 : w1.cell? ⟨g, root, none⟩ = some (.bool false) := by
    rw [World.ownsRow.cellAt hown1 root (by omega), boolVals_get hrn]
  have f1 := World.ownsRow.frozenAt hown1 root
  have hst := (World.ownsRow.stored hown1 root (.bool true)).1
  rw [boolVals_set hrn] at hst
  have HO1 := Lib.hid hst
  have HBE1 := Lib.hid (hbel1.setCell (p := ⟨g, root, none⟩) (by show w.heap.size ≤ g; omega) (.bool true))
  have hri : (root : Int) < (n : Int) := by omega
  have HG := Lib.hid hg
  have hg2 : w.heap.size ≤ g := by omega
  clear hown1 hgrow1 hbel1 hst hg
  go_wp2
  go_loopw [7, 8] (fun ok i wr => ∃ (k : Nat) (f : Nat → Bool) (b : Bool), k ≤ n ∧ AtI k i ∧ ok = .bool b ∧ Hid (belowF L k (f, b) = T) ∧ Hid (wr.ownsRow g 4 1 (.slice (some ⟨g, 0, none⟩) n n) n (boolVals n f)) ∧ Hid (Below w.heap.size w wr)) (fun _ i _ => (intOf i + 1).toNat)
  case atStart => exact ⟨root + 1, _, true, by omega, .inr ⟨root, rfl, rfl⟩, rfl, HTB, HO1, HBE1⟩
  case round =>
    obtain ⟨k, f, b, hk, hi, rfl, HQ, HOW, HB⟩ := hrel
    rcases hi with ⟨rfl, rfl⟩ | ⟨j, rfl, rfl⟩
    · have hQ : T = (f, b) := HQ.out.symm
      have HO := Lib.hid (show T.1 = f ∧ T.2 = b by rw [hQ]; exact ⟨rfl, rfl⟩)
      have hgw : w.heap.size ≤ g := by omega
      clear hQ
      go_wp2_with fail
      go_ret2
      exact ⟨g, by rw [HO.out.2]; rfl, hgw, by rw [HO.out.1]; exact HOW.out, HB.out⟩
    · have hjn : j < n := by omega
      have hjn1 : (j : Int) < (n : Int) := by omega
      have cj := World.ownsRow.cellAt HOW.out j (by omega)
      rw [boolVals_get hjn] at cj
      cases hf : f j
      · rw [hf] at cj
        have HQ2 := Lib.hid (show belowF L j (f, b) = T by have := HQ.out; unfold belowF at this; rw [show (f, b).1 j = false from hf, if_neg (by decide)] at this; exact this)
        clear hf
        go_wp2_with fail
        go_roundw
        case rel =>
          have hs := AtI.start j
          exact ⟨j, f, b, by omega, hs, rfl, HQ2, HOW, HB⟩
        case measure => simp [intOf]
      · rw [hf] at cj
        obtain ⟨t, ht⟩ : ∃ t, L[j]? = some t := ⟨_, List.getElem?_eq_getElem (by omega)⟩
        have HA := Lib.hid (show argsAt L j = t.args by unfold argsAt; rw [ht])
        have HQ2 := Lib.hid (show belowF L j (stepA j t.args (f, b)) = T by have := HQ.out; unfold belowF at this; rw [show (f, b).1 j = true from hf, if_pos rfl, HA.out] at this; exact this)
        have hNr := HN.out.keep (fun p hp => HB.out.cell hp)
        obtain ⟨ad, vv, kv, av, rfl, had, htv, _, _, _, _, _, _, _, ca⟩ := hNr.at_ ht
        rw [cell_spell] at ca
        obtain ⟨Aa, na, rfl, hna, hnm⟩ := htv.a.len
        have hal : t.args.length ≤ 9223372036854775807 := by unfold maxLen at hnm; omega
        have HV := Lib.hid htv.a
        have HRA := Lib.hid htv.ra
        have hjL : (j : Int) < (L.length : Int) := by omega
        clear hf ht htv hNr
        generalize t.args = args at *
        obtain ⟨S, hS⟩ : ∃ S, stepA j args (f, b) = S := ⟨_, rfl⟩
        have HS0 : Hid (stepA j (args.drop 0) (f, b) = S) := Lib.hid hS
        rw [hS] at HQ2
        clear hS
        go_wp2_with fail
        go_loopw [7, 33] (fun ok ix wr2 => ∃ (m : Nat) (f2 : Nat → Bool) (b2 : Bool), m ≤ args.length ∧ ix = .int .i64 (m : Int) ∧ ok = .bool b2 ∧ Hid (stepA j (args.drop m) (f2, b2) = S) ∧ Hid (wr2.ownsRow g 4 1 (.slice (some ⟨g, 0, none⟩) n n) n (boolVals n f2)) ∧ Hid (Below w.heap.size w wr2)) (fun _ i _ => args.length - (intOf i).toNat)
        case atStart => exact ⟨0, f, b, Nat.zero_le _, rfl, rfl, HS0, HOW, HB⟩
        case round =>
          obtain ⟨m, f2, b2, hm, rfl, rfl, HS, HOW2, HB2⟩ := hrel
          rcases Nat.lt_or_ge m args.length with hlt | hge
          · obtain ⟨a, ha⟩ : ∃ a, args[m]? = some a := ⟨_, List.getElem?_eq_getElem hlt⟩
            obtain ⟨aa, rfl, haa, ca2⟩ := (HV.out.keep (fun p hp => (HB2.out.cell hp).trans (HB.out.cell hp).symm)).at_ ha
            have hra := HRA.out a (List.mem_of_getElem? ha)
            have HS1 := HS.out
            rw [drop_at ha, stepA_cons] at HS1
            have hm1 : (m : Int) < (args.length : Int) := by omega
            clear ha
            by_cases h1 : a < 0
            · rw [if_pos (.inl h1)] at HS1
              have HS2 := Lib.hid HS1
              clear HS1
              go_wp2_with fail
              go_roundw
              case rel => exact ⟨m + 1, f2, false, by omega, by go_num, rfl, HS2, HOW2, HB2⟩
              case measure => simp [intOf]; omega
            · by_cases h2 : (j : Int) ≤ a
              · rw [if_pos (.inr h2)] at HS1
                have HS2 := Lib.hid HS1
                have q1 : decide (a < 0) = false := decide_eq_false h1
                have q2 : decide ((j : Int) ≤ a) = true := decide_eq_true h2
                clear HS1
                go_wp2_with fail
                go_roundw
                case rel => exact ⟨m + 1, f2, false, by omega, by go_num, rfl, HS2, HOW2, HB2⟩
                case measure => simp [intOf]; omega
              · rw [if_neg (by rintro (h | h) <;> omega)] at HS1
                obtain ⟨x, rfl⟩ : ∃ x : Nat, a = (x : Int) := ⟨a.toNat, by omega⟩
                rw [Int.toNat_natCast] at HS1
                have HS2 := Lib.hid HS1
                have hx1 : (x : Int) < (n : Int) := by omega
                have cx := World.ownsRow.cellAt HOW2.out x (by omega)
                rw [boolVals_get (by omega)] at cx
                have fx := World.ownsRow.frozenAt HOW2.out x
                have hst := (World.ownsRow.stored HOW2.out x (.bool true)).1
                rw [boolVals_set (by omega)] at hst
                have HO3 := Lib.hid hst
                have HB3 := Lib.hid (HB2.out.setCell (p := ⟨g, x, none⟩) (by show w.heap.size ≤ g; omega) (.bool true))
                have hxj : ((x : Nat) : Int) < (j : Int) := by omega
                clear HS1 hst h1 h2
                go_wp2_with fail
                go_roundw
                case rel => exact ⟨m + 1, _, b2, by omega, by go_num, rfl, HS2, HO3, HB3⟩
                case measure => simp [intOf]; omega
          · have hmm : m = args.length := by omega
            have HSS := Lib.hid (show (f2, b2) = S by have := HS.out; rw [List.drop_eq_nil_of_le (by omega)] at this; exact this)
            have HQ3 := Lib.hid (show belowF L j (f2, b2) = T by rw [HSS.out]; exact HQ2.out)
            have q0 : (args.length : Int) ≤ (m : Int) := by omega
            clear hmm hge hm
            go_wp2_with fail
            go_roundw
            case rel =>
              have hs := AtI.start j
              exact ⟨j, f2, b2, by omega, hs, rfl, HQ3, HOW2, HB2⟩
            case measure => simp [intOf]
end Go.Proofs.YtmedfpejfpdpdaaGreatDoor

namespace Go.Proofs.YtmedfpejfpdpdaaGreatDoor
open Go.RowKit LamM

theorem upd_lo {f : Nat → Bool} {x j : Nat} (h : x < j) : upd f x j = f j := by
  unfold upd
  rw [show (j == x) = false from beq_eq_false_iff_ne.2 (by omega), Bool.false_or]

set_option maxRecDepth 100000 in
set_option maxHeartbeats 4000000 in
theorem rbelow_any (L : List Tm) (A : Option Addr) (c : Nat) (root : Nat) (w : World) (hr : root < L.length) (hN : NV w w.heap.size (.slice A L.length c) L) :
    Calls Tryz.prog 16 #[.slice A L.length c, .int .i64 (root : Int)] w (BelowPost L root L.length w) := by
  obtain ⟨i0, hi0, hz0, hz1, hz2⟩ := info_parts infoB
  obtain ⟨A', c', e, hc1, hc2⟩ := hN.len
  injection e with e1 e2 e3
  subst e1 e3
  have hLn : L.length ≤ 1300000000000 := by omega
  obtain ⟨T, hT⟩ : ∃ T, below L root = T := ⟨_, rfl⟩
  have HT := Lib.hid hT
  have HTB : Hid (belowF L (root + 1) (upd (fun _ => false) root, true) = T) := Lib.hid hT
  have HN := Lib.hid hN
  clear hN hT
  unfold BelowPost
  rw [HT.out]
  obtain ⟨n, hn⟩ : ∃ n, L.length = n := ⟨_, rfl⟩
  have HLN := Lib.hid hn
  rw [hn] at hr hc1 hLn HN ⊢
  clear hn
  go_enter Tryz.func16, Tryz.ntmps16
  go_wp2_with (refine wpList_make_full _ rfl _ _ _ rfl w.heap.size 4 i0 (.bool false) 1 undB hi0 hz0 hz1 _ _ _ _ n rfl rfl (by omega) (by omega) (by rw [hz2]; omega) (by unfold maxLen; omega) (Nat.le_refl _) ?_)
  intro w1 hown1 hgrow1
  rw [boolVals_made] at hown1
  have hbel1 : Below w.heap.size w w1 := (Below.refl _ _).grown hgrow1 (Nat.le_refl _) (fun k hk => by cases hk)
  obtain ⟨g, hg⟩ : ∃ g, g = w.heap.size := ⟨_, rfl⟩
  rw [← hg] at hown1 ⊢
  have c1 : w1.cell? ⟨g, root, none⟩ = some (.bool false) := by
    rw [World.ownsRow.cellAt hown1 root (by omega), boolVals_get hr]
  have f1 := World.ownsRow.frozenAt hown1 root
  have hst := (World.ownsRow.stored hown1 root (.bool true)).1
  rw [boolVals_set hr] at hst
  have HO1 := Lib.hid hst
  have HBE1 := Lib.hid (hbel1.setCell (p := ⟨g, root, none⟩) (by show w.heap.size ≤ g; omega) (.bool true))
  have hri : (root : Int) < (n : Int) := by omega
  have hg2 : w.heap.size ≤ g := by omega
  clear hown1 hgrow1 hbel1 hst hg
  go_wp2
  go_loopw [7, 8] (fun ok i wr => ∃ (k : Nat) (f : Nat → Bool) (b : Bool), k ≤ n ∧ AtI k i ∧ ok = .bool b ∧ Hid (belowF L k (f, b) = T) ∧ Hid (wr.ownsRow g 4 1 (.slice (some ⟨g, 0, none⟩) n n) n (boolVals n f)) ∧ Hid (Below w.heap.size w wr)) (fun _ i _ => (intOf i + 1).toNat)
  case atStart => exact ⟨root + 1, _, true, by omega, .inr ⟨root, rfl, rfl⟩, rfl, HTB, HO1, HBE1⟩
  case round =>
    obtain ⟨k, f, b, hk, hi, rfl, HQ, HOW, HB⟩ := hrel
    rcases hi with ⟨rfl, rfl⟩ | ⟨j, rfl, rfl⟩
    · have hQ : T = (f, b) := HQ.out.symm
      have HO := Lib.hid (show T.1 = f ∧ T.2 = b by rw [hQ]; exact ⟨rfl, rfl⟩)
      clear hQ
      go_wp2_with fail
      go_ret2
      exact ⟨g, by rw [HO.out.2]; rfl, hg2, by rw [HO.out.1]; exact HOW.out, HB.out⟩
    · have hjn : j < n := by omega
      have hjn1 : (j : Int) < (n : Int) := by omega
      cases hf : f j
      · have HQ2 := Lib.hid (show belowF L j (f, b) = T by have := HQ.out; unfold belowF at this; rw [show (f, b).1 j = false from hf, if_neg (by decide)] at this; exact this)
        have HF := Lib.hid hf
        clear hf
        go_wp2_with fail
        go_loopw [7, 9] (fun ok ix wr2 => ix = .int .i64 0 ∧ ok = .bool b ∧ wr2 = wr) (fun _ _ _ => 0)
        case atStart => exact ⟨rfl, rfl, rfl⟩
        case round =>
          obtain ⟨rfl, rfl, rfl⟩ := hrel
          have cj := World.ownsRow.cellAt HOW.out j (by omega)
          rw [boolVals_get hjn, HF.out] at cj
          go_wp2_with fail
          go_roundw
          case rel =>
            have hs := AtI.start j
            exact ⟨j, f, b, by omega, hs, rfl, HQ2, HOW, HB⟩
          case measure => simp [intOf]
      · obtain ⟨t, ht⟩ : ∃ t, L[j]? = some t := ⟨_, List.getElem?_eq_getElem (by have := HLN.out; omega)⟩
        have HA := Lib.hid (show argsAt L j = t.args by unfold argsAt; rw [ht])
        have HQ2 := Lib.hid (show belowF L j (stepA j t.args (f, b)) = T by have := HQ.out; unfold belowF at this; rw [show (f, b).1 j = true from hf, if_pos rfl, HA.out] at this; exact this)
        obtain ⟨ad, vv, kv, av, rfl, had, htv, _, _, _, _, _, _, _, ca⟩ := HN.out.at_ ht
        rw [cell_spell] at ca
        obtain ⟨Aa, na, rfl, hna, hnm⟩ := htv.a.len
        have hal : t.args.length ≤ 9223372036854775807 := by unfold maxLen at hnm; omega
        have HV := Lib.hid htv.a
        have HRA := Lib.hid htv.ra
        have HCA := Lib.hid ca
        have HF := Lib.hid hf
        clear hf ht htv ca
        generalize t.args = args at *
        obtain ⟨S, hS⟩ : ∃ S, stepA j args (f, b) = S := ⟨_, rfl⟩
        have HS0 : Hid (stepA j (args.drop 0) (f, b) = S) := Lib.hid hS
        rw [hS] at HQ2
        clear hS
        go_wp2_with fail
        go_loopw [7, 9] (fun ok ix wr2 => ∃ (m : Nat) (f2 : Nat → Bool) (b2 : Bool), m ≤ args.length ∧ ix = .int .i64 (m : Int) ∧ ok = .bool b2 ∧ Hid (stepA j (args.drop m) (f2, b2) = S) ∧ Hid (f2 j = true) ∧ Hid (wr2.ownsRow g 4 1 (.slice (some ⟨g, 0, none⟩) n n) n (boolVals n f2)) ∧ Hid (Below w.heap.size w wr2)) (fun _ i _ => args.length - (intOf i).toNat)
        case atStart => exact ⟨0, f, b, Nat.zero_le _, rfl, rfl, HS0, HF, HOW, HB⟩
        case round =>
          obtain ⟨m, f2, b2, hm, rfl, rfl, HS, HF2, HOW2, HB2⟩ := hrel
          have cj := World.ownsRow.cellAt HOW2.out j (by omega)
          rw [boolVals_get hjn, HF2.out] at cj
          have ca := (HB2.out.cell (p := ⟨(ad.add (j * 8)).block, (ad.add (j * 8)).off + (6 + 1), none⟩) (by show (ad.add (j * 8)).block < _; rw [block_of_add]; exact had)).trans HCA.out
          rcases Nat.lt_or_ge m args.length with hlt | hge
          · obtain ⟨a, ha⟩ : ∃ a, args[m]? = some a := ⟨_, List.getElem?_eq_getElem hlt⟩
            obtain ⟨aa, rfl, haa, ca2⟩ := (HV.out.keep (fun p hp => HB2.out.cell hp)).at_ ha
            have hra := HRA.out a (List.mem_of_getElem? ha)
            have HS1 := HS.out
            rw [drop_at ha, stepA_cons] at HS1
            have hm1 : (m : Int) < (args.length : Int) := by omega
            clear ha
            by_cases h1 : a < 0
            · rw [if_pos (.inl h1)] at HS1
              have HS2 := Lib.hid HS1
              clear HS1
              go_wp2_with fail
              go_roundw
              case rel => exact ⟨m + 1, f2, false, by omega, by go_num, rfl, HS2, HF2, HOW2, HB2⟩
              case measure => simp [intOf]; omega
            · by_cases h2 : (j : Int) ≤ a
              · rw [if_pos (.inr h2)] at HS1
                have HS2 := Lib.hid HS1
                have q1 : decide (a < 0) = false := decide_eq_false h1
                have q2 : decide ((j : Int) ≤ a) = true := decide_eq_true h2
                clear HS1
                go_wp2_with fail
                go_roundw
                case rel => exact ⟨m + 1, f2, false, by omega, by go_num, rfl, HS2, HF2, HOW2, HB2⟩
                case measure => simp [intOf]; omega
              · rw [if_neg (by rintro (h | h) <;> omega)] at HS1
                obtain ⟨x, rfl⟩ : ∃ x : Nat, a = (x : Int) := ⟨a.toNat, by omega⟩
                rw [Int.toNat_natCast] at HS1
                have HS2 := Lib.hid HS1
                have hx1 : (x : Int) < (n : Int) := by omega
                have cx := World.ownsRow.cellAt HOW2.out x (by omega)
                rw [boolVals_get (by omega)] at cx
                have fx := World.ownsRow.frozenAt HOW2.out x
                have hst := (World.ownsRow.stored HOW2.out x (.bool true)).1
                rw [boolVals_set (by omega)] at hst
                have HO3 := Lib.hid hst
                have HB3 := Lib.hid (HB2.out.setCell (p := ⟨g, x, none⟩) (by show w.heap.size ≤ g; omega) (.bool true))
                have hxj : ((x : Nat) : Int) < (j : Int) := by omega
                have HF3 := Lib.hid (show upd f2 x j = true by rw [upd_lo (by omega)]; exact HF2.out)
                clear HS1 hst h1 h2
                go_wp2_with fail
                go_roundw
                case rel => exact ⟨m + 1, _, b2, by omega, by go_num, rfl, HS2, HF3, HO3, HB3⟩
                case measure => simp [intOf]; omega
          · have HSS := Lib.hid (show (f2, b2) = S by have := HS.out; rw [List.drop_eq_nil_of_le (by omega)] at this; exact this)
            have HQ3 := Lib.hid (show belowF L j (f2, b2) = T by rw [HSS.out]; exact HQ2.out)
            have q0 : (args.length : Int) ≤ (m : Int) := by omega
            clear hge hm
            go_wp2_with fail
            go_roundw
            case rel =>
              have hs := AtI.start j
              exact ⟨j, f2, b2, by omega, hs, rfl, HQ3, HOW2, HB2⟩
            case measure => simp [intOf]
end Go.Proofs.YtmedfpejfpdpdaaGreatDoor

namespace Go.Proofs.YtmedfpejfpdpdaaGreatDoor
open Go.RowKit LamM

theorem contains_at {l : List Int} {x : Int} {k : Nat} (h : l[k]? = some x) : l.contains x = true := by
  rw [List.contains_iff_mem]; exact List.mem_of_getElem? h
theorem contains_no {l : List Int} {x : Int} (h : ∀ k : Nat, k < l.length → l[k]? ≠ some x) : l.contains x = false := by
  cases hc : l.contains x
  · rfl
  · rw [List.contains_iff_mem] at hc
    obtain ⟨k, hk, e⟩ := List.getElem_of_mem hc
    exact absurd (by rw [List.getElem?_eq_getElem hk, e]) (h k hk)

set_option maxRecDepth 100000 in
set_option maxHeartbeats 1000000 in
theorem rin_any (l : List Int) (v : Value) (x : Int) (B : Nat) (w : World) (hV : IV w B v l) :
    Calls Tryz.prog 19 #[v, .int .i64 x] w fun e w' => e = .returned (.bool (l.contains x)) ∧ w = w' := by
  obtain ⟨A, c, rfl, h1, h2⟩ := hV.len
  have hl : l.length ≤ 9223372036854775807 := by unfold maxLen at h2; omega
  have HV := Lib.hid hV
  have HY := Lib.hid (fun k (h : l[k]? = some x) => contains_at h)
  have HNO := Lib.hid (fun (h : ∀ k : Nat, k < l.length → l[k]? ≠ some x) => contains_no h)
  obtain ⟨r, hr⟩ : ∃ r, l.contains x = r := ⟨_, rfl⟩
  rw [hr] at HY HNO ⊢
  clear hV hr
  go_enter Tryz.func19, Tryz.ntmps19
  go_wp2
  go_loopw [5] (fun i wr => wr = w ∧ ∃ k : Nat, k ≤ l.length ∧ i = .int .i64 (k : Int) ∧ Hid (∀ j : Nat, j < k → l[j]? ≠ some x)) (fun i _ => l.length - (intOf i).toNat)
  case atStart => exact ⟨rfl, 0, Nat.zero_le _, rfl, Lib.hid (fun j h => by omega)⟩
  case round =>
    obtain ⟨rfl, k, hk, rfl, HK⟩ := hrel
    rcases Nat.lt_or_ge k l.length with hlt | hge
    · obtain ⟨a, ha⟩ : ∃ a, l[k]? = some a := ⟨_, List.getElem?_eq_getElem hlt⟩
      obtain ⟨aa, rfl, _, ca⟩ := HV.out.at_ ha
      have hm1 : (k : Int) < (l.length : Int) := by omega
      by_cases h : a = x
      · have HR := Lib.hid (HY.out k (by rw [ha, h]))
        have q := b_true h
        clear h ha
        go_wp2_with fail
        go_ret
        exact ⟨by rw [HR.out]; rfl, rfl⟩
      · have q := b_false h
        have HK2 := Lib.hid (show ∀ j : Nat, j < k + 1 → l[j]? ≠ some x from fun j hj e => by
          rcases Nat.lt_or_ge j k with h3 | h3
          · exact HK.out j h3 e
          · obtain rfl : j = k := by omega
            rw [ha] at e; exact h (Option.some.inj e))
        clear h ha
        go_wp2_with fail
        go_roundw
        case rel => exact ⟨by first | rfl | trivial, k + 1, by omega, by go_num, HK2⟩
        case measure => simp [intOf]; omega
    · have HR := Lib.hid (HNO.out (fun j hj => HK.out j (by omega)))
      have q : (l.length : Int) ≤ (k : Int) := by omega
      clear hge hk
      go_wp2_with fail
      go_ret
      exact ⟨by rw [HR.out]; rfl, rfl⟩

/-- A fresh slice of one int. -/
theorem one_IV (w : World) (x : Int) : IV (w.alloc (.cells #[.int .i64 x] 3)) (w.heap.size + 1) (.slice (some ⟨w.heap.size, 0, none⟩) 1 1) [x] := by
  refine ⟨_, _, rfl, Nat.le_refl _, by unfold maxLen; decide, rfl, fun _ => ⟨_, rfl, Nat.lt_succ_self _, fun j u hj => ?_⟩⟩
  have h := (Blk.new w 3 #[.int .i64 x]).cell 0
  match j, hj with
  | 0, hj =>
    have : u = .int .i64 x := by simpa [intVals] using hj.symm
    subst this
    exact h
  | j + 1, hj => simp [intVals] at hj
theorem nil_IV (w : World) (B : Nat) : IV w B (.slice none 0 0) [] := ⟨none, 0, rfl, Nat.le_refl _, by unfold maxLen; omega, Reads.none_⟩
theorem IV.more {w : World} {B B' : Nat} {v : Value} {l : List Int} (h : IV w B v l) (hB : B ≤ B') : IV w B' v l := by
  obtain ⟨A, c, e, h1, h2, h3⟩ := h
  exact ⟨A, c, e, h1, h2, h3.more hB⟩
theorem IV.below {w w' : World} {v : Value} {l : List Int} (h : IV w w.heap.size v l) (hb : Below w.heap.size w w') : IV w' w'.heap.size v l :=
  (h.keep (fun _ hp => hb.cell hp)).more hb.size
/-- Gives ints: a slice that reads as these. -/
def GivesI (w : World) (l : List Int) (e : Ending) (w' : World) : Prop := ∃ v, e = .returned v ∧ IV w' w'.heap.size v l ∧ Below w.heap.size w w'
theorem one_after (w : World) (o : Obj) (x : Int) : IV ((w.alloc o).alloc (.cells #[.int .i64 x] 3)) ((w.alloc o).alloc (.cells #[.int .i64 x] 3)).heap.size (.slice (some ⟨w.heap.size + 1, 0, none⟩) 1 1) [x] := by
  have h := one_IV (w.alloc o) x
  rw [show (w.alloc o).heap.size = w.heap.size + 1 by simp] at h
  exact h.more (by simp)
def BoxT (t : Tm) (vv kv av : Value) : Obj := .cells #[.int .i64 t.k, .int .i64 t.n, .int .i64 t.i, .int .u64 t.b, .string ⟨t.t.toArray⟩, vv, kv, av] 42

set_option maxRecDepth 100000 in
set_option maxHeartbeats 2000000 in
theorem lbound_any (t : Tm) (vv kv av : Value) (k : Nat) (w : World) (hT : TV w w.heap.size t vv kv av) :
    Calls Tryz.prog 14 #[.agg (tmVals t vv kv av).toArray, .int .i64 (k : Int)] w (GivesI w (boundAt t k)) := by
  have HT := Lib.hid hT
  have HB1 := Lib.hid ((Below.refl w.heap.size w).alloc (Nat.le_refl _) (BoxT t vv kv av))
  have HB2 := Lib.hid (two_alloc w (BoxT t vv kv av) (.cells #[.int .i64 t.n] 3))
  have HON := Lib.hid (one_after w (BoxT t vv kv av) t.n)
  have HNI := Lib.hid (nil_IV (w.alloc (BoxT t vv kv av)) (w.alloc (BoxT t vv kv av)).heap.size)
  have HVS := Lib.hid (hT.v.below HB1.out)
  have HBL := Blk.new w 42 #[.int .i64 t.k, .int .i64 t.n, .int .i64 t.i, .int .u64 t.b, .string ⟨t.t.toArray⟩, vv, kv, av]
  have c0 := HBL.cell 0
  have c1 := HBL.cell 1
  have c5 := HBL.cell 5
  obtain ⟨R, hR⟩ : ∃ R, boundAt t k = R := ⟨_, rfl⟩
  have HR := Lib.hid hR
  rw [hR]
  unfold boundAt at hR
  clear hT HBL
  unfold tmVals
  unfold BoxT at HB1 HB2 HON HNI HVS
  by_cases k8 : t.k = 8
  · rw [if_pos k8] at hR
    have q8 := b_true k8
    have HR2 := Lib.hid hR
    clear hR k8
    go_enter Tryz.func14, Tryz.ntmps14
    go_wp2_with fail
    go_ret
    exact ⟨_, rfl, by rw [← HR2.out]; exact HON.out, HB2.out⟩
  · rw [if_neg k8] at hR
    have q8 := b_false k8
    clear k8
    by_cases k10 : t.k = 10 ∨ t.k = 14
    · rw [if_pos k10] at hR
      by_cases h1 : k = 1
      · rw [if_pos h1] at hR
        have q1 := b_true (show (k : Int) = 1 by omega)
        have HR2 := Lib.hid hR
        clear hR h1
        rcases k10 with k10 | k10
        · have q10 := b_true k10
          clear k10
          go_enter Tryz.func14, Tryz.ntmps14
          go_wp2_with fail
          go_ret
          exact ⟨_, rfl, by rw [← HR2.out]; exact HON.out, HB2.out⟩
        · have q10 := b_false (show t.k ≠ 10 by omega)
          have q14 := b_true k10
          clear k10
          go_enter Tryz.func14, Tryz.ntmps14
          go_wp2_with fail
          go_ret
          exact ⟨_, rfl, by rw [← HR2.out]; exact HON.out, HB2.out⟩
      · rw [if_neg h1] at hR
        have q1 := b_false (show (k : Int) ≠ 1 by omega)
        have HR2 := Lib.hid hR
        clear hR h1
        rcases k10 with k10 | k10
        · have q10 := b_true k10
          clear k10
          go_enter Tryz.func14, Tryz.ntmps14
          go_wp2_with fail
          go_ret
          exact ⟨_, rfl, by rw [← HR2.out]; exact HNI.out, HB1.out⟩
        · have q10 := b_false (show t.k ≠ 10 by omega)
          have q14 := b_true k10
          clear k10
          go_enter Tryz.func14, Tryz.ntmps14
          go_wp2_with fail
          go_ret
          exact ⟨_, rfl, by rw [← HR2.out]; exact HNI.out, HB1.out⟩
    · rw [if_neg k10] at hR
      have q10 := b_false (show t.k ≠ 10 from fun h => k10 (.inl h))
      have q14 := b_false (show t.k ≠ 14 from fun h => k10 (.inr h))
      clear k10
      by_cases k11 : t.k = 11
      · rw [if_pos k11] at hR
        have q11 := b_true k11
        have HR2 := Lib.hid hR
        clear hR k11
        go_enter Tryz.func14, Tryz.ntmps14
        go_wp2_with fail
        go_ret
        exact ⟨_, rfl, by rw [← HR2.out]; exact HVS.out, HB1.out⟩
      · rw [if_neg k11] at hR
        have q11 := b_false k11
        have HR2 := Lib.hid hR
        clear hR k11
        go_enter Tryz.func14, Tryz.ntmps14
        go_wp2_with fail
        go_ret
        exact ⟨_, rfl, by rw [← HR2.out]; exact HNI.out, HB1.out⟩

set_option maxRecDepth 100000 in
set_option maxHeartbeats 2000000 in
theorem rbinds_any (t : Tm) (vv kv av : Value) (k : Nat) (w : World) (hT : TV w w.heap.size t vv kv av) :
    Calls Tryz.prog 18 #[.agg (tmVals t vv kv av).toArray, .int .i64 (k : Int)] w (GivesI w (boundAt t k)) := by
  have HT := Lib.hid hT
  have HB1 := Lib.hid ((Below.refl w.heap.size w).alloc (Nat.le_refl _) (BoxT t vv kv av))
  have HB2 := Lib.hid (two_alloc w (BoxT t vv kv av) (.cells #[.int .i64 t.n] 3))
  have HON := Lib.hid (one_after w (BoxT t vv kv av) t.n)
  have HNI := Lib.hid (nil_IV (w.alloc (BoxT t vv kv av)) (w.alloc (BoxT t vv kv av)).heap.size)
  have HVS := Lib.hid (hT.v.below HB1.out)
  have HBL := Blk.new w 42 #[.int .i64 t.k, .int .i64 t.n, .int .i64 t.i, .int .u64 t.b, .string ⟨t.t.toArray⟩, vv, kv, av]
  have c0 := HBL.cell 0
  have c1 := HBL.cell 1
  have c5 := HBL.cell 5
  obtain ⟨R, hR⟩ : ∃ R, boundAt t k = R := ⟨_, rfl⟩
  have HR := Lib.hid hR
  rw [hR]
  unfold boundAt at hR
  clear hT HBL
  unfold tmVals
  unfold BoxT at HB1 HB2 HON HNI HVS
  by_cases k8 : t.k = 8
  · rw [if_pos k8] at hR
    have q8 := b_true k8
    have HR2 := Lib.hid hR
    clear hR k8
    go_enter Tryz.func18, Tryz.ntmps18
    go_wp2_with fail
    go_ret
    exact ⟨_, rfl, by rw [← HR2.out]; exact HON.out, HB2.out⟩
  · rw [if_neg k8] at hR
    have q8 := b_false k8
    clear k8
    by_cases k10 : t.k = 10 ∨ t.k = 14
    · rw [if_pos k10] at hR
      by_cases h1 : k = 1
      · rw [if_pos h1] at hR
        have q1 := b_true (show (k : Int) = 1 by omega)
        have HR2 := Lib.hid hR
        clear hR h1
        rcases k10 with k10 | k10
        · have q10 := b_true k10
          clear k10
          go_enter Tryz.func18, Tryz.ntmps18
          go_wp2_with fail
          go_ret
          exact ⟨_, rfl, by rw [← HR2.out]; exact HON.out, HB2.out⟩
        · have q10 := b_false (show t.k ≠ 10 by omega)
          have q14 := b_true k10
          clear k10
          go_enter Tryz.func18, Tryz.ntmps18
          go_wp2_with fail
          go_ret
          exact ⟨_, rfl, by rw [← HR2.out]; exact HON.out, HB2.out⟩
      · rw [if_neg h1] at hR
        have q1 := b_false (show (k : Int) ≠ 1 by omega)
        have HR2 := Lib.hid hR
        clear hR h1
        rcases k10 with k10 | k10
        · have q10 := b_true k10
          clear k10
          go_enter Tryz.func18, Tryz.ntmps18
          go_wp2_with fail
          go_ret
          exact ⟨_, rfl, by rw [← HR2.out]; exact HNI.out, HB1.out⟩
        · have q10 := b_false (show t.k ≠ 10 by omega)
          have q14 := b_true k10
          clear k10
          go_enter Tryz.func18, Tryz.ntmps18
          go_wp2_with fail
          go_ret
          exact ⟨_, rfl, by rw [← HR2.out]; exact HNI.out, HB1.out⟩
    · rw [if_neg k10] at hR
      have q10 := b_false (show t.k ≠ 10 from fun h => k10 (.inl h))
      have q14 := b_false (show t.k ≠ 14 from fun h => k10 (.inr h))
      clear k10
      by_cases k11 : t.k = 11
      · rw [if_pos k11] at hR
        have q11 := b_true k11
        have HR2 := Lib.hid hR
        clear hR k11
        go_enter Tryz.func18, Tryz.ntmps18
        go_wp2_with fail
        go_ret
        exact ⟨_, rfl, by rw [← HR2.out]; exact HVS.out, HB1.out⟩
      · rw [if_neg k11] at hR
        have q11 := b_false k11
        have HR2 := Lib.hid hR
        clear hR k11
        go_enter Tryz.func18, Tryz.ntmps18
        go_wp2_with fail
        go_ret
        exact ⟨_, rfl, by rw [← HR2.out]; exact HNI.out, HB1.out⟩
end Go.Proofs.YtmedfpejfpdpdaaGreatDoor
