/- Cps: which nodes are made: the program's below, the reference's. -/
import Derived.Test.YtjhdlnllhjffkaaGreatDoorCloMb
import Derived.Test.YtjhdlnllhjffkaaGreatDoorCloMc
namespace Go.Proofs.YtjhdlnllhjffkaaGreatDoor
open Go.RowKit LamM CpsM

set_option maxRecDepth 100000 in
set_option maxHeartbeats 2000000 in
theorem cbelow_any (L : List Fl) (A : Option Addr) (c n : Nat) (root : Nat) (w : World) (hr : root < L.length) (hn : n = root + 1) (hN : NF w w.heap.size (.slice A L.length c) L) :
    Calls Tryz.prog 74 #[.slice A L.length c, .int .i64 (root : Int)] w (BelowPost (tms L) root n w) := by
  obtain ⟨i0, hi0, hz0, hz1, hz2⟩ := info_parts infoB
  obtain ⟨A', c', e, hc1, hc2⟩ := hN.len
  injection e with e1 e2 e3
  subst e1 e3
  have hLn : L.length ≤ 1300000000000 := by omega
  have hle := fun j => below_le (tms L) root j
  obtain ⟨T, hT⟩ : ∃ T, below (tms L) root = T := ⟨_, rfl⟩
  have HT := Lib.hid hT
  have HTB : Hid (belowF (tms L) (root + 1) (upd (fun _ => false) root, true) = T) := Lib.hid hT
  have HN := Lib.hid hN
  have hnr : n ≤ L.length := by omega
  have hn1 : n ≤ root + 1 := by omega
  have hn2 : root + 1 ≤ n := by omega
  clear hN hT hle hn
  unfold BelowPost
  rw [HT.out]
  go_enter Tryz.func74, Tryz.ntmps74
  go_wp2_with (refine wpList_make_full _ rfl _ _ _ rfl w.heap.size 4 i0 (.bool false) 1 undB hi0 hz0 hz1 _ _ _ _ n rfl rfl (by omega) (by omega) (by rw [hz2]; omega) (by unfold maxLen; omega) (Nat.le_refl _) ?_)
  intro w1 hown1 hgrow1
  rw [boolVals_made] at hown1
  have hbel1 : Below w.heap.size w w1 := (Below.refl _ _).grown hgrow1 (Nat.le_refl _) (fun k hk => by cases hk)
  obtain ⟨g, hg⟩ : ∃ g, g = w.heap.size := ⟨_, rfl⟩
  rw [← hg] at hown1 ⊢
  have hgl : g < w1.heap.size := (World.ownsRow.lt hown1 g rfl).2
  have hrn : root < n := by omega
  have c1 : w1.cell? ⟨g, root, none⟩ = some (.bool false) := by
    rw [World.ownsRow.cellAt hown1 root (by omega), boolVals_get hrn]
  have f1 := World.ownsRow.frozenAt hown1 root
  have hst := (World.ownsRow.stored hown1 root (.bool true)).1
  rw [boolVals_set hrn] at hst
  have HO1 := Lib.hid hst
  have HBE1 := Lib.hid (hbel1.setCell (p := ⟨g, root, none⟩) (by show w.heap.size ≤ g; omega) (.bool true))
  have hri : (root : Int) < (n : Int) := by omega
  have HG := Lib.hid hg
  have hg2 : w.heap.size ≤ g := by omega
  clear hown1 hgrow1 hbel1 hst hg
  go_wp2
  go_loopw [7, 8] (fun ok i wr => ∃ (k : Nat) (f : Nat → Bool) (b : Bool), k ≤ n ∧ AtI k i ∧ ok = .bool b ∧ Hid (belowF (tms L) k (f, b) = T) ∧ Hid (wr.ownsRow g 4 1 (.slice (some ⟨g, 0, none⟩) n n) n (boolVals n f)) ∧ Hid (Below w.heap.size w wr)) (fun _ i _ => (intOf i + 1).toNat)
  case atStart => exact ⟨root + 1, _, true, by omega, .inr ⟨root, rfl, rfl⟩, rfl, HTB, HO1, HBE1⟩
  case round =>
    obtain ⟨k, f, b, hk, hi, rfl, HQ, HOW, HB⟩ := hrel
    rcases hi with ⟨rfl, rfl⟩ | ⟨j, rfl, rfl⟩
    · have hQ : T = (f, b) := HQ.out.symm
      have HO := Lib.hid (show T.1 = f ∧ T.2 = b by rw [hQ]; exact ⟨rfl, rfl⟩)
      have hgw : w.heap.size ≤ g := by omega
      clear hQ
      go_wp2_with fail
      go_ret2
      exact ⟨g, by rw [HO.out.2]; rfl, hgw, by rw [HO.out.1]; exact HOW.out, HB.out⟩
    · have hjn : j < n := by omega
      have hjn1 : (j : Int) < (n : Int) := by omega
      have cj := World.ownsRow.cellAt HOW.out j (by omega)
      rw [boolVals_get hjn] at cj
      cases hf : f j
      · rw [hf] at cj
        have HQ2 := Lib.hid (show belowF (tms L) j (f, b) = T by have := HQ.out; unfold belowF at this; rw [show (f, b).1 j = false from hf, if_neg (by decide)] at this; exact this)
        clear hf
        go_wp2_with fail
        go_roundw
        case rel =>
          have hs := AtI.start j
          exact ⟨j, f, b, by omega, hs, rfl, HQ2, HOW, HB⟩
        case measure => simp [intOf]
      · rw [hf] at cj
        obtain ⟨t, ht⟩ : ∃ t, L[j]? = some t := ⟨_, List.getElem?_eq_getElem (by omega)⟩
        have HA := Lib.hid (show argsAt (tms L) j = t.args from argsC_at ht)
        have HQ2 := Lib.hid (show belowF (tms L) j (stepA j t.args (f, b)) = T by have := HQ.out; unfold belowF at this; rw [show (f, b).1 j = true from hf, if_pos rfl, HA.out] at this; exact this)
        have hNr := HN.out.keep (fun p hp => HB.out.cell hp)
        obtain ⟨ad, vv, kv, av, rfl, had, htv, _, _, _, _, _, _, _, _, ca⟩ := hNr.at_ ht
        rw [cell_spell] at ca
        obtain ⟨Aa, na, rfl, hna, hnm⟩ := htv.a.len
        have hal : t.args.length ≤ 9223372036854775807 := by unfold maxLen at hnm; omega
        have HV := Lib.hid htv.a
        have HRA := Lib.hid htv.ra
        have hjL : (j : Int) < (L.length : Int) := by omega
        clear hf ht htv hNr
        generalize t.args = args at *
        obtain ⟨S, hS⟩ : ∃ S, stepA j args (f, b) = S := ⟨_, rfl⟩
        have HS0 : Hid (stepA j (args.drop 0) (f, b) = S) := Lib.hid hS
        rw [hS] at HQ2
        clear hS
        go_wp2_with fail
        go_loopw [7, 33] (fun ok ix wr2 => ∃ (m : Nat) (f2 : Nat → Bool) (b2 : Bool), m ≤ args.length ∧ ix = .int .i64 (m : Int) ∧ ok = .bool b2 ∧ Hid (stepA j (args.drop m) (f2, b2) = S) ∧ Hid (wr2.ownsRow g 4 1 (.slice (some ⟨g, 0, none⟩) n n) n (boolVals n f2)) ∧ Hid (Below w.heap.size w wr2)) (fun _ i _ => args.length - (intOf i).toNat)
        case atStart => exact ⟨0, f, b, Nat.zero_le _, rfl, rfl, HS0, HOW, HB⟩
        case round =>
          obtain ⟨m, f2, b2, hm, rfl, rfl, HS, HOW2, HB2⟩ := hrel
          rcases Nat.lt_or_ge m args.length with hlt | hge
          · obtain ⟨a, ha⟩ : ∃ a, args[m]? = some a := ⟨_, List.getElem?_eq_getElem hlt⟩
            obtain ⟨aa, rfl, haa, ca2⟩ := (HV.out.keep (fun p hp => (HB2.out.cell hp).trans (HB.out.cell hp).symm)).at_ ha
            have hra := HRA.out a (List.mem_of_getElem? ha)
            have HS1 := HS.out
            rw [drop_at ha, stepA_cons] at HS1
            have hm1 : (m : Int) < (args.length : Int) := by omega
            clear ha
            by_cases h1 : a < 0
            · rw [if_pos (.inl h1)] at HS1
              have HS2 := Lib.hid HS1
              clear HS1
              go_wp2_with fail
              go_roundw
              case rel => exact ⟨m + 1, f2, false, by omega, by go_num, rfl, HS2, HOW2, HB2⟩
              case measure => simp [intOf]; omega
            · by_cases h2 : (j : Int) ≤ a
              · rw [if_pos (.inr h2)] at HS1
                have HS2 := Lib.hid HS1
                have q1 : decide (a < 0) = false := decide_eq_false h1
                have q2 : decide ((j : Int) ≤ a) = true := decide_eq_true h2
                clear HS1
                go_wp2_with fail
                go_roundw
                case rel => exact ⟨m + 1, f2, false, by omega, by go_num, rfl, HS2, HOW2, HB2⟩
                case measure => simp [intOf]; omega
              · rw [if_neg (by rintro (h | h) <;> omega)] at HS1
                obtain ⟨x, rfl⟩ : ∃ x : Nat, a = (x : Int) := ⟨a.toNat, by omega⟩
                rw [Int.toNat_natCast] at HS1
                have HS2 := Lib.hid HS1
                have hx1 : (x : Int) < (n : Int) := by omega
                have cx := World.ownsRow.cellAt HOW2.out x (by omega)
                rw [boolVals_get (by omega)] at cx
                have fx := World.ownsRow.frozenAt HOW2.out x
                have hst := (World.ownsRow.stored HOW2.out x (.bool true)).1
                rw [boolVals_set (by omega)] at hst
                have HO3 := Lib.hid hst
                have HB3 := Lib.hid (HB2.out.setCell (p := ⟨g, x, none⟩) (by show w.heap.size ≤ g; omega) (.bool true))
                have hxj : ((x : Nat) : Int) < (j : Int) := by omega
                clear HS1 hst h1 h2
                go_wp2_with fail
                go_roundw
                case rel => exact ⟨m + 1, _, b2, by omega, by go_num, rfl, HS2, HO3, HB3⟩
                case measure => simp [intOf]; omega
          · have hmm : m = args.length := by omega
            have HSS := Lib.hid (show (f2, b2) = S by have := HS.out; rw [List.drop_eq_nil_of_le (by omega)] at this; exact this)
            have HQ3 := Lib.hid (show belowF (tms L) j (f2, b2) = T by rw [HSS.out]; exact HQ2.out)
            have q0 : (args.length : Int) ≤ (m : Int) := by omega
            clear hmm hge hm
            go_wp2_with fail
            go_roundw
            case rel =>
              have hs := AtI.start j
              exact ⟨j, f2, b2, by omega, hs, rfl, HQ3, HOW2, HB2⟩
            case measure => simp [intOf]

set_option maxRecDepth 100000 in
set_option maxHeartbeats 4000000 in
theorem sbelow_any (L : List Fl) (A : Option Addr) (c : Nat) (root : Nat) (w : World) (hr : root < L.length) (hN : NF w w.heap.size (.slice A L.length c) L) :
    Calls Tryz.prog 36 #[.slice A L.length c, .int .i64 (root : Int)] w (BelowPost (tms L) root L.length w) := by
  obtain ⟨i0, hi0, hz0, hz1, hz2⟩ := info_parts infoB
  obtain ⟨A', c', e, hc1, hc2⟩ := hN.len
  injection e with e1 e2 e3
  subst e1 e3
  have hLn : L.length ≤ 1300000000000 := by omega
  obtain ⟨T, hT⟩ : ∃ T, below (tms L) root = T := ⟨_, rfl⟩
  have HT := Lib.hid hT
  have HTB : Hid (belowF (tms L) (root + 1) (upd (fun _ => false) root, true) = T) := Lib.hid hT
  have HN := Lib.hid hN
  clear hN hT
  unfold BelowPost
  rw [HT.out]
  obtain ⟨n, hn⟩ : ∃ n, L.length = n := ⟨_, rfl⟩
  have HLN := Lib.hid hn
  rw [hn] at hr hc1 hLn HN ⊢
  clear hn
  go_enter Tryz.func36, Tryz.ntmps36
  go_wp2_with (refine wpList_make_full _ rfl _ _ _ rfl w.heap.size 4 i0 (.bool false) 1 undB hi0 hz0 hz1 _ _ _ _ n rfl rfl (by omega) (by omega) (by rw [hz2]; omega) (by unfold maxLen; omega) (Nat.le_refl _) ?_)
  intro w1 hown1 hgrow1
  rw [boolVals_made] at hown1
  have hbel1 : Below w.heap.size w w1 := (Below.refl _ _).grown hgrow1 (Nat.le_refl _) (fun k hk => by cases hk)
  obtain ⟨g, hg⟩ : ∃ g, g = w.heap.size := ⟨_, rfl⟩
  rw [← hg] at hown1 ⊢
  have c1 : w1.cell? ⟨g, root, none⟩ = some (.bool false) := by
    rw [World.ownsRow.cellAt hown1 root (by omega), boolVals_get hr]
  have f1 := World.ownsRow.frozenAt hown1 root
  have hst := (World.ownsRow.stored hown1 root (.bool true)).1
  rw [boolVals_set hr] at hst
  have HO1 := Lib.hid hst
  have HBE1 := Lib.hid (hbel1.setCell (p := ⟨g, root, none⟩) (by show w.heap.size ≤ g; omega) (.bool true))
  have hri : (root : Int) < (n : Int) := by omega
  have hg2 : w.heap.size ≤ g := by omega
  clear hown1 hgrow1 hbel1 hst hg
  go_wp2
  go_loopw [7, 8] (fun ok i wr => ∃ (k : Nat) (f : Nat → Bool) (b : Bool), k ≤ n ∧ AtI k i ∧ ok = .bool b ∧ Hid (belowF (tms L) k (f, b) = T) ∧ Hid (wr.ownsRow g 4 1 (.slice (some ⟨g, 0, none⟩) n n) n (boolVals n f)) ∧ Hid (Below w.heap.size w wr)) (fun _ i _ => (intOf i + 1).toNat)
  case atStart => exact ⟨root + 1, _, true, by omega, .inr ⟨root, rfl, rfl⟩, rfl, HTB, HO1, HBE1⟩
  case round =>
    obtain ⟨k, f, b, hk, hi, rfl, HQ, HOW, HB⟩ := hrel
    rcases hi with ⟨rfl, rfl⟩ | ⟨j, rfl, rfl⟩
    · have hQ : T = (f, b) := HQ.out.symm
      have HO := Lib.hid (show T.1 = f ∧ T.2 = b by rw [hQ]; exact ⟨rfl, rfl⟩)
      clear hQ
      go_wp2_with fail
      go_ret2
      exact ⟨g, by rw [HO.out.2]; rfl, hg2, by rw [HO.out.1]; exact HOW.out, HB.out⟩
    · have hjn : j < n := by omega
      have hjn1 : (j : Int) < (n : Int) := by omega
      cases hf : f j
      · have HQ2 := Lib.hid (show belowF (tms L) j (f, b) = T by have := HQ.out; unfold belowF at this; rw [show (f, b).1 j = false from hf, if_neg (by decide)] at this; exact this)
        have HF := Lib.hid hf
        clear hf
        go_wp2_with fail
        go_loopw [7, 9] (fun ok ix wr2 => ix = .int .i64 0 ∧ ok = .bool b ∧ wr2 = wr) (fun _ _ _ => 0)
        case atStart => exact ⟨rfl, rfl, rfl⟩
        case round =>
          obtain ⟨rfl, rfl, rfl⟩ := hrel
          have cj := World.ownsRow.cellAt HOW.out j (by omega)
          rw [boolVals_get hjn, HF.out] at cj
          go_wp2_with fail
          go_roundw
          case rel =>
            have hs := AtI.start j
            exact ⟨j, f, b, by omega, hs, rfl, HQ2, HOW, HB⟩
          case measure => simp [intOf]
      · obtain ⟨t, ht⟩ : ∃ t, L[j]? = some t := ⟨_, List.getElem?_eq_getElem (by have := HLN.out; omega)⟩
        have HA := Lib.hid (show argsAt (tms L) j = t.args from argsC_at ht)
        have HQ2 := Lib.hid (show belowF (tms L) j (stepA j t.args (f, b)) = T by have := HQ.out; unfold belowF at this; rw [show (f, b).1 j = true from hf, if_pos rfl, HA.out] at this; exact this)
        obtain ⟨ad, vv, kv, av, rfl, had, htv, _, _, _, _, _, _, _, _, ca⟩ := HN.out.at_ ht
        rw [cell_spell] at ca
        obtain ⟨Aa, na, rfl, hna, hnm⟩ := htv.a.len
        have hal : t.args.length ≤ 9223372036854775807 := by unfold maxLen at hnm; omega
        have HV := Lib.hid htv.a
        have HRA := Lib.hid htv.ra
        have HCA := Lib.hid ca
        have HF := Lib.hid hf
        clear hf ht htv ca
        generalize t.args = args at *
        obtain ⟨S, hS⟩ : ∃ S, stepA j args (f, b) = S := ⟨_, rfl⟩
        have HS0 : Hid (stepA j (args.drop 0) (f, b) = S) := Lib.hid hS
        rw [hS] at HQ2
        clear hS
        go_wp2_with fail
        go_loopw [7, 9] (fun ok ix wr2 => ∃ (m : Nat) (f2 : Nat → Bool) (b2 : Bool), m ≤ args.length ∧ ix = .int .i64 (m : Int) ∧ ok = .bool b2 ∧ Hid (stepA j (args.drop m) (f2, b2) = S) ∧ Hid (f2 j = true) ∧ Hid (wr2.ownsRow g 4 1 (.slice (some ⟨g, 0, none⟩) n n) n (boolVals n f2)) ∧ Hid (Below w.heap.size w wr2)) (fun _ i _ => args.length - (intOf i).toNat)
        case atStart => exact ⟨0, f, b, Nat.zero_le _, rfl, rfl, HS0, HF, HOW, HB⟩
        case round =>
          obtain ⟨m, f2, b2, hm, rfl, rfl, HS, HF2, HOW2, HB2⟩ := hrel
          have cj := World.ownsRow.cellAt HOW2.out j (by omega)
          rw [boolVals_get hjn, HF2.out] at cj
          have ca := (HB2.out.cell (p := ⟨(ad.add (j * 9)).block, (ad.add (j * 9)).off + (7 + 1), none⟩) (by show (ad.add (j * 9)).block < _; rw [block_of_add]; exact had)).trans HCA.out
          rcases Nat.lt_or_ge m args.length with hlt | hge
          · obtain ⟨a, ha⟩ : ∃ a, args[m]? = some a := ⟨_, List.getElem?_eq_getElem hlt⟩
            obtain ⟨aa, rfl, haa, ca2⟩ := (HV.out.keep (fun p hp => HB2.out.cell hp)).at_ ha
            have hra := HRA.out a (List.mem_of_getElem? ha)
            have HS1 := HS.out
            rw [drop_at ha, stepA_cons] at HS1
            have hm1 : (m : Int) < (args.length : Int) := by omega
            clear ha
            by_cases h1 : a < 0
            · rw [if_pos (.inl h1)] at HS1
              have HS2 := Lib.hid HS1
              clear HS1
              go_wp2_with fail
              go_roundw
              case rel => exact ⟨m + 1, f2, false, by omega, by go_num, rfl, HS2, HF2, HOW2, HB2⟩
              case measure => simp [intOf]; omega
            · by_cases h2 : (j : Int) ≤ a
              · rw [if_pos (.inr h2)] at HS1
                have HS2 := Lib.hid HS1
                have q1 : decide (a < 0) = false := decide_eq_false h1
                have q2 : decide ((j : Int) ≤ a) = true := decide_eq_true h2
                clear HS1
                go_wp2_with fail
                go_roundw
                case rel => exact ⟨m + 1, f2, false, by omega, by go_num, rfl, HS2, HF2, HOW2, HB2⟩
                case measure => simp [intOf]; omega
              · rw [if_neg (by rintro (h | h) <;> omega)] at HS1
                obtain ⟨x, rfl⟩ : ∃ x : Nat, a = (x : Int) := ⟨a.toNat, by omega⟩
                rw [Int.toNat_natCast] at HS1
                have HS2 := Lib.hid HS1
                have hx1 : (x : Int) < (n : Int) := by omega
                have cx := World.ownsRow.cellAt HOW2.out x (by omega)
                rw [boolVals_get (by omega)] at cx
                have fx := World.ownsRow.frozenAt HOW2.out x
                have hst := (World.ownsRow.stored HOW2.out x (.bool true)).1
                rw [boolVals_set (by omega)] at hst
                have HO3 := Lib.hid hst
                have HB3 := Lib.hid (HB2.out.setCell (p := ⟨g, x, none⟩) (by show w.heap.size ≤ g; omega) (.bool true))
                have hxj : ((x : Nat) : Int) < (j : Int) := by omega
                have HF3 := Lib.hid (show upd f2 x j = true by rw [upd_lo (by omega)]; exact HF2.out)
                clear HS1 hst h1 h2
                go_wp2_with fail
                go_roundw
                case rel => exact ⟨m + 1, _, b2, by omega, by go_num, rfl, HS2, HF3, HO3, HB3⟩
                case measure => simp [intOf]; omega
          · have HSS := Lib.hid (show (f2, b2) = S by have := HS.out; rw [List.drop_eq_nil_of_le (by omega)] at this; exact this)
            have HQ3 := Lib.hid (show belowF (tms L) j (f2, b2) = T by rw [HSS.out]; exact HQ2.out)
            have q0 : (args.length : Int) ≤ (m : Int) := by omega
            clear hge hm
            go_wp2_with fail
            go_roundw
            case rel =>
              have hs := AtI.start j
              exact ⟨j, f2, b2, by omega, hs, rfl, HQ3, HOW2, HB2⟩
            case measure => simp [intOf]
end Go.Proofs.YtjhdlnllhjffkaaGreatDoor
