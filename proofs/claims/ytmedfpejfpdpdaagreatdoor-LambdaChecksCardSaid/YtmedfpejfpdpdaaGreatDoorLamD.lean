/- Lambda: the reference's put. -/
import Derived.Test.YtmedfpejfpdpdaaGreatDoorLamABC
namespace Go.Proofs.YtmedfpejfpdpdaaGreatDoor
open Go.RowKit LamM

theorem infoI : (Tryz.prog.info? 3).map (fun i => (i.zero, i.size, i.bytes)) = some (some (.int .i64 0), 1, 8) := by kernel_rfl
theorem undI : Tryz.prog.underlying 25 = some (.slice 3) := by kernel_rfl
theorem one_cell (w : World) (x : Value) (t : TypeId) : ∀ j u, [x][j]? = some u → (w.alloc (.cells #[x] t)).cell? ((⟨w.heap.size, 0, none⟩ : Addr).add j) = some u := by
  intro j u hj
  match j, hj with
  | 0, hj =>
    have : u = x := by simpa using hj.symm
    subst this
    exact (Blk.new w t #[u]).cell 0
  | j + 1, hj => simp at hj
theorem one_one (x : Int) : ∀ u ∈ [Value.int .i64 x], u.oneCell' = true := by
  intro u hu; rw [List.mem_singleton] at hu; subst hu; rfl
/-- A row of ints of the call's own. -/
def OI (base : Nat) (w : World) (v : Value) (l : List Int) : Prop := w.ownsRow base 3 1 v l.length (intVals l)
theorem intVals_app (a b : List Int) : intVals (a ++ b) = intVals a ++ intVals b := by unfold intVals; simp
theorem intVals_len (a : List Int) : (intVals a).length = a.length := by unfold intVals; simp
theorem OI.app {base : Nat} {w : World} {v : Value} {a b : List Int} (h : w.ownsRow base 3 1 v (a.length + b.length) (intVals a ++ intVals b)) : OI base w v (a ++ b) := by
  unfold OI
  rw [List.length_append, intVals_app]; exact h
theorem OI.one {base : Nat} {w : World} {v : Value} {a : List Int} {x : Int} (h : w.ownsRow base 3 1 v (a.length + 1) (intVals a ++ [.int .i64 x])) : OI base w v (a ++ [x]) := OI.app (b := [x]) h
theorem OI.iv {base : Nat} {w : World} {v : Value} {l : List Int} (h : OI base w v l) : IV w w.heap.size v l := by
  rcases h.2 with ⟨rfl, h0⟩ | ⟨g, cap, cur, rfl, h1, h2, h3, h4, h5⟩
  · obtain rfl : l = [] := List.eq_nil_of_length_eq_zero h0
    exact nil_IV _ _
  · exact ⟨_, _, rfl, h3, h4, Reads.of_own (c := cap) h⟩

/-- Where a set is parted by a number. -/
theorem ins_split {x : Int} : ∀ {p q : List Int}, (∀ y ∈ p, y < x) → (∀ y ∈ q, x < y) → ins x (p ++ q) = p ++ x :: q
  | [], [], _, _ => rfl
  | [], y :: q, _, h => by
    show ins x (y :: q) = _
    unfold ins; rw [if_pos (h y List.mem_cons_self)]; rfl
  | a :: p, q, hp, hq => by
    have h1 := hp a List.mem_cons_self
    show ins x (a :: (p ++ q)) = _
    unfold ins
    rw [if_neg (by omega), if_neg (by omega), ins_split (fun y hy => hp y (List.mem_cons_of_mem _ hy)) hq]
    rfl
theorem drop_take_more {α : Type} {l : List α} {j k : Nat} {a : α} (hj : j ≤ k) (h : l[k]? = some a) : (l.drop j).take (k - j) ++ [a] = (l.drop j).take (k + 1 - j) := by
  rw [show k + 1 - j = (k - j) + 1 by omega, List.take_add_one, List.getElem?_drop, show j + (k - j) = k by omega, h]; rfl
theorem take_more {α : Type} {l : List α} {k : Nat} {a : α} (h : l[k]? = some a) : l.take k ++ [a] = l.take (k + 1) := by
  rw [List.take_add_one, h]; rfl
/-- Where put stands, k places on: what is out, is it done. -/
def PutSt (l : List Int) (x : Int) (k : Nat) (out : List Int) (dn : Bool) : Prop :=
  (dn = false ∧ out = l.take k ∧ ∀ y ∈ l.take k, y < x) ∨ (dn = true ∧ ∃ j, j ≤ k ∧ out = l.take j ++ x :: (l.drop j).take (k - j) ∧ (∀ y ∈ l.take j, y < x) ∧ ∀ y ∈ l.drop j, x < y)
theorem ss_drop {l : List Int} (hs : SS l) {k : Nat} {a : Int} (h : l[k]? = some a) : ∀ y ∈ l.drop k, a ≤ y := by
  have := List.Pairwise.sublist (List.drop_sublist k l) hs
  rw [drop_at h] at this ⊢
  intro y hy
  rcases List.mem_cons.1 hy with rfl | hy
  · exact Int.le_refl _
  · have := (ss_cons.1 this).1 y hy; omega
theorem PutSt.start (l : List Int) (x : Int) : PutSt l x 0 [] false := .inl ⟨rfl, rfl, fun y hy => by cases hy⟩
theorem PutSt.low {l : List Int} {x a : Int} {k : Nat} {out : List Int} (h : PutSt l x k out false) (ha : l[k]? = some a) (hx : a < x) : PutSt l x (k + 1) (out ++ [a]) false := by
  rcases h with ⟨_, rfl, h2⟩ | ⟨h, _⟩
  · refine .inl ⟨rfl, take_more ha, fun y hy => ?_⟩
    rw [← take_more ha] at hy
    rcases List.mem_append.1 hy with hy | hy
    · exact h2 y hy
    · rw [List.mem_singleton] at hy; omega
  · cases h
theorem PutSt.turn {l : List Int} {x a : Int} {k : Nat} {out : List Int} (hs : SS l) (h : PutSt l x k out false) (ha : l[k]? = some a) (hx : x < a) : PutSt l x (k + 1) (out ++ [x] ++ [a]) true := by
  rcases h with ⟨_, rfl, h2⟩ | ⟨h, _⟩
  · refine .inr ⟨rfl, k, Nat.le_succ _, ?_, h2, fun y hy => by have := ss_drop hs ha y hy; omega⟩
    rw [← drop_take_more (Nat.le_refl k) ha]
    simp
  · cases h
theorem PutSt.high {l : List Int} {x a : Int} {k : Nat} {out : List Int} (h : PutSt l x k out true) (ha : l[k]? = some a) : PutSt l x (k + 1) (out ++ [a]) true := by
  rcases h with ⟨h, _⟩ | ⟨_, j, hj, rfl, h1, h2⟩
  · cases h
  · refine .inr ⟨rfl, j, by omega, ?_, h1, h2⟩
    rw [← drop_take_more hj ha]
    simp
theorem PutSt.endF {l : List Int} {x : Int} {out : List Int} (h : PutSt l x l.length out false) : out ++ [x] = ins x l := by
  rcases h with ⟨_, rfl, h2⟩ | ⟨h, _⟩
  · rw [List.take_length] at *
    have := ins_split (q := []) h2 (fun y hy => by cases hy)
    rw [List.append_nil] at this
    exact this.symm
  · cases h
theorem PutSt.endT {l : List Int} {x : Int} {out : List Int} (h : PutSt l x l.length out true) : out = ins x l := by
  rcases h with ⟨h, _⟩ | ⟨_, j, hj, rfl, h1, h2⟩
  · cases h
  · rw [show (l.drop j).take (l.length - j) = l.drop j from List.take_of_length_le (by rw [List.length_drop]; omega)]
    have := ins_split h1 h2
    rw [List.take_append_drop] at this
    exact this.symm
theorem PutSt.len {l : List Int} {x : Int} {k : Nat} {out : List Int} {dn : Bool} (h : PutSt l x k out dn) : out.length ≤ l.length + 1 := by
  rcases h with ⟨_, rfl, _⟩ | ⟨_, j, hj, rfl, _, _⟩
  · rw [List.length_take]; omega
  · simp; omega

set_option maxRecDepth 100000 in
set_option maxHeartbeats 4000000 in
theorem rput_any (l : List Int) (v : Value) (x : Int) (w : World) (hs : SS l) (hl : l.length ≤ 2000000000000) (hV : IV w w.heap.size v l) :
    Calls Tryz.prog 17 #[v, .int .i64 x] w (GivesI w (ins x l)) := by
  obtain ⟨i0, hi0, hz0, hz1, hz2⟩ := info_parts infoI
  have HIN := Lib.hid (fun w' (h : IV w' w.heap.size v l) => rin_any l v x w.heap.size w' h)
  obtain ⟨A, c, rfl, h1, h2⟩ := hV.len
  have HV := Lib.hid hV
  cases hc : l.contains x
  · have hne : ∀ a k, l[k]? = some a → a ≠ x := fun a k h e => by
      subst e; rw [contains_at h] at hc; cases hc
    have HNE := Lib.hid hne
    rw [hc] at HIN
    obtain ⟨R, hR⟩ : ∃ R, ins x l = R := ⟨_, rfl⟩
    have HEF := Lib.hid (fun out (h : PutSt l x l.length out false) => (show out ++ [x] = R by rw [← hR]; exact h.endF))
    have HET := Lib.hid (fun out (h : PutSt l x l.length out true) => (show out = R by rw [← hR]; exact h.endT))
    rw [hR]
    have HS := Lib.hid hs
    have HP0 := Lib.hid (PutSt.start l x)
    clear hV hs hc hne hR
    go_enter Tryz.func17, Tryz.ntmps17
    go_wp2_with (go_at_call 19; ((with_reducible refine (HIN.out _ HV.out).mono ?_); rintro e w' ⟨rfl, rfl⟩))
    go_loopw [5, 6, 7] (fun o dv i wr => ∃ (k : Nat) (out : List Int) (dn : Bool), k ≤ l.length ∧ i = .int .i64 (k : Int) ∧ dv = .bool dn ∧ Hid (PutSt l x k out dn) ∧ Hid (OI w.heap.size wr o out) ∧ Hid (Below w.heap.size w wr)) (fun _ _ i _ => l.length - (intOf i).toNat)
    case atStart => exact ⟨0, [], false, Nat.zero_le _, rfl, rfl, HP0, Lib.hid (World.ownsRow_nil _ _ _ _), Lib.hid (Below.refl _ _)⟩
    case round =>
      obtain ⟨k, out, dn, hk, rfl, rfl, HP, HO, HB⟩ := hrel
      have hsz := HB.out.size
      have hol := HP.out.len
      rcases Nat.lt_or_ge k l.length with hlt | hge
      · obtain ⟨a, ha⟩ : ∃ a, l[k]? = some a := ⟨_, List.getElem?_eq_getElem hlt⟩
        obtain ⟨aa, rfl, haa, ca⟩ := (HV.out.keep (fun p hp => HB.out.cell hp)).at_ ha
        have hne := HNE.out a k ha
        have hm1 : (k : Int) < (l.length : Int) := by omega
        cases dn
        · by_cases hx : x < a
          · have HP2 := Lib.hid (HP.out.turn HS.out ha hx)
            have q := decide_eq_true hx
            clear ha hne
            go_wp2_with (at_builtin; refine wpList_append_own _ rfl _ _ 25 rfl w.heap.size 3 i0 (.int .i64 0) 1 8 undI hi0 hz0 hz1 hz2 rfl (by decide) _ _ _ rfl (World.ownsRow.alloc HO.out _) ⟨wr.heap.size, 0, none⟩ 1 1 [_] rfl rfl (one_cell wr _ _) (one_one _) (by unfold maxLen; omega) (by omega) (by simp; omega) ?_)
            intro v1 w2 hown2 hgrow2 _
            have HO2 := Lib.hid (OI.one hown2)
            have HB2 := Lib.hid ((HB.out.alloc hsz _).grown hgrow2 (by simp; omega) (fun j hj => (World.ownsRow.lt HO.out j hj).1))
            have hsz2 := HB2.out.size
            have hol2 : (out ++ [x]).length = out.length + 1 := by simp
            have ca2 : w2.cell? (aa.add k) = some (.int .i64 a) := by
              rw [HB2.out.cell (by rw [block_of_add]; exact haa), ← HB.out.cell (by rw [block_of_add]; exact haa)]; exact ca
            clear hown2 hgrow2 ca
            go_wp2_with (at_builtin; refine wpList_append_own _ rfl _ _ 25 rfl w.heap.size 3 i0 (.int .i64 0) 1 8 undI hi0 hz0 hz1 hz2 rfl (by decide) _ _ _ rfl (World.ownsRow.alloc HO2.out _) ⟨w2.heap.size, 0, none⟩ 1 1 [_] rfl rfl (one_cell w2 _ _) (one_one _) (by unfold maxLen; omega) (by omega) (by simp; omega) ?_)
            intro v3 w4 hown4 hgrow4 _
            have HO4 := Lib.hid (OI.one (a := out ++ [x]) (by rw [hol2]; exact hown4))
            have HB4 := Lib.hid ((HB2.out.alloc hsz2 _).grown hgrow4 (by simp; omega) (fun j hj => (World.ownsRow.lt HO2.out j hj).1))
            clear hown4 hgrow4
            go_wp2_with fail
            go_roundw
            case rel => exact ⟨k + 1, _, true, by omega, by go_num, rfl, HP2, HO4, HB4⟩
            case measure => simp [intOf]; omega
          · have HP2 := Lib.hid (HP.out.low ha (by omega))
            have q := decide_eq_false hx
            clear ha hne
            go_wp2_with (at_builtin; refine wpList_append_own _ rfl _ _ 25 rfl w.heap.size 3 i0 (.int .i64 0) 1 8 undI hi0 hz0 hz1 hz2 rfl (by decide) _ _ _ rfl (World.ownsRow.alloc HO.out _) ⟨wr.heap.size, 0, none⟩ 1 1 [_] rfl rfl (one_cell wr _ _) (one_one _) (by unfold maxLen; omega) (by omega) (by simp; omega) ?_)
            intro v1 w2 hown2 hgrow2 _
            have HO2 := Lib.hid (OI.one hown2)
            have HB2 := Lib.hid ((HB.out.alloc hsz _).grown hgrow2 (by simp; omega) (fun j hj => (World.ownsRow.lt HO.out j hj).1))
            clear hown2 hgrow2
            go_wp2_with fail
            go_roundw
            case rel => exact ⟨k + 1, _, false, by omega, by go_num, rfl, HP2, HO2, HB2⟩
            case measure => simp [intOf]; omega
        · have HP2 := Lib.hid (HP.out.high ha)
          clear ha hne
          go_wp2_with (at_builtin; refine wpList_append_own _ rfl _ _ 25 rfl w.heap.size 3 i0 (.int .i64 0) 1 8 undI hi0 hz0 hz1 hz2 rfl (by decide) _ _ _ rfl (World.ownsRow.alloc HO.out _) ⟨wr.heap.size, 0, none⟩ 1 1 [_] rfl rfl (one_cell wr _ _) (one_one _) (by unfold maxLen; omega) (by omega) (by simp; omega) ?_)
          intro v1 w2 hown2 hgrow2 _
          have HO2 := Lib.hid (OI.one hown2)
          have HB2 := Lib.hid ((HB.out.alloc hsz _).grown hgrow2 (by simp; omega) (fun j hj => (World.ownsRow.lt HO.out j hj).1))
          clear hown2 hgrow2
          go_wp2_with fail
          go_roundw
          case rel => exact ⟨k + 1, _, true, by omega, by go_num, rfl, HP2, HO2, HB2⟩
          case measure => simp [intOf]; omega
      · obtain rfl : k = l.length := by omega
        have q : (l.length : Int) ≤ (l.length : Int) := Int.le_refl _
        cases dn
        · have HR := Lib.hid (HEF.out _ HP.out)
          clear hge hk
          go_wp2_with (at_builtin; refine wpList_append_own _ rfl _ _ 25 rfl w.heap.size 3 i0 (.int .i64 0) 1 8 undI hi0 hz0 hz1 hz2 rfl (by decide) _ _ _ rfl (World.ownsRow.alloc HO.out _) ⟨wr.heap.size, 0, none⟩ 1 1 [_] rfl rfl (one_cell wr _ _) (one_one _) (by unfold maxLen; omega) (by omega) (by simp; omega) ?_)
          intro v1 w2 hown2 hgrow2 _
          have HO2 := Lib.hid (OI.one hown2)
          have HB2 := Lib.hid ((HB.out.alloc hsz _).grown hgrow2 (by simp; omega) (fun j hj => (World.ownsRow.lt HO.out j hj).1))
          clear hown2 hgrow2
          go_wp2_with fail
          go_ret
          exact ⟨_, rfl, by rw [← HR.out]; exact HO2.out.iv, HB2.out⟩
        · have HR := Lib.hid (HET.out _ HP.out)
          clear hge hk
          go_wp2_with fail
          go_ret
          exact ⟨_, rfl, by rw [← HR.out]; exact HO.out.iv, HB.out⟩
  · have hm := ins_mem hs (List.contains_iff_mem.1 hc)
    rw [hc] at HIN
    rw [hm]
    clear hV hs hc hm
    go_enter Tryz.func17, Tryz.ntmps17
    go_wp2_with (go_at_call 19; ((with_reducible refine (HIN.out _ HV.out).mono ?_); rintro e w' ⟨rfl, rfl⟩))
    go_ret
    exact ⟨_, rfl, HV.out, Below.refl _ _⟩
end Go.Proofs.YtmedfpejfpdpdaaGreatDoor
