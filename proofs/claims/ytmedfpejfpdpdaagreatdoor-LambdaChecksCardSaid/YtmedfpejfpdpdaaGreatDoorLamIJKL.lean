/- Lambda: with, where the new one is the greatest. Lambda: the primitives' table: those of one type's order and sums. Lambda: which ints and texts are right; which keys are keys. Lambda: which keys are keys: the program's keyed. -/
import Derived.Test.YtmedfpejfpdpdaaGreatDoorLamFGH
import Derived.Lib.SliceRun
namespace Go.Proofs.YtmedfpejfpdpdaaGreatDoor
open Go.RowKit LamM

def GivesOI (base : Nat) (w : World) (l : List Int) (e : Ending) (w' : World) : Prop := ∃ v, e = .returned v ∧ OI base w' v l ∧ Below base w w'
set_option maxRecDepth 100000 in
set_option maxHeartbeats 2000000 in
theorem clone_any (s : List Int) (vs : Value) (w : World) (hls : s.length ≤ 2000000000000) (hV : IV w w.heap.size vs s) :
    Calls Tryz.prog 15 #[vs] w (GivesOI w.heap.size w s) := by
  obtain ⟨i0, hi0, hz0, hz1, hz2⟩ := info_parts infoI
  obtain ⟨A, c, rfl, h1, h2⟩ := hV.len
  have HV := Lib.hid hV
  have HRV := Lib.hid hV.reads
  have HB1 := Lib.hid ((Below.refl w.heap.size w).alloc (Nat.le_refl _) (.cells #[] 3))
  have hl0 := (List.length_nil : ([] : List Int).length = 0)
  have HOL := Lib.hid (World.ownsRow_lit (size := 1) w (e := 3) #[] 0 (Nat.le_refl _) (by unfold maxLen; omega) rfl)
  have qn : ∀ (w : World) (a : Option Addr) (n c n' c' : Nat), (binOp .eql 43 (.slice a n c) (.slice none n' c')).run Tryz.prog w = .ok (.bool a.isNone) w := fun w a n c n' c' => Lib.run_eql_slice_nil w _ _ a n c n' c' undS
  clear hV
  rcases A with _ | ad
  · have hs0 : s = [] := by
      rcases s with _ | ⟨x, s⟩
      · rfl
      · obtain ⟨ad, h, _⟩ := HV.out.at_ (j := 0) rfl
        cases h
    subst hs0
    go_enter Tryz.func15, Tryz.ntmps15
    go_wp2_with fail
    go_ret
    exact ⟨_, rfl, World.ownsRow_nil _ _ _ _, Below.refl _ _⟩
  · go_enter Tryz.func15, Tryz.ntmps15
    go_wp2_with (at_builtin; refine wpList_append_any _ rfl _ _ 43 rfl w.heap.size 3 i0 (.int .i64 0) 1 8 undS hi0 hz0 hz1 hz2 rfl (by decide) _ _ _ rfl HOL.out w.heap.size _ _ _ _ rfl (HRV.out.alloc (Nat.le_refl _) _) (intVals_one _) (by unfold maxLen; omega) (by omega) (by simp) ?_)
    intro v2 w2 hown2 hgrow2 _
    have HO2 := Lib.hid (show OI w.heap.size w2 v2 s from hown2)
    have HB2 := Lib.hid (HB1.out.grown hgrow2 (by simp) (fun j hj => own_ge j hj))
    clear hown2 hgrow2
    go_wp2_with fail
    go_ret
    exact ⟨_, rfl, HO2.out, HB2.out⟩

/-- append, the second slice of another type. -/
theorem run_append_types {P : Program} (w : World) (t t' ty e e' : TypeId) (ht : P.underlying t = some (.slice e)) (ht' : P.underlying t' = some (.slice e')) (a : Option Addr) (n c : Nat) (x : Value) :
    (Builtin.append_ #[t, t'] ty #[.slice a n c, x]).run P w = (Builtin.append_ #[t, t] ty #[.slice a n c, x]).run P w := by
  have u1 : ∀ w, Sem.run P (underlying t) w = .ok (TypeDesc.slice e) w := run_underlying ht
  have u2 : ∀ w, Sem.run P (underlying t') w = .ok (TypeDesc.slice e') w := run_underlying ht'
  simp [Builtin.append_, u1, u2]
theorem ownsRow_slice {w : World} {base : Nat} {e : TypeId} {size n : Nat} {v : Value} {xs : List Value} (h : w.ownsRow base e size v n xs) : ∃ a c, v = .slice a n c := by
  rcases h.2 with ⟨rfl, h0⟩ | ⟨g, cap, cur, rfl, _⟩
  · exact ⟨none, 0, by rw [h0]⟩
  · exact ⟨_, _, rfl⟩
theorem wpList_append_two {P : Program} (w : World) {ops : Array Oper} {rest : List Oper} {o : Oper} {a : Act} {Q : Exit → Act → World → Prop} (hgd : o.guard = none) (s x : Operand) (t t' e' : TypeId)
    (ho : o.op = .call { callee := .builtin .append, args := #[s, x], argTypes := #[t, t'] }) (ht' : P.underlying t' = some (.slice e'))
    (base : Nat) (e : TypeId) (i : TypeInfo) (z : Value) (size bytes : Nat) (ht : P.underlying t = some (.slice e)) (hi : P.info? e = some i) (hz : i.zero = some z)
    (hsize : i.size = size) (hby : i.bytes = bytes) (hzs : z.cells.size = size) (hsz : 0 < size)
    (v : Value) (n : Nat) (xs : List Value) (hs : a.eval s = v) (hown : w.ownsRow base e size v n xs)
    (B : Nat) (A : Option Addr) (m c : Nat) (news : List Value) (hx : a.eval x = .slice A m c) (hr : Reads w B size A m news) (h1 : ∀ u ∈ news, u.oneCell' = true)
    (h63 : n + m ≤ maxLen) (hbytes : (n + m) * bytes ≤ 140737488355328) (hbase : base ≤ w.heap.size)
    (h : ∀ v' w', w'.ownsRow base e size v' (n + m) (xs ++ news) → w.grownBy w' v.ownBlock → (v'.ownBlock = v.ownBlock ∨ v'.ownBlock = some w.heap.size) → wpList P ops Q rest (a.put o.dst v') w') : wpList P ops Q (o :: rest) a w := by
  refine wpList_plain hgd fun _ hK => ?_
  obtain ⟨v', w', hrun, h2, h3, h4⟩ := run_append_any (P := P) w base t o.type e i z size bytes ht hi hz hsize hby hzs hsz v n xs hown B A m c news hr h1 h63 hbytes hbase
  obtain ⟨va, vc, rfl⟩ := ownsRow_slice hown
  rw [← run_append_types w t t' o.type e e' ht ht' va n vc] at hrun
  unfold Oper.wp execOp
  simp only [ho, resolve, invoke, builtin, Sem.run_bind, Sem.run_pure, Result.andThen_ok, List.map_toArray, List.map_cons, List.map_nil, hs, hx, hrun]
  exact hK _ _ (h v' w' h2 h3 h4)

theorem own_cap {a : Option Addr} {n c c' j : Nat} (h : (Value.slice a n c).ownBlock = some j) : (Value.slice a n c').ownBlock = some j := by
  rcases a with _ | ⟨b, o, sp⟩
  · simp [Value.ownBlock] at h
  · simpa [Value.ownBlock] using h
set_option maxRecDepth 100000 in
set_option maxHeartbeats 2000000 in
theorem insert_end (s : List Int) (vs vx : Value) (x : Int) (base B : Nat) (w : World) (hls : s.length ≤ 2000000000000) (hO : OI base w vs s) (hbase : base ≤ w.heap.size) (hX : IV w B vx [x]) :
    Calls Tryz.prog 26 #[vs, .int .i64 (s.length : Int), vx] w (GivesOI base w (s ++ [x])) := by
  obtain ⟨i0, hi0, hz0, hz1, hz2⟩ := info_parts infoI
  obtain ⟨a, c, rfl⟩ := ownsRow_slice hO
  obtain ⟨xa, xc, rfl, hx1, hx2⟩ := hX.len
  have HO := Lib.hid hO
  have HRX := Lib.hid hX.reads
  have hll := (List.length_cons : ([x] : List Int).length = 0 + 1)
  have r0 : (s.length : Int) ≤ (s.length : Int) := Int.le_refl _
  have qe := b_true (rfl : (s.length : Int) = (s.length : Int))
  clear hO hX
  go_enter Tryz.func26, Tryz.ntmps26
  go_wp2_with (at_builtin; refine wpList_append_two _ rfl _ _ 43 25 3 rfl undI base 3 i0 (.int .i64 0) 1 8 undS hi0 hz0 hz1 hz2 rfl (by decide) _ _ _ rfl HO.out B _ _ _ _ rfl HRX.out (intVals_one _) (by have := (List.length_cons : ([x] : List Int).length = 0 + 1); unfold maxLen; omega) (by have := (List.length_cons : ([x] : List Int).length = 0 + 1); omega) hbase ?_)
  all_goals
    intro v2 w2 hown2 hgrow2 _
    have HO2 := Lib.hid (OI.one hown2)
    have HB2 := Lib.hid ((Below.refl base w).grown hgrow2 hbase (fun j hj => (World.ownsRow.lt HO.out j (own_cap hj)).1))
    clear hown2 hgrow2
    go_wp2_with fail
    go_ret
    exact ⟨_, rfl, HO2.out, HB2.out⟩
theorem posn_end {s : List Int} {v : Int} (h : ∀ x ∈ s, x < v) : posn s v = s.length :=
  posn_eq (Nat.le_refl _) (fun k x _ hx => h x (List.mem_of_getElem? hx)) (fun x hx => by rw [List.getElem?_eq_none (Nat.le_refl _)] at hx; cases hx)
theorem no_end {s : List Int} {v : Int} (h : ∀ x ∈ s, x < v) : s.contains v = false :=
  contains_no fun k _ hx => by have := h v (List.mem_of_getElem? hx); omega
set_option maxRecDepth 100000 in
set_option maxHeartbeats 2000000 in
theorem lwith_any (s : List Int) (vs : Value) (v : Int) (w : World) (hs : SS s) (hls : s.length ≤ 2000000000000) (hV : IV w w.heap.size vs s) (hlt : ∀ x ∈ s, x < v) :
    Calls Tryz.prog 11 #[vs, .int .i64 v] w (GivesI w (s ++ [v])) := by
  have HBS := Lib.hid (bs_any s vs v w.heap.size w hs hls hV)
  unfold BsPost at HBS
  rw [posn_end hlt, no_end hlt] at HBS
  have HCL := Lib.hid (clone_any s vs w hls hV)
  have HIN := Lib.hid (fun v1 w1 (h : OI w.heap.size w1 v1 s) (hb : w.heap.size ≤ w1.heap.size) => insert_end s v1 (.slice (some ⟨w1.heap.size, 0, none⟩) 1 1) v w.heap.size (w1.heap.size + 1) (w1.alloc (.cells #[.int .i64 v] 3)) hls (World.ownsRow.alloc h _) (by simp; omega) (one_IV w1 v))
  clear hV hs hlt
  go_enter Tryz.func11, Tryz.ntmps11
  go_wp2_with (go_at_call 25; ((with_reducible refine (HBS.out).mono ?_); rintro e w' ⟨rfl, rfl⟩))
  go_at_call 15
  (with_reducible refine (HCL.out).mono ?_)
  rintro e w1 ⟨v1, rfl, ho1, hb1⟩
  have HI1 := Lib.hid (HIN.out v1 w1 ho1 hb1.size)
  have HB1 := Lib.hid (hb1.alloc hb1.size (.cells #[.int .i64 v] 3))
  clear ho1 hb1
  go_wp2_with fail
  go_at_call 26
  (with_reducible refine (HI1.out).mono ?_)
  rintro e w2 ⟨v2, rfl, ho2, hb2⟩
  have HO2 := Lib.hid ho2.iv
  have HB2 := Lib.hid (HB1.out.trans hb2)
  clear ho2 hb2
  go_wp2_with fail
  go_ret
  exact ⟨_, rfl, HO2.out, HB2.out⟩
end Go.Proofs.YtmedfpejfpdpdaaGreatDoor

namespace Go.Proofs.YtmedfpejfpdpdaaGreatDoor
open Go.RowKit LamM

/-- A primitive's five cells. -/
def prC (nm : List UInt8) (con args : Int) (ty : ByteArray) (rv : Value) : List Value := [.string ⟨nm.toArray⟩, .int .i64 con, .int .i64 args, .string ty, rv]
def recCells (con : Int) (T1 T2 T3 : ByteArray) (rv : Value) : List Value :=
  prC [43] con 2 T1 rv ++ (prC [45] con 2 T1 rv ++ (prC [42] con 2 T1 rv ++ (prC [126] con 1 T2 rv ++ (prC [97, 98, 115] con 1 T2 rv ++ (prC [60] con 2 T3 (.slice none 0 0) ++ (prC [60, 61] con 2 T3 (.slice none 0 0) ++ (prC [62] con 2 T3 (.slice none 0 0) ++ prC [62, 61] con 2 T3 (.slice none 0 0))))))))
set_option maxRecDepth 100000 in
set_option maxHeartbeats 4000000 in
theorem reckons_any (con : Int) (T : ByteArray) (ra : Option Addr) (rn rc : Nat) (w : World) (hT : T.size ≤ 100) :
    Calls Tryz.prog 24 #[.int .i64 con, .string T, .slice ra rn rc] w fun e w' => ∃ T1 T2 T3, e = .returned (.slice (some ⟨w.heap.size, 0, none⟩) 9 9) ∧ w' = w.alloc (.cells (recCells con T1 T2 T3 (.slice ra rn rc)).toArray 45) := by
  go_enter Tryz.func24, Tryz.ntmps24
  go_wp2_with fail
  go_ret
  exact ⟨_, _, _, rfl, rfl⟩
end Go.Proofs.YtmedfpejfpdpdaaGreatDoor

namespace Go.Proofs.YtmedfpejfpdpdaaGreatDoor
open Go.RowKit LamM

def rightI (x : Int) : Bool := decide (-4611686018427387904 ≤ x ∧ x ≤ 4611686018427387903)
theorem rightI_and (x : Int) : rightI x = (decide (-4611686018427387904 ≤ x) && decide (x ≤ 4611686018427387903)) := by unfold rightI; simp [Bool.decide_and]
set_option maxRecDepth 100000 in
theorem fright_any (x : Int) (w : World) : Calls Tryz.prog 30 #[.int .i64 x] w fun e w' => e = .returned (.bool (rightI x)) ∧ w = w' := by
  obtain ⟨r, hr⟩ : ∃ r, rightI x = r := ⟨_, rfl⟩
  rw [hr]
  rw [rightI_and] at hr
  by_cases h1 : -4611686018427387904 ≤ x
  · by_cases h2 : x ≤ 4611686018427387903
    · have q1 := decide_eq_true h1
      have q2 := decide_eq_true h2
      rw [q1, q2] at hr
      obtain rfl : r = true := hr.symm
      clear hr
      go_enter Tryz.func30, Tryz.ntmps30
      go_wp2
      go_ret
      exact ⟨rfl, rfl⟩
    · have q1 := decide_eq_true h1
      have q2 := decide_eq_false h2
      rw [q1, q2] at hr
      obtain rfl : r = false := hr.symm
      clear hr
      go_enter Tryz.func30, Tryz.ntmps30
      go_wp2
      go_ret
      exact ⟨rfl, rfl⟩
  · have q1 := decide_eq_false h1
    rw [q1] at hr
    obtain rfl : r = false := hr.symm
    clear hr
    go_enter Tryz.func30, Tryz.ntmps30
    go_wp2
    go_ret
    exact ⟨rfl, rfl⟩
set_option maxRecDepth 100000 in
theorem rright_any (x : Int) (w : World) : Calls Tryz.prog 36 #[.int .i64 x] w fun e w' => e = .returned (.bool (rightI x)) ∧ w = w' := by
  obtain ⟨r, hr⟩ : ∃ r, rightI x = r := ⟨_, rfl⟩
  rw [hr]
  rw [rightI_and] at hr
  by_cases h1 : -4611686018427387904 ≤ x
  · by_cases h2 : x ≤ 4611686018427387903
    · have q1 := decide_eq_true h1
      have q2 := decide_eq_true h2
      rw [q1, q2] at hr
      obtain rfl : r = true := hr.symm
      clear hr
      go_enter Tryz.func36, Tryz.ntmps36
      go_wp2
      go_ret
      exact ⟨rfl, rfl⟩
    · have q1 := decide_eq_true h1
      have q2 := decide_eq_false h2
      rw [q1, q2] at hr
      obtain rfl : r = false := hr.symm
      clear hr
      go_enter Tryz.func36, Tryz.ntmps36
      go_wp2
      go_ret
      exact ⟨rfl, rfl⟩
  · have q1 := decide_eq_false h1
    rw [q1] at hr
    obtain rfl : r = false := hr.symm
    clear hr
    go_enter Tryz.func36, Tryz.ntmps36
    go_wp2
    go_ret
    exact ⟨rfl, rfl⟩
theorem sright_any (t : List UInt8) (w : World) : Calls Tryz.prog 31 #[.string ⟨t.toArray⟩] w fun e w' => e = .returned (.bool (decide (t.length ≤ 65536))) ∧ w = w' := by
  have hs := size_mk t
  obtain ⟨r, hr⟩ : ∃ r, decide (t.length ≤ 65536) = r := ⟨_, rfl⟩
  have hr2 : decide ((t.length : Int) ≤ 65536) = r := by rw [← hr]; congr 1; exact propext ⟨fun h => by omega, fun h => by omega⟩
  rw [hr]
  go_enter Tryz.func31, Tryz.ntmps31
  go_wp2
  go_ret
  exact ⟨rfl, rfl⟩
theorem tright_any (t : List UInt8) (w : World) : Calls Tryz.prog 37 #[.string ⟨t.toArray⟩] w fun e w' => e = .returned (.bool (decide (t.length ≤ 65536))) ∧ w = w' := by
  have hs := size_mk t
  obtain ⟨r, hr⟩ : ∃ r, decide (t.length ≤ 65536) = r := ⟨_, rfl⟩
  have hr2 : decide ((t.length : Int) ≤ 65536) = r := by rw [← hr]; congr 1; exact propext ⟨fun h => by omega, fun h => by omega⟩
  rw [hr]
  go_enter Tryz.func37, Tryz.ntmps37
  go_wp2
  go_ret
  exact ⟨rfl, rfl⟩
end Go.Proofs.YtmedfpejfpdpdaaGreatDoor

namespace Go.Proofs.YtmedfpejfpdpdaaGreatDoor
open Go.RowKit LamM

def kyAgg (y : Ky) : Value := .agg #[.int .i64 y.k, .int .i64 y.i, .string ⟨y.t.toArray⟩]
def KBox (y : Ky) : Obj := .cells #[.int .i64 y.k, .int .i64 y.i, .string ⟨y.t.toArray⟩] 73
set_option maxRecDepth 100000 in
set_option maxHeartbeats 2000000 in
theorem keyed_any (y : Ky) (w : World) : Calls Tryz.prog 35 #[kyAgg y] w fun e w' => e = .returned (.bool (keyOk y)) ∧ Below w.heap.size w w' := by
  have HB := Lib.hid ((Below.refl w.heap.size w).alloc (Nat.le_refl _) (KBox y))
  have HBL := Blk.new w 73 #[.int .i64 y.k, .int .i64 y.i, .string ⟨y.t.toArray⟩]
  have c0 := HBL.cell 0
  have c2 := HBL.cell 2
  have HS := Lib.hid (fun w => sright_any y.t w)
  obtain ⟨r, hr⟩ : ∃ r, keyOk y = r := ⟨_, rfl⟩
  rw [hr]
  unfold keyOk at hr
  unfold KBox at HB
  unfold kyAgg
  clear HBL
  by_cases k1 : y.k = 1
  · have q1 := b_true k1
    rw [show (y.k == 1) = true from q1, Bool.true_or, Bool.true_or] at hr
    obtain rfl : r = true := hr.symm
    clear hr k1
    go_enter Tryz.func35, Tryz.ntmps35
    go_wp2_with (go_at_call 31; ((with_reducible refine (HS.out _).mono ?_); rintro e w' ⟨rfl, rfl⟩))
    go_ret
    exact ⟨rfl, HB.out⟩
  · have q1 := b_false k1
    rw [show (y.k == 1) = false from q1, Bool.false_or] at hr
    clear k1
    by_cases k2 : y.k = 2
    · have q2 := b_true k2
      rw [show (y.k == 2) = true from q2, Bool.true_or] at hr
      obtain rfl : r = true := hr.symm
      clear hr k2
      go_enter Tryz.func35, Tryz.ntmps35
      go_wp2_with (go_at_call 31; ((with_reducible refine (HS.out _).mono ?_); rintro e w' ⟨rfl, rfl⟩))
      go_ret
      exact ⟨rfl, HB.out⟩
    · have q2 := b_false k2
      rw [show (y.k == 2) = false from q2, Bool.false_or] at hr
      clear k2
      by_cases k3 : y.k = 3
      · have q3 := b_true k3
        rw [show (y.k == 3) = true from q3, Bool.true_and] at hr
        rw [hr] at HS
        clear hr k3
        go_enter Tryz.func35, Tryz.ntmps35
        go_wp2_with (go_at_call 31; ((with_reducible refine (HS.out _).mono ?_); rintro e w' ⟨rfl, rfl⟩))
        go_ret
        exact ⟨rfl, HB.out⟩
      · have q3 := b_false k3
        rw [show (y.k == 3) = false from q3, Bool.false_and] at hr
        obtain rfl : r = false := hr.symm
        clear hr k3
        go_enter Tryz.func35, Tryz.ntmps35
        go_wp2_with (go_at_call 31; ((with_reducible refine (HS.out _).mono ?_); rintro e w' ⟨rfl, rfl⟩))
        go_ret
        exact ⟨rfl, HB.out⟩
set_option maxRecDepth 100000 in
set_option maxHeartbeats 2000000 in
theorem form1_any (y : Ky) (w : World) : Calls Tryz.prog 34 #[kyAgg y] w fun e w' => e = .returned (.bool (!keyOk y)) ∧ Below w.heap.size w w' := by
  have HB := Lib.hid ((Below.refl w.heap.size w).alloc (Nat.le_refl _) (KBox y))
  have HBL := Blk.new w 73 #[.int .i64 y.k, .int .i64 y.i, .string ⟨y.t.toArray⟩]
  have c0 := HBL.cell 0
  have c1 := HBL.cell 1
  have c2 := HBL.cell 2
  have HK := Lib.hid (fun w => keyed_any y w)
  obtain ⟨r, hr⟩ : ∃ r, keyOk y = r := ⟨_, rfl⟩
  rw [hr] at HK ⊢
  unfold KBox at HB
  unfold kyAgg at HK ⊢
  clear HBL hr
  go_enter Tryz.func34, Tryz.ntmps34
  go_wp2_with (go_at_call 35; ((with_reducible refine (HK.out _).mono ?_); rintro e w' ⟨rfl, hb⟩; have HB2 := Lib.hid (HB.out.trans (hb.mono HB.out.size)); clear hb))
  go_ret
  exact ⟨rfl, HB2.out⟩
end Go.Proofs.YtmedfpejfpdpdaaGreatDoor
