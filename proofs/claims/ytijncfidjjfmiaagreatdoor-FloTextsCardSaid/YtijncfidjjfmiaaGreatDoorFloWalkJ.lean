/- Walks of the library's shortest decimal: its text with an exponent. -/
import Derived.Test.YtijncfidjjfmiaaGreatDoorFloLibA
namespace Go.Proofs.YtijncfidjjfmiaaGreatDoor
open Go.RowKit FloM

/-- An exponent's digits: two at least. -/
def exDig (e : Nat) : List UInt8 :=
  if e < 10 then [UInt8.ofNat 48, UInt8.ofNat (48 + e)] else if e < 100 then [UInt8.ofNat (48 + e / 10), UInt8.ofNat (48 + e % 10)]
  else [UInt8.ofNat (48 + e / 100), UInt8.ofNat (48 + e / 10 % 10), UInt8.ofNat (48 + e % 10)]

/-- The digits c, T with the point behind the first, and an exponent. -/
def eText (c : UInt8) (T : List UInt8) (neg : Bool) (e : Nat) : List UInt8 :=
  [c] ++ (if T = [] then [] else [46] ++ T) ++ [101] ++ [if neg then 45 else 43] ++ exDig e

theorem enc_one (x : Int) (n : Nat) (h : x = (n : Int)) (hn : n < 256) : Value.int .u8 x = encB (UInt8.ofNat n) := by
  subst h
  unfold encB
  rw [UInt8.toNat_ofNat', Nat.mod_eq_of_lt (show n < 2 ^ 8 by omega)]

theorem enc2 {x y : Int} {a b : Nat} (hx : x = (a : Int)) (hy : y = (b : Int)) (ha : a < 256) (hb : b < 256) : [Value.int .u8 x, Value.int .u8 y] = [UInt8.ofNat a, UInt8.ofNat b].map encB := by
  rw [List.map_cons, List.map_cons, List.map_nil, enc_one x a hx ha, enc_one y b hy hb]
theorem enc3 {x y z : Int} {a b c : Nat} (hx : x = (a : Int)) (hy : y = (b : Int)) (hz : z = (c : Int)) (ha : a < 256) (hb : b < 256) (hc : c < 256) : [Value.int .u8 x, Value.int .u8 y, Value.int .u8 z] = [UInt8.ofNat a, UInt8.ofNat b, UInt8.ofNat c].map encB := by
  rw [List.map_cons, List.map_cons, List.map_cons, List.map_nil, enc_one x a hx ha, enc_one y b hy hb, enc_one z c hz hc]

def EPost (B0 : Nat) (w0 : World) (X : List UInt8) (e : Ending) (w' : World) : Prop := ∃ v', e = .returned v' ∧ Buf B0 w0 w' v' X

set_option maxRecDepth 100000 in
set_option maxHeartbeats 1600000 in
theorem efg_two_neg_1 (B0 : Nat) (w0 w : World) (v : Value) (B : Nat) (t : TypeId) (cs : Array Value) (dp : Int) (n : Nat) (c : UInt8) (T : List UInt8) (ex : Nat)
    (hbuf : Buf B0 w0 w v []) (hB : Blk w B t cs) (ht : 5 ≠ t) (hL : T.length = n + 1) (hn : n ≤ 20) (hcs : ∀ (j : Nat) (u : UInt8), T[j]? = some u → cs[1 + j]? = some (encB u)) (hc : cs[0]? = some (encB c)) (hdp : (ex : Int) = -(dp - 1)) (hx0 : 1 ≤ ex) (hr : ex < 10) :
    Calls Tryz.prog 108 #[v, .bool false, .slice (some ⟨B, 0, none⟩) 32 32, .int .i64 dp, .int .i64 ((n + 2 : Nat) : Int), .int .i64 ((n + 1 : Nat) : Int), .int .u8 101, .bool true] w (EPost B0 w0 (eText c T true ex)) := by
  have hX : eText c T true ex = [] ++ [c] ++ [46] ++ T ++ [101] ++ [45] ++ [UInt8.ofNat 48, UInt8.ofNat (48 + ex)] := by
    unfold eText exDig
    rw [if_pos hr]
    rw [if_neg (show ¬ T = [] by rintro rfl; simp at hL)]; simp
  rw [hX]
  have hcell : w.cell? ⟨B, 0, none⟩ = some (.int .u8 (c.toNat : Int)) := (hB.cell 0).trans hc
  have HB0 := Lib.hid hbuf
  have HK0 := Lib.hid hB
  have HD := Lib.hid hdp
  have hdp1 : (ex : Int) ≤ -(dp - 1) := by omega
  have hdp2 : -(dp - 1) ≤ (ex : Int) := by omega
  have HC := Lib.hid hcs
  have HL := Lib.hid hL
  have hn0 : (((n + 2 : Nat) : Int) == 0) = false := by rw [beq_eq_false_iff_ne]; omega
  have hmin : min ((n : Int) + 2) ((n : Int) + 1 + 1) = (n : Int) + 2 := by omega
  clear hL hcs
  clear hbuf hB hc hdp hX
  go_enter Tryz.func108, Tryz.ntmps108
  go_wp2_with (first
    | (at_builtin; refine Buf.step HB0.out HK0.out ht _ [c] ?_ ?_ ?_ ?_ ?_; exact rfl; (simp); exact rfl; exact rfl; intro v1 w1 hb1 hk1; have HB1 := Lib.hid hb1; have HK1 := Lib.hid hk1; clear hb1 hk1)
    | (at_builtin; refine Buf.step HB1.out HK1.out ht _ [46] ?_ ?_ ?_ ?_ ?_; exact rfl; (simp); exact rfl; exact rfl; intro v2 w2 hb2 hk2; have HB2 := Lib.hid hb2; have HK2 := Lib.hid hk2; clear hb2 hk2)
    | (at_builtin; refine Buf.stepOf HB2.out HK2.out ht 1 31 T HC.out ?_ ?_ ?_ ?_; (simp [HL.out]; omega); exact rfl; (rw [HL.out]; exact rfl); intro v3 w3 hb3 hk3; have HB3 := Lib.hid hb3; have HK3 := Lib.hid hk3; clear hb3 hk3))
  refine wp_loop_rounds 1 ?_
  rw [rounds_succ]
  go_wp2_with (first
    | (at_builtin; refine Buf.step HB3.out HK3.out ht _ [101] ?_ ?_ ?_ ?_ ?_; exact rfl; (simp [HL.out]; omega); exact rfl; exact rfl; intro v4 w4 hb4 hk4; have HB4 := Lib.hid hb4; have HK4 := Lib.hid hk4; clear hb4 hk4)
    | (at_builtin; refine Buf.step HB4.out HK4.out ht _ [45] ?_ ?_ ?_ ?_ ?_; exact rfl; (simp [HL.out]; omega); exact rfl; exact rfl; intro v5 w5 hb5 hk5; have HB5 := Lib.hid hb5; have HK5 := Lib.hid hk5; clear hb5 hk5)
    | (at_builtin; refine Buf.step HB5.out HK5.out ht _ [UInt8.ofNat 48, UInt8.ofNat (48 + ex)] ?_ ?_ ?_ ?_ ?_; (have hd := HD.out; exact enc2 (by omega) (by omega) (by omega) (by omega)); (simp [HL.out]; omega); exact rfl; exact rfl; intro v6 w6 hb6 hk6; have HB6 := Lib.hid hb6; have HK6 := Lib.hid hk6; clear hb6 hk6))
  go_ret
  exact ⟨_, rfl, HB6.out⟩

set_option maxRecDepth 100000 in
set_option maxHeartbeats 1600000 in
theorem efg_two_neg_2 (B0 : Nat) (w0 w : World) (v : Value) (B : Nat) (t : TypeId) (cs : Array Value) (dp : Int) (n : Nat) (c : UInt8) (T : List UInt8) (ex : Nat)
    (hbuf : Buf B0 w0 w v []) (hB : Blk w B t cs) (ht : 5 ≠ t) (hL : T.length = n + 1) (hn : n ≤ 20) (hcs : ∀ (j : Nat) (u : UInt8), T[j]? = some u → cs[1 + j]? = some (encB u)) (hc : cs[0]? = some (encB c)) (hdp : (ex : Int) = -(dp - 1)) (_hx0 : 1 ≤ ex) (hr : 10 ≤ ex ∧ ex < 100) :
    Calls Tryz.prog 108 #[v, .bool false, .slice (some ⟨B, 0, none⟩) 32 32, .int .i64 dp, .int .i64 ((n + 2 : Nat) : Int), .int .i64 ((n + 1 : Nat) : Int), .int .u8 101, .bool true] w (EPost B0 w0 (eText c T true ex)) := by
  have hX : eText c T true ex = [] ++ [c] ++ [46] ++ T ++ [101] ++ [45] ++ [UInt8.ofNat (48 + ex / 10), UInt8.ofNat (48 + ex % 10)] := by
    unfold eText exDig
    rw [if_neg (show ¬ ex < 10 by omega), if_pos hr.2]
    rw [if_neg (show ¬ T = [] by rintro rfl; simp at hL)]; simp
  rw [hX]
  have hcell : w.cell? ⟨B, 0, none⟩ = some (.int .u8 (c.toNat : Int)) := (hB.cell 0).trans hc
  have HB0 := Lib.hid hbuf
  have HK0 := Lib.hid hB
  have HD := Lib.hid hdp
  have hdp1 : (ex : Int) ≤ -(dp - 1) := by omega
  have hdp2 : -(dp - 1) ≤ (ex : Int) := by omega
  have e1 : dp - 1 = -(ex : Int) := by omega
  have d10 : (dp - 1).tdiv 10 = -((ex / 10 : Nat) : Int) := by rw [e1, Int.neg_tdiv, Int.tdiv_eq_ediv_of_nonneg (by omega)]; omega
  have m10 : (dp - 1).tmod 10 = -((ex % 10 : Nat) : Int) := by rw [e1, Int.neg_tmod, Int.tmod_eq_emod_of_nonneg (by omega)]; omega
  have d100 : (dp - 1).tdiv 100 = -((ex / 100 : Nat) : Int) := by rw [e1, Int.neg_tdiv, Int.tdiv_eq_ediv_of_nonneg (by omega)]; omega
  clear e1
  have HC := Lib.hid hcs
  have HL := Lib.hid hL
  have hn0 : (((n + 2 : Nat) : Int) == 0) = false := by rw [beq_eq_false_iff_ne]; omega
  have hmin : min ((n : Int) + 2) ((n : Int) + 1 + 1) = (n : Int) + 2 := by omega
  clear hL hcs
  clear hbuf hB hc hdp hX
  go_enter Tryz.func108, Tryz.ntmps108
  go_wp2_with (first
    | (at_builtin; refine Buf.step HB0.out HK0.out ht _ [c] ?_ ?_ ?_ ?_ ?_; exact rfl; (simp); exact rfl; exact rfl; intro v1 w1 hb1 hk1; have HB1 := Lib.hid hb1; have HK1 := Lib.hid hk1; clear hb1 hk1)
    | (at_builtin; refine Buf.step HB1.out HK1.out ht _ [46] ?_ ?_ ?_ ?_ ?_; exact rfl; (simp); exact rfl; exact rfl; intro v2 w2 hb2 hk2; have HB2 := Lib.hid hb2; have HK2 := Lib.hid hk2; clear hb2 hk2)
    | (at_builtin; refine Buf.stepOf HB2.out HK2.out ht 1 31 T HC.out ?_ ?_ ?_ ?_; (simp [HL.out]; omega); exact rfl; (rw [HL.out]; exact rfl); intro v3 w3 hb3 hk3; have HB3 := Lib.hid hb3; have HK3 := Lib.hid hk3; clear hb3 hk3))
  refine wp_loop_rounds 1 ?_
  rw [rounds_succ]
  go_wp2_with (first
    | (at_builtin; refine Buf.step HB3.out HK3.out ht _ [101] ?_ ?_ ?_ ?_ ?_; exact rfl; (simp [HL.out]; omega); exact rfl; exact rfl; intro v4 w4 hb4 hk4; have HB4 := Lib.hid hb4; have HK4 := Lib.hid hk4; clear hb4 hk4)
    | (at_builtin; refine Buf.step HB4.out HK4.out ht _ [45] ?_ ?_ ?_ ?_ ?_; exact rfl; (simp [HL.out]; omega); exact rfl; exact rfl; intro v5 w5 hb5 hk5; have HB5 := Lib.hid hb5; have HK5 := Lib.hid hk5; clear hb5 hk5)
    | (at_builtin; refine Buf.step HB5.out HK5.out ht _ [UInt8.ofNat (48 + ex / 10), UInt8.ofNat (48 + ex % 10)] ?_ ?_ ?_ ?_ ?_; (have hd := HD.out; exact enc2 (by omega) (by omega) (by omega) (by omega)); (simp [HL.out]; omega); exact rfl; exact rfl; intro v6 w6 hb6 hk6; have HB6 := Lib.hid hb6; have HK6 := Lib.hid hk6; clear hb6 hk6))
  go_ret
  exact ⟨_, rfl, HB6.out⟩

set_option maxRecDepth 100000 in
set_option maxHeartbeats 1600000 in
theorem efg_two_neg_3 (B0 : Nat) (w0 w : World) (v : Value) (B : Nat) (t : TypeId) (cs : Array Value) (dp : Int) (n : Nat) (c : UInt8) (T : List UInt8) (ex : Nat)
    (hbuf : Buf B0 w0 w v []) (hB : Blk w B t cs) (ht : 5 ≠ t) (hL : T.length = n + 1) (hn : n ≤ 20) (hcs : ∀ (j : Nat) (u : UInt8), T[j]? = some u → cs[1 + j]? = some (encB u)) (hc : cs[0]? = some (encB c)) (hdp : (ex : Int) = -(dp - 1)) (_hx0 : 1 ≤ ex) (hr : 100 ≤ ex ∧ ex < 1000) :
    Calls Tryz.prog 108 #[v, .bool false, .slice (some ⟨B, 0, none⟩) 32 32, .int .i64 dp, .int .i64 ((n + 2 : Nat) : Int), .int .i64 ((n + 1 : Nat) : Int), .int .u8 101, .bool true] w (EPost B0 w0 (eText c T true ex)) := by
  have hX : eText c T true ex = [] ++ [c] ++ [46] ++ T ++ [101] ++ [45] ++ [UInt8.ofNat (48 + ex / 100), UInt8.ofNat (48 + ex / 10 % 10), UInt8.ofNat (48 + ex % 10)] := by
    unfold eText exDig
    rw [if_neg (show ¬ ex < 10 by omega), if_neg (show ¬ ex < 100 by omega)]
    rw [if_neg (show ¬ T = [] by rintro rfl; simp at hL)]; simp
  rw [hX]
  have hcell : w.cell? ⟨B, 0, none⟩ = some (.int .u8 (c.toNat : Int)) := (hB.cell 0).trans hc
  have HB0 := Lib.hid hbuf
  have HK0 := Lib.hid hB
  have HD := Lib.hid hdp
  have hdp1 : (ex : Int) ≤ -(dp - 1) := by omega
  have hdp2 : -(dp - 1) ≤ (ex : Int) := by omega
  have e1 : dp - 1 = -(ex : Int) := by omega
  have d10 : (dp - 1).tdiv 10 = -((ex / 10 : Nat) : Int) := by rw [e1, Int.neg_tdiv, Int.tdiv_eq_ediv_of_nonneg (by omega)]; omega
  have m10 : (dp - 1).tmod 10 = -((ex % 10 : Nat) : Int) := by rw [e1, Int.neg_tmod, Int.tmod_eq_emod_of_nonneg (by omega)]; omega
  have d100 : (dp - 1).tdiv 100 = -((ex / 100 : Nat) : Int) := by rw [e1, Int.neg_tdiv, Int.tdiv_eq_ediv_of_nonneg (by omega)]; omega
  clear e1
  have HC := Lib.hid hcs
  have HL := Lib.hid hL
  have hn0 : (((n + 2 : Nat) : Int) == 0) = false := by rw [beq_eq_false_iff_ne]; omega
  have hmin : min ((n : Int) + 2) ((n : Int) + 1 + 1) = (n : Int) + 2 := by omega
  clear hL hcs
  clear hbuf hB hc hdp hX
  go_enter Tryz.func108, Tryz.ntmps108
  go_wp2_with (first
    | (at_builtin; refine Buf.step HB0.out HK0.out ht _ [c] ?_ ?_ ?_ ?_ ?_; exact rfl; (simp); exact rfl; exact rfl; intro v1 w1 hb1 hk1; have HB1 := Lib.hid hb1; have HK1 := Lib.hid hk1; clear hb1 hk1)
    | (at_builtin; refine Buf.step HB1.out HK1.out ht _ [46] ?_ ?_ ?_ ?_ ?_; exact rfl; (simp); exact rfl; exact rfl; intro v2 w2 hb2 hk2; have HB2 := Lib.hid hb2; have HK2 := Lib.hid hk2; clear hb2 hk2)
    | (at_builtin; refine Buf.stepOf HB2.out HK2.out ht 1 31 T HC.out ?_ ?_ ?_ ?_; (simp [HL.out]; omega); exact rfl; (rw [HL.out]; exact rfl); intro v3 w3 hb3 hk3; have HB3 := Lib.hid hb3; have HK3 := Lib.hid hk3; clear hb3 hk3))
  refine wp_loop_rounds 1 ?_
  rw [rounds_succ]
  go_wp2_with (first
    | (at_builtin; refine Buf.step HB3.out HK3.out ht _ [101] ?_ ?_ ?_ ?_ ?_; exact rfl; (simp [HL.out]; omega); exact rfl; exact rfl; intro v4 w4 hb4 hk4; have HB4 := Lib.hid hb4; have HK4 := Lib.hid hk4; clear hb4 hk4)
    | (at_builtin; refine Buf.step HB4.out HK4.out ht _ [45] ?_ ?_ ?_ ?_ ?_; exact rfl; (simp [HL.out]; omega); exact rfl; exact rfl; intro v5 w5 hb5 hk5; have HB5 := Lib.hid hb5; have HK5 := Lib.hid hk5; clear hb5 hk5)
    | (at_builtin; refine Buf.step HB5.out HK5.out ht _ [UInt8.ofNat (48 + ex / 100), UInt8.ofNat (48 + ex / 10 % 10), UInt8.ofNat (48 + ex % 10)] ?_ ?_ ?_ ?_ ?_; (have hd := HD.out; exact enc3 (by omega) (by omega) (by omega) (by omega) (by omega) (by omega)); (simp [HL.out]; omega); exact rfl; exact rfl; intro v6 w6 hb6 hk6; have HB6 := Lib.hid hb6; have HK6 := Lib.hid hk6; clear hb6 hk6))
  go_ret
  exact ⟨_, rfl, HB6.out⟩

set_option maxRecDepth 100000 in
set_option maxHeartbeats 1600000 in
theorem efg_two_pos_1 (B0 : Nat) (w0 w : World) (v : Value) (B : Nat) (t : TypeId) (cs : Array Value) (dp : Int) (n : Nat) (c : UInt8) (T : List UInt8) (ex : Nat)
    (hbuf : Buf B0 w0 w v []) (hB : Blk w B t cs) (ht : 5 ≠ t) (hL : T.length = n + 1) (hn : n ≤ 20) (hcs : ∀ (j : Nat) (u : UInt8), T[j]? = some u → cs[1 + j]? = some (encB u)) (hc : cs[0]? = some (encB c)) (hdp : (ex : Int) = dp - 1) (hx0 : 0 ≤ ex) (hr : ex < 10) :
    Calls Tryz.prog 108 #[v, .bool false, .slice (some ⟨B, 0, none⟩) 32 32, .int .i64 dp, .int .i64 ((n + 2 : Nat) : Int), .int .i64 ((n + 1 : Nat) : Int), .int .u8 101, .bool true] w (EPost B0 w0 (eText c T false ex)) := by
  have hX : eText c T false ex = [] ++ [c] ++ [46] ++ T ++ [101] ++ [43] ++ [UInt8.ofNat 48, UInt8.ofNat (48 + ex)] := by
    unfold eText exDig
    rw [if_pos hr]
    rw [if_neg (show ¬ T = [] by rintro rfl; simp at hL)]; simp
  rw [hX]
  have hcell : w.cell? ⟨B, 0, none⟩ = some (.int .u8 (c.toNat : Int)) := (hB.cell 0).trans hc
  have HB0 := Lib.hid hbuf
  have HK0 := Lib.hid hB
  have HD := Lib.hid hdp
  have hdp1 : (ex : Int) ≤ dp - 1 := by omega
  have hdp2 : dp - 1 ≤ (ex : Int) := by omega
  have HC := Lib.hid hcs
  have HL := Lib.hid hL
  have hn0 : (((n + 2 : Nat) : Int) == 0) = false := by rw [beq_eq_false_iff_ne]; omega
  have hmin : min ((n : Int) + 2) ((n : Int) + 1 + 1) = (n : Int) + 2 := by omega
  clear hL hcs
  clear hbuf hB hc hdp hX
  go_enter Tryz.func108, Tryz.ntmps108
  go_wp2_with (first
    | (at_builtin; refine Buf.step HB0.out HK0.out ht _ [c] ?_ ?_ ?_ ?_ ?_; exact rfl; (simp); exact rfl; exact rfl; intro v1 w1 hb1 hk1; have HB1 := Lib.hid hb1; have HK1 := Lib.hid hk1; clear hb1 hk1)
    | (at_builtin; refine Buf.step HB1.out HK1.out ht _ [46] ?_ ?_ ?_ ?_ ?_; exact rfl; (simp); exact rfl; exact rfl; intro v2 w2 hb2 hk2; have HB2 := Lib.hid hb2; have HK2 := Lib.hid hk2; clear hb2 hk2)
    | (at_builtin; refine Buf.stepOf HB2.out HK2.out ht 1 31 T HC.out ?_ ?_ ?_ ?_; (simp [HL.out]; omega); exact rfl; (rw [HL.out]; exact rfl); intro v3 w3 hb3 hk3; have HB3 := Lib.hid hb3; have HK3 := Lib.hid hk3; clear hb3 hk3))
  refine wp_loop_rounds 1 ?_
  rw [rounds_succ]
  go_wp2_with (first
    | (at_builtin; refine Buf.step HB3.out HK3.out ht _ [101] ?_ ?_ ?_ ?_ ?_; exact rfl; (simp [HL.out]; omega); exact rfl; exact rfl; intro v4 w4 hb4 hk4; have HB4 := Lib.hid hb4; have HK4 := Lib.hid hk4; clear hb4 hk4)
    | (at_builtin; refine Buf.step HB4.out HK4.out ht _ [43] ?_ ?_ ?_ ?_ ?_; exact rfl; (simp [HL.out]; omega); exact rfl; exact rfl; intro v5 w5 hb5 hk5; have HB5 := Lib.hid hb5; have HK5 := Lib.hid hk5; clear hb5 hk5)
    | (at_builtin; refine Buf.step HB5.out HK5.out ht _ [UInt8.ofNat 48, UInt8.ofNat (48 + ex)] ?_ ?_ ?_ ?_ ?_; (have hd := HD.out; exact enc2 (by omega) (by omega) (by omega) (by omega)); (simp [HL.out]; omega); exact rfl; exact rfl; intro v6 w6 hb6 hk6; have HB6 := Lib.hid hb6; have HK6 := Lib.hid hk6; clear hb6 hk6))
  go_ret
  exact ⟨_, rfl, HB6.out⟩

set_option maxRecDepth 100000 in
set_option maxHeartbeats 1600000 in
theorem efg_two_pos_2 (B0 : Nat) (w0 w : World) (v : Value) (B : Nat) (t : TypeId) (cs : Array Value) (dp : Int) (n : Nat) (c : UInt8) (T : List UInt8) (ex : Nat)
    (hbuf : Buf B0 w0 w v []) (hB : Blk w B t cs) (ht : 5 ≠ t) (hL : T.length = n + 1) (hn : n ≤ 20) (hcs : ∀ (j : Nat) (u : UInt8), T[j]? = some u → cs[1 + j]? = some (encB u)) (hc : cs[0]? = some (encB c)) (hdp : (ex : Int) = dp - 1) (_hx0 : 0 ≤ ex) (hr : 10 ≤ ex ∧ ex < 100) :
    Calls Tryz.prog 108 #[v, .bool false, .slice (some ⟨B, 0, none⟩) 32 32, .int .i64 dp, .int .i64 ((n + 2 : Nat) : Int), .int .i64 ((n + 1 : Nat) : Int), .int .u8 101, .bool true] w (EPost B0 w0 (eText c T false ex)) := by
  have hX : eText c T false ex = [] ++ [c] ++ [46] ++ T ++ [101] ++ [43] ++ [UInt8.ofNat (48 + ex / 10), UInt8.ofNat (48 + ex % 10)] := by
    unfold eText exDig
    rw [if_neg (show ¬ ex < 10 by omega), if_pos hr.2]
    rw [if_neg (show ¬ T = [] by rintro rfl; simp at hL)]; simp
  rw [hX]
  have hcell : w.cell? ⟨B, 0, none⟩ = some (.int .u8 (c.toNat : Int)) := (hB.cell 0).trans hc
  have HB0 := Lib.hid hbuf
  have HK0 := Lib.hid hB
  have HD := Lib.hid hdp
  have hdp1 : (ex : Int) ≤ dp - 1 := by omega
  have hdp2 : dp - 1 ≤ (ex : Int) := by omega
  have HC := Lib.hid hcs
  have HL := Lib.hid hL
  have hn0 : (((n + 2 : Nat) : Int) == 0) = false := by rw [beq_eq_false_iff_ne]; omega
  have hmin : min ((n : Int) + 2) ((n : Int) + 1 + 1) = (n : Int) + 2 := by omega
  clear hL hcs
  clear hbuf hB hc hdp hX
  go_enter Tryz.func108, Tryz.ntmps108
  go_wp2_with (first
    | (at_builtin; refine Buf.step HB0.out HK0.out ht _ [c] ?_ ?_ ?_ ?_ ?_; exact rfl; (simp); exact rfl; exact rfl; intro v1 w1 hb1 hk1; have HB1 := Lib.hid hb1; have HK1 := Lib.hid hk1; clear hb1 hk1)
    | (at_builtin; refine Buf.step HB1.out HK1.out ht _ [46] ?_ ?_ ?_ ?_ ?_; exact rfl; (simp); exact rfl; exact rfl; intro v2 w2 hb2 hk2; have HB2 := Lib.hid hb2; have HK2 := Lib.hid hk2; clear hb2 hk2)
    | (at_builtin; refine Buf.stepOf HB2.out HK2.out ht 1 31 T HC.out ?_ ?_ ?_ ?_; (simp [HL.out]; omega); exact rfl; (rw [HL.out]; exact rfl); intro v3 w3 hb3 hk3; have HB3 := Lib.hid hb3; have HK3 := Lib.hid hk3; clear hb3 hk3))
  refine wp_loop_rounds 1 ?_
  rw [rounds_succ]
  go_wp2_with (first
    | (at_builtin; refine Buf.step HB3.out HK3.out ht _ [101] ?_ ?_ ?_ ?_ ?_; exact rfl; (simp [HL.out]; omega); exact rfl; exact rfl; intro v4 w4 hb4 hk4; have HB4 := Lib.hid hb4; have HK4 := Lib.hid hk4; clear hb4 hk4)
    | (at_builtin; refine Buf.step HB4.out HK4.out ht _ [43] ?_ ?_ ?_ ?_ ?_; exact rfl; (simp [HL.out]; omega); exact rfl; exact rfl; intro v5 w5 hb5 hk5; have HB5 := Lib.hid hb5; have HK5 := Lib.hid hk5; clear hb5 hk5)
    | (at_builtin; refine Buf.step HB5.out HK5.out ht _ [UInt8.ofNat (48 + ex / 10), UInt8.ofNat (48 + ex % 10)] ?_ ?_ ?_ ?_ ?_; (have hd := HD.out; exact enc2 (by omega) (by omega) (by omega) (by omega)); (simp [HL.out]; omega); exact rfl; exact rfl; intro v6 w6 hb6 hk6; have HB6 := Lib.hid hb6; have HK6 := Lib.hid hk6; clear hb6 hk6))
  go_ret
  exact ⟨_, rfl, HB6.out⟩

set_option maxRecDepth 100000 in
set_option maxHeartbeats 1600000 in
theorem efg_two_pos_3 (B0 : Nat) (w0 w : World) (v : Value) (B : Nat) (t : TypeId) (cs : Array Value) (dp : Int) (n : Nat) (c : UInt8) (T : List UInt8) (ex : Nat)
    (hbuf : Buf B0 w0 w v []) (hB : Blk w B t cs) (ht : 5 ≠ t) (hL : T.length = n + 1) (hn : n ≤ 20) (hcs : ∀ (j : Nat) (u : UInt8), T[j]? = some u → cs[1 + j]? = some (encB u)) (hc : cs[0]? = some (encB c)) (hdp : (ex : Int) = dp - 1) (_hx0 : 0 ≤ ex) (hr : 100 ≤ ex ∧ ex < 1000) :
    Calls Tryz.prog 108 #[v, .bool false, .slice (some ⟨B, 0, none⟩) 32 32, .int .i64 dp, .int .i64 ((n + 2 : Nat) : Int), .int .i64 ((n + 1 : Nat) : Int), .int .u8 101, .bool true] w (EPost B0 w0 (eText c T false ex)) := by
  have hX : eText c T false ex = [] ++ [c] ++ [46] ++ T ++ [101] ++ [43] ++ [UInt8.ofNat (48 + ex / 100), UInt8.ofNat (48 + ex / 10 % 10), UInt8.ofNat (48 + ex % 10)] := by
    unfold eText exDig
    rw [if_neg (show ¬ ex < 10 by omega), if_neg (show ¬ ex < 100 by omega)]
    rw [if_neg (show ¬ T = [] by rintro rfl; simp at hL)]; simp
  rw [hX]
  have hcell : w.cell? ⟨B, 0, none⟩ = some (.int .u8 (c.toNat : Int)) := (hB.cell 0).trans hc
  have HB0 := Lib.hid hbuf
  have HK0 := Lib.hid hB
  have HD := Lib.hid hdp
  have hdp1 : (ex : Int) ≤ dp - 1 := by omega
  have hdp2 : dp - 1 ≤ (ex : Int) := by omega
  have HC := Lib.hid hcs
  have HL := Lib.hid hL
  have hn0 : (((n + 2 : Nat) : Int) == 0) = false := by rw [beq_eq_false_iff_ne]; omega
  have hmin : min ((n : Int) + 2) ((n : Int) + 1 + 1) = (n : Int) + 2 := by omega
  clear hL hcs
  clear hbuf hB hc hdp hX
  go_enter Tryz.func108, Tryz.ntmps108
  go_wp2_with (first
    | (at_builtin; refine Buf.step HB0.out HK0.out ht _ [c] ?_ ?_ ?_ ?_ ?_; exact rfl; (simp); exact rfl; exact rfl; intro v1 w1 hb1 hk1; have HB1 := Lib.hid hb1; have HK1 := Lib.hid hk1; clear hb1 hk1)
    | (at_builtin; refine Buf.step HB1.out HK1.out ht _ [46] ?_ ?_ ?_ ?_ ?_; exact rfl; (simp); exact rfl; exact rfl; intro v2 w2 hb2 hk2; have HB2 := Lib.hid hb2; have HK2 := Lib.hid hk2; clear hb2 hk2)
    | (at_builtin; refine Buf.stepOf HB2.out HK2.out ht 1 31 T HC.out ?_ ?_ ?_ ?_; (simp [HL.out]; omega); exact rfl; (rw [HL.out]; exact rfl); intro v3 w3 hb3 hk3; have HB3 := Lib.hid hb3; have HK3 := Lib.hid hk3; clear hb3 hk3))
  refine wp_loop_rounds 1 ?_
  rw [rounds_succ]
  go_wp2_with (first
    | (at_builtin; refine Buf.step HB3.out HK3.out ht _ [101] ?_ ?_ ?_ ?_ ?_; exact rfl; (simp [HL.out]; omega); exact rfl; exact rfl; intro v4 w4 hb4 hk4; have HB4 := Lib.hid hb4; have HK4 := Lib.hid hk4; clear hb4 hk4)
    | (at_builtin; refine Buf.step HB4.out HK4.out ht _ [43] ?_ ?_ ?_ ?_ ?_; exact rfl; (simp [HL.out]; omega); exact rfl; exact rfl; intro v5 w5 hb5 hk5; have HB5 := Lib.hid hb5; have HK5 := Lib.hid hk5; clear hb5 hk5)
    | (at_builtin; refine Buf.step HB5.out HK5.out ht _ [UInt8.ofNat (48 + ex / 100), UInt8.ofNat (48 + ex / 10 % 10), UInt8.ofNat (48 + ex % 10)] ?_ ?_ ?_ ?_ ?_; (have hd := HD.out; exact enc3 (by omega) (by omega) (by omega) (by omega) (by omega) (by omega)); (simp [HL.out]; omega); exact rfl; exact rfl; intro v6 w6 hb6 hk6; have HB6 := Lib.hid hb6; have HK6 := Lib.hid hk6; clear hb6 hk6))
  go_ret
  exact ⟨_, rfl, HB6.out⟩

set_option maxRecDepth 100000 in
set_option maxHeartbeats 1600000 in
theorem efg_one_neg_1 (B0 : Nat) (w0 w : World) (v : Value) (B : Nat) (t : TypeId) (cs : Array Value) (dp : Int) (c : UInt8) (ex : Nat)
    (hbuf : Buf B0 w0 w v []) (hB : Blk w B t cs) (ht : 5 ≠ t) (hc : cs[0]? = some (encB c)) (hdp : (ex : Int) = -(dp - 1)) (hx0 : 1 ≤ ex) (hr : ex < 10) :
    Calls Tryz.prog 108 #[v, .bool false, .slice (some ⟨B, 0, none⟩) 32 32, .int .i64 dp, .int .i64 1, .int .i64 0, .int .u8 101, .bool true] w (EPost B0 w0 (eText c [] true ex)) := by
  have hX : eText c [] true ex = [] ++ [c] ++ [101] ++ [45] ++ [UInt8.ofNat 48, UInt8.ofNat (48 + ex)] := by
    unfold eText exDig
    rw [if_pos hr]
    rw [if_pos rfl]; simp
  rw [hX]
  have hcell : w.cell? ⟨B, 0, none⟩ = some (.int .u8 (c.toNat : Int)) := (hB.cell 0).trans hc
  have HB0 := Lib.hid hbuf
  have HK0 := Lib.hid hB
  have HD := Lib.hid hdp
  have hdp1 : (ex : Int) ≤ -(dp - 1) := by omega
  have hdp2 : -(dp - 1) ≤ (ex : Int) := by omega
  clear hbuf hB hc hdp hX
  go_enter Tryz.func108, Tryz.ntmps108
  go_wp2_with (first
    | (at_builtin; refine Buf.step HB0.out HK0.out ht _ [c] ?_ ?_ ?_ ?_ ?_; exact rfl; (simp); exact rfl; exact rfl; intro v1 w1 hb1 hk1; have HB1 := Lib.hid hb1; have HK1 := Lib.hid hk1; clear hb1 hk1)
    | (at_builtin; refine Buf.step HB1.out HK1.out ht _ [101] ?_ ?_ ?_ ?_ ?_; exact rfl; (simp); exact rfl; exact rfl; intro v2 w2 hb2 hk2; have HB2 := Lib.hid hb2; have HK2 := Lib.hid hk2; clear hb2 hk2)
    | (at_builtin; refine Buf.step HB2.out HK2.out ht _ [45] ?_ ?_ ?_ ?_ ?_; exact rfl; (simp); exact rfl; exact rfl; intro v3 w3 hb3 hk3; have HB3 := Lib.hid hb3; have HK3 := Lib.hid hk3; clear hb3 hk3)
    | (at_builtin; refine Buf.step HB3.out HK3.out ht _ [UInt8.ofNat 48, UInt8.ofNat (48 + ex)] ?_ ?_ ?_ ?_ ?_; (have hd := HD.out; exact enc2 (by omega) (by omega) (by omega) (by omega)); (simp); exact rfl; exact rfl; intro v4 w4 hb4 hk4; have HB4 := Lib.hid hb4; have HK4 := Lib.hid hk4; clear hb4 hk4))
  go_ret
  exact ⟨_, rfl, HB4.out⟩

set_option maxRecDepth 100000 in
set_option maxHeartbeats 1600000 in
theorem efg_one_neg_2 (B0 : Nat) (w0 w : World) (v : Value) (B : Nat) (t : TypeId) (cs : Array Value) (dp : Int) (c : UInt8) (ex : Nat)
    (hbuf : Buf B0 w0 w v []) (hB : Blk w B t cs) (ht : 5 ≠ t) (hc : cs[0]? = some (encB c)) (hdp : (ex : Int) = -(dp - 1)) (_hx0 : 1 ≤ ex) (hr : 10 ≤ ex ∧ ex < 100) :
    Calls Tryz.prog 108 #[v, .bool false, .slice (some ⟨B, 0, none⟩) 32 32, .int .i64 dp, .int .i64 1, .int .i64 0, .int .u8 101, .bool true] w (EPost B0 w0 (eText c [] true ex)) := by
  have hX : eText c [] true ex = [] ++ [c] ++ [101] ++ [45] ++ [UInt8.ofNat (48 + ex / 10), UInt8.ofNat (48 + ex % 10)] := by
    unfold eText exDig
    rw [if_neg (show ¬ ex < 10 by omega), if_pos hr.2]
    rw [if_pos rfl]; simp
  rw [hX]
  have hcell : w.cell? ⟨B, 0, none⟩ = some (.int .u8 (c.toNat : Int)) := (hB.cell 0).trans hc
  have HB0 := Lib.hid hbuf
  have HK0 := Lib.hid hB
  have HD := Lib.hid hdp
  have hdp1 : (ex : Int) ≤ -(dp - 1) := by omega
  have hdp2 : -(dp - 1) ≤ (ex : Int) := by omega
  have e1 : dp - 1 = -(ex : Int) := by omega
  have d10 : (dp - 1).tdiv 10 = -((ex / 10 : Nat) : Int) := by rw [e1, Int.neg_tdiv, Int.tdiv_eq_ediv_of_nonneg (by omega)]; omega
  have m10 : (dp - 1).tmod 10 = -((ex % 10 : Nat) : Int) := by rw [e1, Int.neg_tmod, Int.tmod_eq_emod_of_nonneg (by omega)]; omega
  have d100 : (dp - 1).tdiv 100 = -((ex / 100 : Nat) : Int) := by rw [e1, Int.neg_tdiv, Int.tdiv_eq_ediv_of_nonneg (by omega)]; omega
  clear e1
  clear hbuf hB hc hdp hX
  go_enter Tryz.func108, Tryz.ntmps108
  go_wp2_with (first
    | (at_builtin; refine Buf.step HB0.out HK0.out ht _ [c] ?_ ?_ ?_ ?_ ?_; exact rfl; (simp); exact rfl; exact rfl; intro v1 w1 hb1 hk1; have HB1 := Lib.hid hb1; have HK1 := Lib.hid hk1; clear hb1 hk1)
    | (at_builtin; refine Buf.step HB1.out HK1.out ht _ [101] ?_ ?_ ?_ ?_ ?_; exact rfl; (simp); exact rfl; exact rfl; intro v2 w2 hb2 hk2; have HB2 := Lib.hid hb2; have HK2 := Lib.hid hk2; clear hb2 hk2)
    | (at_builtin; refine Buf.step HB2.out HK2.out ht _ [45] ?_ ?_ ?_ ?_ ?_; exact rfl; (simp); exact rfl; exact rfl; intro v3 w3 hb3 hk3; have HB3 := Lib.hid hb3; have HK3 := Lib.hid hk3; clear hb3 hk3)
    | (at_builtin; refine Buf.step HB3.out HK3.out ht _ [UInt8.ofNat (48 + ex / 10), UInt8.ofNat (48 + ex % 10)] ?_ ?_ ?_ ?_ ?_; (have hd := HD.out; exact enc2 (by omega) (by omega) (by omega) (by omega)); (simp); exact rfl; exact rfl; intro v4 w4 hb4 hk4; have HB4 := Lib.hid hb4; have HK4 := Lib.hid hk4; clear hb4 hk4))
  go_ret
  exact ⟨_, rfl, HB4.out⟩

set_option maxRecDepth 100000 in
set_option maxHeartbeats 1600000 in
theorem efg_one_neg_3 (B0 : Nat) (w0 w : World) (v : Value) (B : Nat) (t : TypeId) (cs : Array Value) (dp : Int) (c : UInt8) (ex : Nat)
    (hbuf : Buf B0 w0 w v []) (hB : Blk w B t cs) (ht : 5 ≠ t) (hc : cs[0]? = some (encB c)) (hdp : (ex : Int) = -(dp - 1)) (_hx0 : 1 ≤ ex) (hr : 100 ≤ ex ∧ ex < 1000) :
    Calls Tryz.prog 108 #[v, .bool false, .slice (some ⟨B, 0, none⟩) 32 32, .int .i64 dp, .int .i64 1, .int .i64 0, .int .u8 101, .bool true] w (EPost B0 w0 (eText c [] true ex)) := by
  have hX : eText c [] true ex = [] ++ [c] ++ [101] ++ [45] ++ [UInt8.ofNat (48 + ex / 100), UInt8.ofNat (48 + ex / 10 % 10), UInt8.ofNat (48 + ex % 10)] := by
    unfold eText exDig
    rw [if_neg (show ¬ ex < 10 by omega), if_neg (show ¬ ex < 100 by omega)]
    rw [if_pos rfl]; simp
  rw [hX]
  have hcell : w.cell? ⟨B, 0, none⟩ = some (.int .u8 (c.toNat : Int)) := (hB.cell 0).trans hc
  have HB0 := Lib.hid hbuf
  have HK0 := Lib.hid hB
  have HD := Lib.hid hdp
  have hdp1 : (ex : Int) ≤ -(dp - 1) := by omega
  have hdp2 : -(dp - 1) ≤ (ex : Int) := by omega
  have e1 : dp - 1 = -(ex : Int) := by omega
  have d10 : (dp - 1).tdiv 10 = -((ex / 10 : Nat) : Int) := by rw [e1, Int.neg_tdiv, Int.tdiv_eq_ediv_of_nonneg (by omega)]; omega
  have m10 : (dp - 1).tmod 10 = -((ex % 10 : Nat) : Int) := by rw [e1, Int.neg_tmod, Int.tmod_eq_emod_of_nonneg (by omega)]; omega
  have d100 : (dp - 1).tdiv 100 = -((ex / 100 : Nat) : Int) := by rw [e1, Int.neg_tdiv, Int.tdiv_eq_ediv_of_nonneg (by omega)]; omega
  clear e1
  clear hbuf hB hc hdp hX
  go_enter Tryz.func108, Tryz.ntmps108
  go_wp2_with (first
    | (at_builtin; refine Buf.step HB0.out HK0.out ht _ [c] ?_ ?_ ?_ ?_ ?_; exact rfl; (simp); exact rfl; exact rfl; intro v1 w1 hb1 hk1; have HB1 := Lib.hid hb1; have HK1 := Lib.hid hk1; clear hb1 hk1)
    | (at_builtin; refine Buf.step HB1.out HK1.out ht _ [101] ?_ ?_ ?_ ?_ ?_; exact rfl; (simp); exact rfl; exact rfl; intro v2 w2 hb2 hk2; have HB2 := Lib.hid hb2; have HK2 := Lib.hid hk2; clear hb2 hk2)
    | (at_builtin; refine Buf.step HB2.out HK2.out ht _ [45] ?_ ?_ ?_ ?_ ?_; exact rfl; (simp); exact rfl; exact rfl; intro v3 w3 hb3 hk3; have HB3 := Lib.hid hb3; have HK3 := Lib.hid hk3; clear hb3 hk3)
    | (at_builtin; refine Buf.step HB3.out HK3.out ht _ [UInt8.ofNat (48 + ex / 100), UInt8.ofNat (48 + ex / 10 % 10), UInt8.ofNat (48 + ex % 10)] ?_ ?_ ?_ ?_ ?_; (have hd := HD.out; exact enc3 (by omega) (by omega) (by omega) (by omega) (by omega) (by omega)); (simp); exact rfl; exact rfl; intro v4 w4 hb4 hk4; have HB4 := Lib.hid hb4; have HK4 := Lib.hid hk4; clear hb4 hk4))
  go_ret
  exact ⟨_, rfl, HB4.out⟩

set_option maxRecDepth 100000 in
set_option maxHeartbeats 1600000 in
theorem efg_one_pos_1 (B0 : Nat) (w0 w : World) (v : Value) (B : Nat) (t : TypeId) (cs : Array Value) (dp : Int) (c : UInt8) (ex : Nat)
    (hbuf : Buf B0 w0 w v []) (hB : Blk w B t cs) (ht : 5 ≠ t) (hc : cs[0]? = some (encB c)) (hdp : (ex : Int) = dp - 1) (hx0 : 0 ≤ ex) (hr : ex < 10) :
    Calls Tryz.prog 108 #[v, .bool false, .slice (some ⟨B, 0, none⟩) 32 32, .int .i64 dp, .int .i64 1, .int .i64 0, .int .u8 101, .bool true] w (EPost B0 w0 (eText c [] false ex)) := by
  have hX : eText c [] false ex = [] ++ [c] ++ [101] ++ [43] ++ [UInt8.ofNat 48, UInt8.ofNat (48 + ex)] := by
    unfold eText exDig
    rw [if_pos hr]
    rw [if_pos rfl]; simp
  rw [hX]
  have hcell : w.cell? ⟨B, 0, none⟩ = some (.int .u8 (c.toNat : Int)) := (hB.cell 0).trans hc
  have HB0 := Lib.hid hbuf
  have HK0 := Lib.hid hB
  have HD := Lib.hid hdp
  have hdp1 : (ex : Int) ≤ dp - 1 := by omega
  have hdp2 : dp - 1 ≤ (ex : Int) := by omega
  clear hbuf hB hc hdp hX
  go_enter Tryz.func108, Tryz.ntmps108
  go_wp2_with (first
    | (at_builtin; refine Buf.step HB0.out HK0.out ht _ [c] ?_ ?_ ?_ ?_ ?_; exact rfl; (simp); exact rfl; exact rfl; intro v1 w1 hb1 hk1; have HB1 := Lib.hid hb1; have HK1 := Lib.hid hk1; clear hb1 hk1)
    | (at_builtin; refine Buf.step HB1.out HK1.out ht _ [101] ?_ ?_ ?_ ?_ ?_; exact rfl; (simp); exact rfl; exact rfl; intro v2 w2 hb2 hk2; have HB2 := Lib.hid hb2; have HK2 := Lib.hid hk2; clear hb2 hk2)
    | (at_builtin; refine Buf.step HB2.out HK2.out ht _ [43] ?_ ?_ ?_ ?_ ?_; exact rfl; (simp); exact rfl; exact rfl; intro v3 w3 hb3 hk3; have HB3 := Lib.hid hb3; have HK3 := Lib.hid hk3; clear hb3 hk3)
    | (at_builtin; refine Buf.step HB3.out HK3.out ht _ [UInt8.ofNat 48, UInt8.ofNat (48 + ex)] ?_ ?_ ?_ ?_ ?_; (have hd := HD.out; exact enc2 (by omega) (by omega) (by omega) (by omega)); (simp); exact rfl; exact rfl; intro v4 w4 hb4 hk4; have HB4 := Lib.hid hb4; have HK4 := Lib.hid hk4; clear hb4 hk4))
  go_ret
  exact ⟨_, rfl, HB4.out⟩

set_option maxRecDepth 100000 in
set_option maxHeartbeats 1600000 in
theorem efg_one_pos_2 (B0 : Nat) (w0 w : World) (v : Value) (B : Nat) (t : TypeId) (cs : Array Value) (dp : Int) (c : UInt8) (ex : Nat)
    (hbuf : Buf B0 w0 w v []) (hB : Blk w B t cs) (ht : 5 ≠ t) (hc : cs[0]? = some (encB c)) (hdp : (ex : Int) = dp - 1) (_hx0 : 0 ≤ ex) (hr : 10 ≤ ex ∧ ex < 100) :
    Calls Tryz.prog 108 #[v, .bool false, .slice (some ⟨B, 0, none⟩) 32 32, .int .i64 dp, .int .i64 1, .int .i64 0, .int .u8 101, .bool true] w (EPost B0 w0 (eText c [] false ex)) := by
  have hX : eText c [] false ex = [] ++ [c] ++ [101] ++ [43] ++ [UInt8.ofNat (48 + ex / 10), UInt8.ofNat (48 + ex % 10)] := by
    unfold eText exDig
    rw [if_neg (show ¬ ex < 10 by omega), if_pos hr.2]
    rw [if_pos rfl]; simp
  rw [hX]
  have hcell : w.cell? ⟨B, 0, none⟩ = some (.int .u8 (c.toNat : Int)) := (hB.cell 0).trans hc
  have HB0 := Lib.hid hbuf
  have HK0 := Lib.hid hB
  have HD := Lib.hid hdp
  have hdp1 : (ex : Int) ≤ dp - 1 := by omega
  have hdp2 : dp - 1 ≤ (ex : Int) := by omega
  clear hbuf hB hc hdp hX
  go_enter Tryz.func108, Tryz.ntmps108
  go_wp2_with (first
    | (at_builtin; refine Buf.step HB0.out HK0.out ht _ [c] ?_ ?_ ?_ ?_ ?_; exact rfl; (simp); exact rfl; exact rfl; intro v1 w1 hb1 hk1; have HB1 := Lib.hid hb1; have HK1 := Lib.hid hk1; clear hb1 hk1)
    | (at_builtin; refine Buf.step HB1.out HK1.out ht _ [101] ?_ ?_ ?_ ?_ ?_; exact rfl; (simp); exact rfl; exact rfl; intro v2 w2 hb2 hk2; have HB2 := Lib.hid hb2; have HK2 := Lib.hid hk2; clear hb2 hk2)
    | (at_builtin; refine Buf.step HB2.out HK2.out ht _ [43] ?_ ?_ ?_ ?_ ?_; exact rfl; (simp); exact rfl; exact rfl; intro v3 w3 hb3 hk3; have HB3 := Lib.hid hb3; have HK3 := Lib.hid hk3; clear hb3 hk3)
    | (at_builtin; refine Buf.step HB3.out HK3.out ht _ [UInt8.ofNat (48 + ex / 10), UInt8.ofNat (48 + ex % 10)] ?_ ?_ ?_ ?_ ?_; (have hd := HD.out; exact enc2 (by omega) (by omega) (by omega) (by omega)); (simp); exact rfl; exact rfl; intro v4 w4 hb4 hk4; have HB4 := Lib.hid hb4; have HK4 := Lib.hid hk4; clear hb4 hk4))
  go_ret
  exact ⟨_, rfl, HB4.out⟩

set_option maxRecDepth 100000 in
set_option maxHeartbeats 1600000 in
theorem efg_one_pos_3 (B0 : Nat) (w0 w : World) (v : Value) (B : Nat) (t : TypeId) (cs : Array Value) (dp : Int) (c : UInt8) (ex : Nat)
    (hbuf : Buf B0 w0 w v []) (hB : Blk w B t cs) (ht : 5 ≠ t) (hc : cs[0]? = some (encB c)) (hdp : (ex : Int) = dp - 1) (_hx0 : 0 ≤ ex) (hr : 100 ≤ ex ∧ ex < 1000) :
    Calls Tryz.prog 108 #[v, .bool false, .slice (some ⟨B, 0, none⟩) 32 32, .int .i64 dp, .int .i64 1, .int .i64 0, .int .u8 101, .bool true] w (EPost B0 w0 (eText c [] false ex)) := by
  have hX : eText c [] false ex = [] ++ [c] ++ [101] ++ [43] ++ [UInt8.ofNat (48 + ex / 100), UInt8.ofNat (48 + ex / 10 % 10), UInt8.ofNat (48 + ex % 10)] := by
    unfold eText exDig
    rw [if_neg (show ¬ ex < 10 by omega), if_neg (show ¬ ex < 100 by omega)]
    rw [if_pos rfl]; simp
  rw [hX]
  have hcell : w.cell? ⟨B, 0, none⟩ = some (.int .u8 (c.toNat : Int)) := (hB.cell 0).trans hc
  have HB0 := Lib.hid hbuf
  have HK0 := Lib.hid hB
  have HD := Lib.hid hdp
  have hdp1 : (ex : Int) ≤ dp - 1 := by omega
  have hdp2 : dp - 1 ≤ (ex : Int) := by omega
  clear hbuf hB hc hdp hX
  go_enter Tryz.func108, Tryz.ntmps108
  go_wp2_with (first
    | (at_builtin; refine Buf.step HB0.out HK0.out ht _ [c] ?_ ?_ ?_ ?_ ?_; exact rfl; (simp); exact rfl; exact rfl; intro v1 w1 hb1 hk1; have HB1 := Lib.hid hb1; have HK1 := Lib.hid hk1; clear hb1 hk1)
    | (at_builtin; refine Buf.step HB1.out HK1.out ht _ [101] ?_ ?_ ?_ ?_ ?_; exact rfl; (simp); exact rfl; exact rfl; intro v2 w2 hb2 hk2; have HB2 := Lib.hid hb2; have HK2 := Lib.hid hk2; clear hb2 hk2)
    | (at_builtin; refine Buf.step HB2.out HK2.out ht _ [43] ?_ ?_ ?_ ?_ ?_; exact rfl; (simp); exact rfl; exact rfl; intro v3 w3 hb3 hk3; have HB3 := Lib.hid hb3; have HK3 := Lib.hid hk3; clear hb3 hk3)
    | (at_builtin; refine Buf.step HB3.out HK3.out ht _ [UInt8.ofNat (48 + ex / 100), UInt8.ofNat (48 + ex / 10 % 10), UInt8.ofNat (48 + ex % 10)] ?_ ?_ ?_ ?_ ?_; (have hd := HD.out; exact enc3 (by omega) (by omega) (by omega) (by omega) (by omega) (by omega)); (simp); exact rfl; exact rfl; intro v4 w4 hb4 hk4; have HB4 := Lib.hid hb4; have HK4 := Lib.hid hk4; clear hb4 hk4))
  go_ret
  exact ⟨_, rfl, HB4.out⟩

end Go.Proofs.YtijncfidjjfmiaaGreatDoor
