/- Walk of the library's floatBits. -/
import Derived.Test.YtijncfidjjfmiaaGreatDoorFloSlowGH
import Derived.Deep.CutRange
import Derived.Deep.DeepCutAuto
namespace Go
/-- Jumps to two labels alone, by what holds there. -/
def Exit.two (J0 J1 : Act → World → Prop) (Q : Exit → Act → World → Prop) : Exit → Act → World → Prop
  | .goto l, a, w => (l = 0 ∧ J0 a w) ∨ (l = 1 ∧ J1 a w)
  | e, a, w => Q e a w
section
variable {P : Program} {a : Act} {w : World} {Q : Exit → Act → World → Prop}
theorem wp_scope_two {c r0 r1 : Code} (J0 J1 : Act → World → Prop) (hf0 : findLabel c 0 = some r0) (hf1 : findLabel c 1 = some r1)
    (first : ∀ (K0 K1 : Act → World → Prop), RowKit.Hid (∀ a w, J0 a w → K0 a w) → RowKit.Hid (∀ a w, J1 a w → K1 a w) → c.wp P (Exit.two K0 K1 Q) a w)
    (t0 : ∀ a w, J0 a w → r0.wp P (Exit.noGoto Q) a w) (t1 : ∀ a w, J1 a w → r1.wp P (Exit.noGoto Q) a w) : (Code.scope c).wp P Q a w := by
  intro b k cs
  have key : ∀ (r : Code) (l : Nat) (a₁ : Act) (w₁ : World), findLabel c l = some r → r.wp P (Exit.noGoto Q) a₁ w₁ →
      (∀ k', gotoIn l (.inScope c :: k) = some k' → Steps P (lone (b.at a (.code c :: .inScope c :: k)) cs w) (lone (b.at a₁ k') cs w₁)) →
      ∃ e a' w', Q e a' w' ∧ Arrives P (lone (b.at a (.code (.scope c) :: k)) cs w) b k cs e a' w' := by
    intro r l a₁ w₁ hf hr harr
    have hg : gotoIn l (.inScope c :: k) = some (.code r :: .inScope c :: k) := by simp [gotoIn, hf]
    have h1 := Steps.trans (Steps.one step_scope) (harr _ hg)
    obtain ⟨e, a₂, w₂, hq, har2⟩ := hr b (.inScope c :: k) cs
    cases e with
    | normal => exact ⟨.normal, a₂, w₂, hq, Steps.trans h1 (Steps.trans har2 (.one step_inScope))⟩
    | exit id => exact ⟨.exit id, a₂, w₂, hq, fun k' hk => Steps.trans h1 (har2 k' (by simp [exitTo, hk]))⟩
    | goto l => exact hq.elim
    | ret => exact ⟨_, a₂, w₂, hq, .of_steps h1 har2⟩
    | panic ch => exact ⟨_, a₂, w₂, hq, .of_steps h1 har2⟩
    | outgrown => exact ⟨_, a₂, w₂, hq, .of_steps h1 har2⟩
  obtain ⟨e, a₁, w₁, hq, harr⟩ := first J0 J1 (fun _ _ h => h) (fun _ _ h => h) b (.inScope c :: k) cs
  cases e with
  | normal => exact ⟨.normal, a₁, w₁, hq, .head step_scope (Steps.trans harr (.one step_inScope))⟩
  | exit id => exact ⟨.exit id, a₁, w₁, hq, fun k' hk => .head step_scope (harr k' (by simp [exitTo, hk]))⟩
  | goto l =>
    rcases hq with ⟨rfl, hj⟩ | ⟨rfl, hj⟩
    · exact key _ _ _ _ hf0 (t0 _ _ hj) harr
    · exact key _ _ _ _ hf1 (t1 _ _ hj) harr
  | ret => exact ⟨_, a₁, w₁, hq, .of_steps (.one step_scope) harr⟩
  | panic ch => exact ⟨_, a₁, w₁, hq, .of_steps (.one step_scope) harr⟩
  | outgrown => exact ⟨_, a₁, w₁, hq, .of_steps (.one step_scope) harr⟩
theorem goto_then {next : Act → World → Prop} {l : Nat} : Exit.then next Q (.goto l) a w = Q (.goto l) a w := rfl
theorem goto_0 {J0 J1 : Act → World → Prop} : Exit.two J0 J1 Q (.goto 0) a w = ((0 = 0 ∧ J0 a w) ∨ (0 = 1 ∧ J1 a w)) := rfl
theorem go_to0 {J0 J1 : Act → World → Prop} (h : J0 a w) : Exit.two J0 J1 Q (.goto 0) a w := .inl ⟨rfl, h⟩
theorem go_to1 {J0 J1 : Act → World → Prop} (h : J1 a w) : Exit.two J0 J1 Q (.goto 1) a w := .inr ⟨rfl, h⟩
section
variable {J0 J1 : Act → World → Prop}
@[go_sem] theorem Exit.two_normal : Exit.two J0 J1 Q .normal a w = Q .normal a w := rfl
@[go_sem] theorem Exit.two_exit (id : Nat) : Exit.two J0 J1 Q (.exit id) a w = Q (.exit id) a w := rfl
@[go_sem] theorem Exit.two_ret : Exit.two J0 J1 Q .ret a w = Q .ret a w := rfl
@[go_sem] theorem Exit.two_panic (ch : List PanicEntry) : Exit.two J0 J1 Q (.panic ch) a w = Q (.panic ch) a w := rfl
end
end
end Go
namespace Go.Proofs.YtijncfidjjfmiaaGreatDoor
open Go.RowKit FloM

theorem St.drewN {A C : Nat} {e : Int} {w0 : World} {b : Nat} {E : Int} {g : Nat → Nat} {nd : Nat} {dp : Int} {tr : Bool} {wr : World} (h : St A C e w0 b E g nd dp tr wr) (n : Nat) : St A C e w0 b E g nd dp tr (wr.drewN n) :=
  ⟨h.dc.drewN n, h.ok, h.fl, only_drewN h.gr n, h.d1, h.d2, h.ss, h.e1, h.e2⟩

structure Pt (w : World) (B : Nat) (ad : Addr) (cap : Nat) : Prop where
  gl : 13 < B
  ab : ad.block < B
  sl : w.cell? ⟨13, 0, none⟩ = some (.slice (some ad) 9 cap)
  row : ∀ k, k < 9 → w.cell? (ad.add k) = some (.int .i64 (ptN k : Int))
structure Fi (w : World) (B : Nat) : Prop where
  gl : 11 < B
  c0 : w.cell? ⟨11, 0, none⟩ = some (.int .u64 52)
  c1 : w.cell? ⟨11, 1, none⟩ = some (.int .u64 11)
  c2 : w.cell? ⟨11, 2, none⟩ = some (.int .i64 (-1023))
structure SEnv (w : World) (B : Nat) (a1 a2 : Addr) (k1 k2 : Nat) : Prop where
  lc : Lc w B a1 k1
  pt : Pt w B a2 k2
  fi : Fi w B
section
variable {w w' : World} {B b : Nat} {a1 a2 : Addr} {k1 k2 : Nat}
theorem Pt.keep (h : Pt w B a2 k2) (hk : ∀ p : Addr, p.block < B → w'.cell? p = w.cell? p) : Pt w' B a2 k2 :=
  ⟨h.gl, h.ab, (hk ⟨_, 0, none⟩ h.gl).trans h.sl, fun k hk2 => (hk _ (by rw [block_of_add]; exact h.ab)).trans (h.row k hk2)⟩
theorem Fi.keep (h : Fi w B) (hk : ∀ p : Addr, p.block < B → w'.cell? p = w.cell? p) : Fi w' B :=
  ⟨h.gl, (hk ⟨_, 0, none⟩ h.gl).trans h.c0, (hk ⟨_, 1, none⟩ h.gl).trans h.c1, (hk ⟨_, 2, none⟩ h.gl).trans h.c2⟩
theorem SEnv.grown (h : SEnv w B a1 a2 k1 k2) (hg : w.grownBy w' (some b)) (hB : B ≤ b) (hs : B ≤ w.heap.size) : SEnv w' B a1 a2 k1 k2 := by
  have hk : ∀ p : Addr, p.block < B → w'.cell? p = w.cell? p := fun p hp => World.cell?_of_block (hg.block p.block (by omega) (fun e => by cases e; omega))
  exact ⟨h.lc.keep hk, h.pt.keep hk, h.fi.keep hk⟩
end
theorem fb_and (M : Nat) (hM : M < 18446744073709551616) : bits .and .u64 (M : Int) 4503599627370495 = ((M % 4503599627370496 : Nat) : Int) :=
  (u64_and_nat M 4503599627370495 hM (by decide)).trans (congrArg Nat.cast (Nat.and_two_pow_sub_one_eq_mod M 52))
theorem fb_bit (m : Nat) (hm : m < 18014398509481984) : bits .and .u64 (m : Int) 4503599627370496 = ((m / 4503599627370496 % 2 * 4503599627370496 : Nat) : Int) := by
  have h := u64_and_nat m 4503599627370496 (by omega) (by decide)
  have h2 := nat_bit 52 m
  rw [show (2 : Nat) ^ 52 = 4503599627370496 from rfl] at h2
  rw [h2] at h
  exact h
theorem fb_c1 (k M R : Nat) (hM : M = 9007199254740992) (hR : R = min (k * 4503599627370496 + M) 9218868437227405312) : 0 + (k + 2) * 4503599627370496 = R ∨ (2045 ≤ k ∧ R = 9218868437227405312) := by
  subst hM
  rw [hR]
  omega
theorem fb_c2 (k M R : Nat) (h1 : ¬ M < 4503599627370496) (h2 : M ≤ 9007199254740992) (h3 : ¬ M = 9007199254740992) (hk : ¬ 2046 ≤ k) (hR : R = min (k * 4503599627370496 + M) 9218868437227405312) : M % 4503599627370496 + (k + 1) * 4503599627370496 = R := by
  obtain ⟨r, rfl⟩ : ∃ r, M = 4503599627370496 + r := ⟨M - 4503599627370496, by omega⟩
  rw [Nat.add_mod_left, Nat.mod_eq_of_lt (by omega), hR]
  omega
theorem fb_exp (F : Nat) (hF : F ≤ 2047) : bits .and .i64 (F : Int) 2047 = (F : Int) :=
  (i64_and_nat F 2047 (by omega) (by decide)).trans (congrArg Nat.cast ((Nat.and_two_pow_sub_one_eq_mod F 11).trans (Nat.mod_eq_of_lt (by omega))))
theorem fb_or (x F : Nat) (hx : x < 4503599627370496) (hF : F ≤ 2047) : bits .or .u64 (x : Int) ((F : Int) * 4503599627370496) = ((x + F * 4503599627370496 : Nat) : Int) := by
  have h := u64_or_nat x (F * 4503599627370496) (by omega) (by omega)
  rw [show ((F * 4503599627370496 : Nat) : Int) = (F : Int) * 4503599627370496 by omega] at h
  refine h.trans (congrArg Nat.cast ?_)
  rw [Nat.or_comm, nat_join 52 _ x (by omega) (by omega), Nat.add_comm]
theorem fb_wrap (F : Nat) (hF : F ≤ 2047) : IntKind.u64.wrap ((F : Int) * 4503599627370496) = (F : Int) * 4503599627370496 := by
  simp [IntKind.wrap, IntKind.signed, IntKind.bits]; omega

/-- What floatBits hands back. -/
def FbPost (R b : Nat) (w : World) (e : Ending) (w' : World) : Prop :=
  ∃ ov : Bool, e = .returned (.tuple #[.int .u64 (R : Int), .bool ov]) ∧ (ov = true → R = cap) ∧ w.grownBy w' (some b)
/-- The slots that are not looked at. -/
def RestL (U : Nat → Value) : List Value := [U 0, U 1, U 2, U 3, U 4, U 5, U 6, U 7, U 8, U 9, U 10, U 11, U 12, U 13, U 14, U 15, U 16, U 17, U 18, U 19, U 20, U 21, U 22, U 23, U 24, U 25, U 26, U 27, U 28, U 29, U 30, U 31, U 32, U 33, U 34, U 35, U 36, U 37, U 38, U 39, U 40, U 41, U 42, U 43, U 44, U 45, U 46, U 47, U 48, U 49, U 50, U 51, U 52, U 53, U 54, U 55, U 56, U 57, U 58, U 59, U 60, U 61, U 62, U 63, U 64, U 65, U 66, U 67, U 68, U 69, U 70, U 71, U 72, U 73, U 74, U 75, U 76, U 77, U 78, U 79, U 80, U 81, U 82, U 83, U 84, U 85, U 86, U 87, U 88, U 89, U 90, U 91, U 92, U 93, U 94, U 95, U 96, U 97, U 98, U 99, U 100, U 101, U 102, U 103, U 104, U 105, U 106, U 107, U 108, U 109, U 110, U 111, U 112, U 113, U 114, U 115, U 116, U 117, U 118, U 119, U 120, U 121, U 122, U 123, U 124, U 125, U 126, U 127, U 128, U 129, U 130, U 131, U 132, U 133, U 134, U 135, U 136, U 137, U 138, U 139, U 140, U 141, U 142, U 143, U 144, U 145, U 146, U 147, U 148, U 149, U 150, U 151, U 152, U 153, U 154, U 155, U 156, U 157, U 158, U 159, U 160, U 161, U 162, U 163, U 164, U 165, U 166, U 167, U 168, U 169, U 170, U 171, U 172, U 173, U 174, U 175, U 176, U 177, U 178, U 179, U 180, U 181, U 182, U 183, U 184, U 185, U 186, U 187, U 188, U 189, U 190, U 191, U 192, U 193, U 194, U 195, U 196, U 197, U 198, U 199, U 200, U 201, U 202, U 203, U 204, U 205, U 206, U 207, U 208, U 209, U 210, U 211, U 212, U 213, U 214, U 215, U 216, U 217, U 218, U 219, U 220, U 221, U 222, U 223, U 224, U 225, U 226, U 227, U 228, U 229, U 230, U 231, U 232, U 233, U 234]
set_option maxRecDepth 100000 in
theorem rest_map (U : Nat → Value) : RestL U = (List.range 235).map U := rfl
theorem rest_of (T : List Value) (h : T.length = 235) : ∃ U : Nat → Value, T = RestL U := by
  refine ⟨fun i => T.getD i (.bool false), ?_⟩
  rw [rest_map]
  apply List.ext_getElem?
  intro i
  by_cases hi : i < 235
  · rw [List.getElem?_map, List.getElem?_range hi, List.getElem?_eq_getElem (by omega)]
    simp [List.getD, List.getElem?_eq_getElem (show i < T.length by omega)]
  · rw [List.getElem?_eq_none (by omega), List.getElem?_eq_none (by simp; omega)]
/-- At the label that puts the bits together. -/
def FbOut (w : World) (b B R : Nat) (a : Act) (w' : World) : Prop :=
  ∃ (M F : Nat) (ov : Bool) (g : Nat → Nat) (nd : Nat) (dp : Int) (tr : Bool) (X Y : Int) (u2 u3 u4 : Value) (T : List Value), (M < 18014398509481984 ∧ F ≤ 2047 ∧ M % 4503599627370496 + F * 4503599627370496 = R ∧ (ov = true → R = cap) ∧ X = (F : Int) - 1023 ∧ Y = (M : Int)) ∧
    (Dc w' b g nd dp tr ∧ Fi w' B ∧ w.grownBy w' (some b)) ∧ T.length = 235 ∧ a = ⟨(.pointer (some ⟨b, 0, none⟩) :: .pointer (some ⟨11, 0, none⟩) :: u2 :: u3 :: u4 :: .bool ov :: .int .i64 X :: .int .u64 Y :: T).toArray, []⟩
/-- At the label of what runs over. -/
def FbOv (w : World) (b B R : Nat) (a : Act) (w' : World) : Prop :=
  ∃ (g : Nat → Nat) (nd : Nat) (dp : Int) (tr : Bool) (u2 u3 u4 u6 u7 : Value) (T : List Value), R = cap ∧ (Dc w' b g nd dp tr ∧ Fi w' B ∧ w.grownBy w' (some b)) ∧ T.length = 235 ∧ a = ⟨(.pointer (some ⟨b, 0, none⟩) :: .pointer (some ⟨11, 0, none⟩) :: u2 :: u3 :: u4 :: .bool false :: u6 :: u7 :: T).toArray, []⟩

set_option maxRecDepth 100000 in
set_option maxHeartbeats 1000000 in
theorem fb_mid (A C : Nat) (e : Int) (k M R : Nat) (w : World) (b B : Nat) (a1 a2 : Addr) (k1 k2 : Nat) (g : Nat → Nat) (nd : Nat) (dp : Int) (tr : Bool) (ha : At A C e) (hSt : St A C e w b 0 g nd dp tr w)
    (hd1 : -330 ≤ dp) (hd2 : dp ≤ 310) (he2 : e ≤ 1040) (hk : Hid ((k : Int) = max (e + 1021) 0)) (hM : Hid (rhe (A * 2 ^ (oo + e74 - k)) (C * 2 ^ oo) = M)) (hM3 : Hid (M ≤ 9007199254740992)) (hMk : Hid (0 < k → 4503599627370496 ≤ M))
    (hR : Hid (R = min (k * 4503599627370496 + M) cap)) (hS : SEnv w B a1 a2 k1 k2) (hBb : B ≤ b) (hBs : B ≤ w.heap.size) :
    Calls Tryz.prog 177 #[.pointer (some ⟨b, 0, none⟩), .pointer (some ⟨11, 0, none⟩)] w (FbPost R b w) := by
  have c1 := hSt.dc.nd_
  have c2 := hSt.dc.dp_
  have h0 := hSt.ok.pos
  have HSE := Lib.hid hS
  have HA := Lib.hid ha
  have HS0 := Lib.hid hSt
  have he1 := ha.e1
  have q00 : ((nd : Int) == 0) = false := beq_eq_false_iff_ne.2 (by omega)
  have q01 : decide ((310 : Int) < dp) = false := decide_eq_false (by omega)
  have q02 : decide (dp < -330) = false := decide_eq_false (by omega)
  clear hSt hS ha
  go_enter Tryz.func177, Tryz.ntmps177
  go_wp2_with fail
  refine wp_scope_two (FbOut w b B R) (FbOv w b B R) rfl rfl ?_ ?_ ?_
  · intro K0 K1 hK0 hK1
    go_wp2_with fail
    go_loopg [6] ((e + 40).toNat) (fun gk xv wr => ∃ (E : Int) (g : Nat → Nat) (nd : Nat) (dp : Int) (tr : Bool), gk = (e - E + 40).toNat ∧ xv = .int .i64 E ∧ 0 ≤ E ∧ E ≤ 1150 ∧ -330 ≤ dp ∧ dp ≤ 310 ∧ Hid (St A C e w b E g nd dp tr wr))
    case atStart => exact ⟨0, g, nd, dp, tr, by rw [Int.sub_zero], rfl, by omega, by omega, hd1, hd2, HS0⟩
    case round =>
      clear c1 c2 h0 q00 q01 q02 hd1 hd2 HS0
      obtain ⟨E, g, nd, dp, tr, rfl, rfl, hE0, hE1, hd1, hd2, HS⟩ := hrel
      have c2 := HS.out.dc.dp_
      have SE := HSE.out.grown HS.out.gr hBb hBs
      have p0 := SE.pt.sl
      have prow := Lib.hid SE.pt.row
      have HLC := Lib.hid SE.lc
      clear SE
      by_cases hdp : 0 < dp
      · have hbig := HS.out.big HA.out hdp
        have q3 : decide (0 < dp) = true := decide_eq_true hdp
        by_cases h9 : dp < 9
        · obtain ⟨j, rfl⟩ : ∃ j : Nat, dp = (j : Int) := ⟨dp.toNat, by omega⟩
          have p1 := prow.out j (by omega)
          obtain ⟨n1, n2, _⟩ := pt_spec (k := j) (by omega)
          have HC := Lib.hid (fun (w : World) (hD : Dc w b g nd (j : Int) tr) => shift_r b g nd (ptN j) (j : Int) tr HS.out.ok w hD n1 (by omega) (by omega) (by omega))
          have i3 : (j : Int) < 9 := h9
          have q4 : decide ((9 : Int) ≤ (j : Int)) = false := decide_eq_false (by omega)
          generalize ptN j = n at *
          go_wp2_with fail
          go_quiet (fail)
          go_wp2_with fail
          go_quiet (fail)
          go_wp2_with ((go_at_call 116; ((with_reducible refine (HC.out _ (HS.out.dc.drewN _)).mono ?_); rintro e' w1 hp; have HP := Lib.hid hp; have he := hp.1; subst he; clear hp)))
          obtain ⟨g', nd', dp', tr', z1, z2, z3, z4⟩ := (HS.out.drewN _).right HA.out (.inr (by omega)) (by omega) (by omega) HP.out
          go_roundg ((e - (E + n) + 40).toNat)
          case rel => exact ⟨E + n, g', nd', dp', tr', rfl, by go_num, by omega, by omega, by omega, by omega, z1⟩
          case measure => omega
        · have q4 : decide ((9 : Int) ≤ dp) = true := decide_eq_true (by omega)
          have HC : Hid (∀ (w : World) (hD : Dc w b g nd dp tr), Calls Tryz.prog 116 #[.pointer (some ⟨b, 0, none⟩), .int .i64 (-27)] w (ShPost (dV g nd dp) (2 ^ 27) b dp tr w)) := Lib.hid (fun (w : World) (hD : Dc w b g nd dp tr) => shift_r b g nd 27 dp tr HS.out.ok w hD (by decide) (by decide) (by omega) (by omega))
          go_wp2_with fail
          go_quiet (fail)
          go_wp2_with ((go_at_call 116; ((with_reducible refine (HC.out _ (HS.out.dc.drewN _)).mono ?_); rintro e' w1 hp; have HP := Lib.hid hp; have he := hp.1; subst he; clear hp)))
          obtain ⟨g', nd', dp', tr', z1, z2, z3, z4⟩ := (HS.out.drewN _).right (n := 27) HA.out (.inr (by omega)) (by omega) (by omega) HP.out
          go_roundg ((e - (E + 27) + 40).toNat)
          case rel => exact ⟨E + 27, g', nd', dp', tr', rfl, by go_num, by omega, by omega, by omega, by omega, z1⟩
          case measure => omega
      · have q3 : decide (0 < dp) = false := decide_eq_false hdp
        go_wp2_with fail
        go_loopg [6] ((E - e + 40).toNat) (fun gk xv wr => ∃ (E : Int) (g : Nat → Nat) (nd : Nat) (dp : Int) (tr : Bool), gk = (E - e + 40).toNat ∧ xv = .int .i64 E ∧ -1180 ≤ E ∧ E ≤ 1150 ∧ -330 ≤ dp ∧ dp ≤ 0 ∧ Hid (St A C e w b E g nd dp tr wr))
        case atStart => exact ⟨E, g, nd, dp, tr, rfl, rfl, by omega, by omega, hd1, by omega, HS⟩
        case round =>
          clear c2 hdp q3 hd1 hd2 HS p0 prow HLC hE0 hE1
          obtain ⟨E, g, nd, dp, tr, rfl, rfl, hE0, hE1, hd1, hd2, HS⟩ := hrel
          have c2 := HS.out.dc.dp_
          have c9 := HS.out.dc.dig (i := 0) (by decide)
          have SE := HSE.out.grown HS.out.gr hBb hBs
          have p0 := SE.pt.sl
          have prow := Lib.hid SE.pt.row
          have HLC := Lib.hid SE.lc
          have HFI := Lib.hid SE.fi
          clear SE
          by_cases hdn : dp < 0
          · have q3 : decide (dp < 0) = true := decide_eq_true hdn
            have hsm := HS.out.small HA.out (by have := dp_neg2 HS.out.ok hdn (by omega); omega)
            by_cases h9 : -dp < 9
            · obtain ⟨j, hj⟩ : ∃ j : Nat, -dp = (j : Int) := ⟨(-dp).toNat, by omega⟩
              have p1 := prow.out j (by omega)
              obtain ⟨n1, n2, n3⟩ := pt_spec (k := j) (by omega)
              have HN3 := Lib.hid n3
              have HC := Lib.hid (fun (w : World) (hD : Dc w b g nd dp tr) (hL : Lc w B a1 k1) => shift_l b g nd (ptN j) dp tr HS.out.ok w hD n1 (by omega) (by omega) (by omega) hL)
              have i3 : (j : Int) < 9 := by omega
              have q4 : decide ((9 : Int) ≤ (j : Int)) = false := decide_eq_false (by omega)
              generalize ptN j = n at *
              clear n3
              go_wp2_with fail
              go_quiet (fail)
              go_wp2_with fail
              go_quiet (fail)
              go_wp2_with ((go_at_call 116; ((with_reducible refine (HC.out _ (HS.out.dc.drewN _) (HLC.out.keep (fun _ _ => rfl))).mono ?_); rintro e' w1 hp; have HP := Lib.hid hp; have he := hp.1; subst he; clear hp)))
              obtain ⟨g', nd', dp', tr', z1, z2, z3, z4⟩ := (HS.out.drewN _).left HA.out n1 (by omega) (by omega) HP.out
              have z5 := up_small HS.out.ok z1.ok z3 (by omega) (by have := z1.d1; omega) (.inr ⟨j, by omega, by omega, HN3.out (by omega)⟩)
              go_roundg ((E - n - e + 40).toNat)
              case rel => exact ⟨E - n, g', nd', dp', tr', rfl, by go_num, by omega, by omega, by omega, z5, z1⟩
              case measure => omega
            · have q4 : decide ((9 : Int) ≤ -dp) = true := decide_eq_true (by omega)
              have HC : Hid (∀ (w : World) (hD : Dc w b g nd dp tr) (hL : Lc w B a1 k1), Calls Tryz.prog 116 #[.pointer (some ⟨b, 0, none⟩), .int .i64 27] w (ShPost (dV g nd dp * 2 ^ 27) 1 b dp tr w)) := Lib.hid (fun (w : World) (hD : Dc w b g nd dp tr) (hL : Lc w B a1 k1) => shift_l b g nd 27 dp tr HS.out.ok w hD (by decide) (by decide) (by omega) (by omega) hL)
              go_wp2_with fail
              go_quiet (fail)
              go_wp2_with ((go_at_call 116; ((with_reducible refine (HC.out _ (HS.out.dc.drewN _) (HLC.out.keep (fun _ _ => rfl))).mono ?_); rintro e' w1 hp; have HP := Lib.hid hp; have he := hp.1; subst he; clear hp)))
              obtain ⟨g', nd', dp', tr', z1, z2, z3, z4⟩ := (HS.out.drewN _).left (n := 27) HA.out (by decide) (by omega) (by omega) HP.out
              have z5 := up_small HS.out.ok z1.ok z3 (by omega) (by have := z1.d1; omega) (.inr ⟨9, by decide, by omega, by decide⟩)
              go_roundg ((E - 27 - e + 40).toNat)
              case rel => exact ⟨E - 27, g', nd', dp', tr', rfl, by go_num, by omega, by omega, by omega, z5, z1⟩
              case measure => omega
          · obtain rfl : dp = 0 := by omega
            by_cases h53 : g 0 < 53
            · have q5 : decide ((g 0 : Int) < 53) = true := decide_eq_true (by omega)
              have hlt := (dp_zero HS.out.ok).1 h53
              have hsm := HS.out.small HA.out hlt
              have HLT := Lib.hid hlt
              have p1 : wr.cell? (a2.add 0) = some (.int .i64 1) := prow.out 0 (by decide)
              have p2 : wr.cell? a2 = some (.int .i64 1) := by have := p1; unfold Addr.add at this; rw [if_pos rfl] at this; exact this
              have w0 : IntKind.i64.wrap 0 = 0 := rfl
              have HC : Hid (∀ (w : World) (hD : Dc w b g nd 0 tr) (hL : Lc w B a1 k1), Calls Tryz.prog 116 #[.pointer (some ⟨b, 0, none⟩), .int .i64 1] w (ShPost (dV g nd 0 * 2 ^ 1) 1 b 0 tr w)) := Lib.hid (fun (w : World) (hD : Dc w b g nd 0 tr) (hL : Lc w B a1 k1) => shift_l b g nd 1 0 tr HS.out.ok w hD (by decide) (by decide) (by decide) (by decide) hL)
              clear hlt
              go_wp2_with fail
              go_quiet (fail)
              go_wp2_with fail
              go_quiet (fail)
              go_wp2_with ((go_at_call 116; ((with_reducible refine (HC.out _ (HS.out.dc.drewN _) (HLC.out.keep (fun _ _ => rfl))).mono ?_); rintro e' w1 hp; have HP := Lib.hid hp; have he := hp.1; subst he; clear hp)))
              obtain ⟨g', nd', dp', tr', z1, z2, z3, z4⟩ := (HS.out.drewN _).left (n := 1) HA.out (by decide) (by omega) (by decide) HP.out
              have z5 := up_small HS.out.ok z1.ok z3 (by decide) (by have := z1.d1; omega) (.inl ⟨rfl, rfl, HLT.out⟩)
              go_roundg ((E - 1 - e + 40).toNat)
              case rel => exact ⟨E - 1, g', nd', dp', tr', rfl, by go_num, by omega, by omega, by omega, z5, z1⟩
              case measure => omega
            · have q5 : decide ((g 0 : Int) < 53) = false := decide_eq_false (by omega)
              have hEe := HS.out.half HA.out (by omega)
              subst hEe
              have j0 := HFI.out.c0
              have j1 := HFI.out.c1
              have j2 := HFI.out.c2
              clear p0 prow
              go_upto_if 111 with fail
              go_cut [6] from 8 (fun xv wr => xv = .int .i64 ((k : Int) - 1022) ∧ ∃ (g' : Nat → Nat) (nd' : Nat) (dp' : Int) (tr' : Bool), dp' ≤ 0 ∧ -400 ≤ dp' ∧ Hid (St A C E w b ((k : Int) - 1021) g' nd' dp' tr' wr))
              case first =>
                have hkk := hk.out
                by_cases hlow : E < -1021
                · have q6 : decide (E - 1 < -1022) = true := decide_eq_true (by omega)
                  obtain ⟨ν, hν⟩ : ∃ ν : Nat, (ν : Int) = -1021 - E := ⟨(-1021 - E).toNat, by omega⟩
                  obtain rfl : k = 0 := by omega
                  have eν : -(-1022 - (E - 1)) = -(ν : Int) := by omega
                  have HN := Lib.hid hν
                  by_cases h60 : ν ≤ 60
                  · have HC : Hid (∀ (w : World) (hD : Dc w b g nd 0 tr), Calls Tryz.prog 116 #[.pointer (some ⟨b, 0, none⟩), .int .i64 (-(-1022 - (E - 1)))] w (ShPost (dV g nd 0) (2 ^ ν) b 0 tr w)) := Lib.hid (fun (w : World) (hD : Dc w b g nd 0 tr) => by rw [eν]; exact shift_r b g nd ν 0 tr HS.out.ok w hD (by omega) h60 (by decide) (by decide))
                    clear hν eν h60 hkk
                    go_wp2_with ((go_at_call 116; ((with_reducible refine (HC.out _ HS.out.dc).mono ?_); rintro e' w1 hp; have HP := Lib.hid hp; have he := hp.1; subst he; clear hp)))
                    have hν := HN.out
                    obtain ⟨g', nd', dp', tr', z1, z2, z3, z4⟩ := HS.out.right HA.out (.inl (by omega)) (by omega) (by decide) HP.out
                    rw [show E + (ν : Int) = ((0 : Nat) : Int) - 1021 by omega] at z1
                    go_meet
                    case rel => exact ⟨by go_num, g', nd', dp', tr', by omega, by omega, z1⟩
                  · obtain ⟨κ, hκ⟩ : ∃ κ : Nat, ν = κ + 60 := ⟨ν - 60, by omega⟩
                    have HK := Lib.hid hκ
                    have HC : Hid (∀ (w : World) (hD : Dc w b g nd 0 tr), Calls Tryz.prog 116 #[.pointer (some ⟨b, 0, none⟩), .int .i64 (-(-1022 - (E - 1)))] w (ShPost2 (dV g nd 0) b κ 0 tr w)) := Lib.hid (fun (w : World) (hD : Dc w b g nd 0 tr) => by
                      rw [eν, show -(ν : Int) = -((κ : Int) + 60) by omega]; exact shift_r2 b g nd κ 0 tr HS.out.ok w hD (by omega) (by omega) (by decide) (by decide))
                    clear hν eν h60 hkk hκ
                    go_wp2_with fail
                    go_at_call 116
                    with_reducible refine (HC.out _ HS.out.dc).mono ?_
                    rintro e' w1 hp
                    have HP := Lib.hid hp
                    obtain ⟨_, _, _, _, _, _, h2⟩ := hp
                    have he := h2.1
                    subst he
                    clear h2
                    go_wp2_with fail
                    have hν := HN.out
                    have hκ := HK.out
                    obtain ⟨g', nd', dp', tr', z1, z2⟩ := HS.out.right2 HA.out (by omega) (by decide) HP.out
                    have z3 := z1.d1
                    rw [show E + 60 + (κ : Int) = ((0 : Nat) : Int) - 1021 by omega] at z1
                    go_meet
                    case rel => exact ⟨by go_num, g', nd', dp', tr', by omega, by omega, z1⟩
                · have q6 : decide (E - 1 < -1022) = false := decide_eq_false (by omega)
                  have HE6 := Lib.hid (show E - 1 = (k : Int) - 1022 by omega)
                  have HS2 : ∀ x, x = E → St A C E w b x g nd 0 tr wr := fun x hx => by rw [hx]; exact HS.out
                  have HS3 := Lib.hid (HS2 ((k : Int) - 1021) (by omega))
                  clear hkk HS2
                  go_wp2_with fail
                  go_meet
                  case rel => exact ⟨by rw [HE6.out], g, nd, 0, tr, by decide, by decide, HS3.out⟩
              case rest =>
                obtain ⟨rfl, g', nd', dp', tr', hq1, hq2, HS'⟩ := hcut
                clear c2 c9 hdn h53 q5 j0 j1 j2 HFI HLC HS
                have SE := HSE.out.grown HS'.out.gr hBb hBs
                have j0 := SE.fi.c0
                have j1 := SE.fi.c1
                have j2 := SE.fi.c2
                have HLC := Lib.hid SE.lc
                have HFI := Lib.hid SE.fi
                clear SE
                have hkb : (k : Int) ≤ 2061 := by have := hk.out; omega
                have hcap : cap = 9218868437227405312 := rfl
                by_cases hov : 2046 ≤ k
                · have HRC := Lib.hid (show R = cap by have := hR.out; have := hMk.out (by omega); omega)
                  clear hcap
                  go_wp2_with fail
                  go_quiet (fail)
                  go_wp2_with fail
                  go_step3
                  repeat rw [goto_then]
                  refine go_to1 (hK1.out _ _ ⟨g', nd', dp', tr', _, _, _, _, _, _, HRC.out, ⟨HS'.out.dc.drewN _, HFI.out.keep (fun _ _ => rfl), only_drewN HS'.out.gr _⟩, ?_, rfl⟩)
                  rfl
                · have HC : Hid (∀ (w : World) (hD : Dc w b g' nd' dp' tr') (hL : Lc w B a1 k1), Calls Tryz.prog 116 #[.pointer (some ⟨b, 0, none⟩), .int .i64 53] w (ShPost (dV g' nd' dp' * 2 ^ 53) 1 b dp' tr' w)) := Lib.hid (fun (w : World) (hD : Dc w b g' nd' dp' tr') (hL : Lc w B a1 k1) => shift_l b g' nd' 53 dp' tr' HS'.out.ok w hD (by decide) (by decide) (by omega) (by omega) hL)
                  have HCAP := Lib.hid hcap
                  clear hcap
                  go_wp2_with fail
                  go_quiet (fail)
                  go_wp2_with ((go_at_call 116; ((with_reducible refine (HC.out _ (HS'.out.dc.drewN _) (HLC.out.keep (fun _ _ => rfl))).mono ?_); rintro e' w1 hp; have HP := Lib.hid hp; have he := hp.1; subst he; clear hp)))
                  obtain ⟨g2, nd2, dp2, tr2, z1, z2, z3, z4⟩ := (HS'.out.drewN _).left (n := 53) HA.out (by decide) (by omega) (by omega) HP.out
                  have z5 := up_53 HS'.out.ok z1.ok z3 hq1 (by omega) (by have := z1.d1; omega)
                  have z6 := z1.d1
                  have HMV := z1.rounds HA.out hk.out (by omega) z4
                  rw [hM.out] at HMV
                  have HRI := rint_any b g2 nd2 dp2 tr2 z1.ok w1 z1.dc (by omega) z5
                  rw [HMV] at HRI
                  have HRI2 := Lib.hid HRI
                  have SE := HSE.out.grown z1.gr hBb hBs
                  have l0 := SE.fi.c0
                  have l1 := SE.fi.c1
                  have l2 := SE.fi.c2
                  have HFI2 := Lib.hid SE.fi
                  have HZ := Lib.hid z1
                  clear z1 z2 z3 z4 HMV HRI SE j0 j1 j2 HLC HFI HP HC HS'
                  go_at_call 187
                  with_reducible refine (HRI2.out).mono ?_
                  rintro e' w2 ⟨rfl, rfl⟩
                  clear HRI2
                  have w3 := hM3.out
                  have w4 := hMk.out
                  have w5 := hR.out
                  have w6 := HCAP.out
                  rw [w6] at w5
                  by_cases hlo : M < 4503599627370496
                  · obtain rfl : k = 0 := by omega
                    have HRR : Hid (M % 4503599627370496 + 0 * 4503599627370496 = R) := Lib.hid (by rw [Nat.mod_eq_of_lt hlo, w5]; omega)
                    have jb : bits .and .u64 (M : Int) 4503599627370496 = 0 := by
                      have := fb_bit M (by omega)
                      rw [Nat.div_eq_of_lt hlo] at this
                      exact this
                    have qm : ((M : Int) == 9007199254740992) = false := beq_eq_false_iff_ne.2 (by omega)
                    have HML := Lib.hid hlo
                    clear w3 w4 w5 w6 hlo
                    go_wp2_with fail
                    go_step3
                    repeat rw [goto_then]
                    refine go_to0 (hK0.out _ _ ⟨M, 0, false, g2, nd2, dp2, tr2, _, _, _, _, _, _, ⟨by have := HML.out; omega, by decide, HRR.out, fun h => (by cases h), rfl, rfl⟩, ⟨HZ.out.dc, HFI2.out, HZ.out.gr⟩, ?_, rfl⟩)
                    rfl
                  · by_cases hhi : M = 9007199254740992
                    · have HRR : Hid (0 + (k + 2) * 4503599627370496 = R ∨ (2045 ≤ k ∧ R = 9218868437227405312)) := Lib.hid (fb_c1 k M R hhi w5)
                      have jb : bits .and .u64 4503599627370496 4503599627370496 = 4503599627370496 := by decide +kernel
                      have qm : ((M : Int) == 9007199254740992) = true := beq_iff_eq.2 (by omega)
                      have hsh : (M : Int) / 2 = 4503599627370496 := by omega
                      have HNC := Lib.hid (show cap = 9218868437227405312 from rfl)
                      clear w3 w4 w5 w6 hlo hhi
                      by_cases h45 : 2045 ≤ k
                      · go_wp2_with fail
                        go_quiet (fail)
                        go_wp2_with fail
                        go_step3
                        repeat rw [goto_then]
                        refine go_to1 (hK1.out _ _ ⟨g2, nd2, dp2, tr2, _, _, _, _, _, _, by have := HRR.out; have := HNC.out; omega, ⟨HZ.out.dc.drewN _, HFI2.out.keep (fun _ _ => rfl), only_drewN HZ.out.gr _⟩, ?_, rfl⟩)
                        rfl
                      · go_wp2_with fail
                        go_quiet (fail)
                        go_wp2_with fail
                        go_step3
                        repeat rw [goto_then]
                        refine go_to0 (hK0.out _ _ ⟨4503599627370496, k + 2, false, g2, nd2, dp2, tr2, _, _, _, _, _, _, ⟨by decide, by omega, by have := HRR.out; omega, fun h => (by cases h), by omega, rfl⟩, ⟨HZ.out.dc.drewN _, HFI2.out.keep (fun _ _ => rfl), only_drewN HZ.out.gr _⟩, ?_, rfl⟩)
                        rfl
                    · have HRR : Hid (M % 4503599627370496 + (k + 1) * 4503599627370496 = R) := Lib.hid (fb_c2 k M R hlo w3 hhi hov w5)
                      have jb : bits .and .u64 (M : Int) 4503599627370496 = 4503599627370496 := by
                        have := fb_bit M (by omega)
                        rw [show M / 4503599627370496 = 1 by omega] at this
                        exact this
                      have qm : ((M : Int) == 9007199254740992) = false := beq_eq_false_iff_ne.2 (by omega)
                      have HML := Lib.hid w3
                      clear w3 w4 w5 w6 hlo hhi
                      go_wp2_with fail
                      go_step3
                      repeat rw [goto_then]
                      refine go_to0 (hK0.out _ _ ⟨M, k + 1, false, g2, nd2, dp2, tr2, _, _, _, _, _, _, ⟨by have := HML.out; omega, by omega, HRR.out, fun h => (by cases h), by omega, rfl⟩, ⟨HZ.out.dc, HFI2.out, HZ.out.gr⟩, ?_, rfl⟩)
                      rfl
  · rintro a w' ⟨M, F, ov, g, nd, dp, tr, X, Y, u2, u3, u4, T, ⟨h1, h2, h3, h4, rfl, rfl⟩, ⟨hD, hF, hG⟩, hT, rfl⟩
    obtain ⟨U, rfl⟩ := rest_of T hT
    clear hT
    unfold RestL
    have j0 := hF.c0
    have j1 := hF.c1
    have j2 := hF.c2
    have j3 := hD.neg_
    have f1 := fb_and M (by omega)
    have f2 := fb_exp F h2
    have HR := Lib.hid h3
    have HC := Lib.hid h4
    have HX : M % 4503599627370496 < 4503599627370496 := Nat.mod_lt _ (by decide)
    generalize M % 4503599627370496 = x at *
    have f3 := fb_or x F HX h2
    have f4 := fb_wrap F h2
    have HG := Lib.hid hG
    clear hD hF hG h1 h3 h4 HX
    go_wp2_with fail
    go_quiet (fail)
    go_wp2_with fail
    rw [Exit.noGoto_ret]
    refine bodyPost_ret (v := .tuple #[.int .u64 ((x : Int) + (F : Int) * 4503599627370496), .bool ov]) (by simp [results, Tryz.results177, go_sem]) rfl ⟨ov, ?_, HC.out, only_drewN HG.out _⟩
    rw [show (x : Int) + (F : Int) * 4503599627370496 = (R : Int) by have := HR.out; omega]
  · rintro a w' ⟨g, nd, dp, tr, u2, u3, u4, u6, u7, T, hR, ⟨hD, hF, hG⟩, hT, rfl⟩
    obtain ⟨U, rfl⟩ := rest_of T hT
    clear hT
    unfold RestL
    have j0 := hF.c0
    have j1 := hF.c1
    have j2 := hF.c2
    have j3 := hD.neg_
    have f1 : bits .and .u64 0 4503599627370495 = 0 := by decide +kernel
    have f2 : bits .and .i64 2047 2047 = 2047 := by decide +kernel
    have f3 : bits .or .u64 0 9218868437227405312 = 9218868437227405312 := by decide +kernel
    have HR := Lib.hid hR
    have HG := Lib.hid hG
    clear hD hF hG hR
    go_wp2_with fail
    go_quiet (fail)
    go_wp2_with fail
    go_step3
    go_wp2_with fail
    go_quiet (fail)
    go_wp2_with fail
    rw [Exit.noGoto_ret]
    refine bodyPost_ret (v := .tuple #[.int .u64 9218868437227405312, .bool true]) (by simp [results, Tryz.results177, go_sem]) rfl ⟨true, ?_, fun _ => HR.out, only_drewN HG.out _⟩
    rw [HR.out]; rfl
end Go.Proofs.YtijncfidjjfmiaaGreatDoor
