/- What the library's tables and variables hold, kept from world to world; ftoa64's small callees. -/
import Derived.Test.YtijncfidjjfmiaaGreatDoorFloWalkJ
import Derived.Test.YtijncfidjjfmiaaGreatDoorFloWalkG
import Derived.WalkSmall
import Derived.Lib.LaidTab
namespace Go.Proofs.YtijncfidjjfmiaaGreatDoor
open Go.RowKit FloM

structure Env (w : World) : Prop where
  pow : PowTab w
  tab : Lib.TabIs Tryz.prog w "internal/strconv.uint64pow10" .u64 Lib.pow10Tab
  mxl : ∃ m, w.cell? ⟨2, 0, none⟩ = some (.int .i64 m)
  big : 17 ≤ w.heap.size

theorem gTab : Tryz.prog.globalNamed "internal/strconv.uint64pow10" = some 7 := by kernel_rfl

theorem Env.below {w w' : World} {B : Nat} (h : Env w) (hb : Below B w w') (hB : w.heap.size ≤ B) : Env w' := by
  have h0 := h.big
  refine ⟨h.pow.below hb hB, var?_below hb gTab (by omega) h.tab, ?_, Nat.le_trans h.big hb.size⟩
  obtain ⟨m, hm⟩ := h.mxl
  exact ⟨m, (hb.cell (p := ⟨2, 0, none⟩) (by show 2 < B; omega)).trans hm⟩

theorem Env.drewN {w : World} (h : Env w) (n : Nat) : Env (w.drewN n) := h.below (below_drewN (Below.refl _ _) n) (Nat.le_refl _)
theorem Env.alloc {w : World} (h : Env w) (o : Obj) : Env (w.alloc o) := h.below ((Below.refl _ _).alloc (Nat.le_refl _) o) (Nat.le_refl _)

theorem len64_any (x : Nat) (n : Nat) (w : World) (h1 : x < 18446744073709551616) (hn : Lib.bitLen x = n) :
    Calls Tryz.prog 109 #[.int .u64 x] w fun e w' => e = .returned (.int .i64 (n : Int)) ∧ w = w' :=
  (Tryz.bits_Len64 x w (by omega) (by omega)).mono fun _ _ ⟨h, h2⟩ => ⟨by rw [h, Int.toNat_natCast, hn], h2.symm⟩

theorem numDigits_any (u : Nat) (w : World) (h1 : 1 ≤ u) (h2 : u < 18446744073709551616) (he : Env w) :
    Calls Tryz.prog 112 #[.int .u64 u] w fun e w' => e = .returned (.int .i64 (Lib.nDigits u : Nat)) ∧ w = w' :=
  (Tryz.internal_strconv_numDigits u h1 h2 w he.tab).mono fun _ _ ⟨h, h2⟩ => ⟨h, h2.symm⟩

@[go_sem] theorem extBits2 (u : Nat) (w : World) : (callFunc 105 #[.float .f64 u]).run Tryz.prog w = .ok (.value (.int .u64 (u : Int))) w := by
  rw [run_callFunc_extern (e := Extern.MathFloatBits.float64bits) Tryz.func105 (by kernel_rfl) (by kernel_rfl) (by kernel_rfl) (by kernel_rfl)]; rfl

theorem Buf.below {B0 : Nat} {w0 W W' : World} {v : Value} {xs : List UInt8} (h : Buf B0 w0 W v xs) (hb : Below W.heap.size W W') : Buf B0 w0 W' v xs := by
  obtain ⟨h1, h2, h3⟩ := h
  refine ⟨?_, h2.trans (hb.mono h3), Nat.le_trans h3 hb.size⟩
  rcases ho : v.ownBlock with _ | g
  · exact h1.kept (only_of_below hb none) (.inl ho)
  · exact h1.kept (only_of_below hb none) (.inr (by rw [ho]; exact fun h => by cases h))

theorem Buf.drewN {B0 : Nat} {w0 W : World} {v : Value} {xs : List UInt8} (h : Buf B0 w0 W v xs) (n : Nat) : Buf B0 w0 (W.drewN n) v xs := h.below (below_drewN (Below.refl _ _) n)

theorem Buf.other {B0 : Nat} {w0 W W' : World} {v : Value} {xs : List UInt8} (h : Buf B0 w0 W v xs) {B : Nat} {t : TypeId} {cs : Array Value} (hB : Blk W B t cs) (ht : 5 ≠ t) (hB0 : B0 ≤ B)
    (hg : W.grownBy W' (some B)) : Buf B0 w0 W' v xs := by
  obtain ⟨h1, h2, h3⟩ := h
  refine ⟨h1.kept hg (.inr (own_blk_ne h1 hB ht)), h2.grown hg h3 (fun k hk => by injection hk with hk; omega), Nat.le_trans h3 hg.size⟩

set_option maxRecDepth 100000 in
/-- fmtEFG at 'e', the shortest: every number of digits, every exponent. -/
theorem efg_all (B0 : Nat) (w0 w : World) (v : Value) (B : Nat) (t : TypeId) (cs : Array Value) (dp : Int) (c : UInt8) (T : List UInt8) (x y : Int)
    (hbuf : Buf B0 w0 w v []) (hB : Blk w B t cs) (ht : 5 ≠ t) (hT : T.length ≤ 20) (hc : cs[0]? = some (encB c)) (hcs : ∀ (j : Nat) (u : UInt8), T[j]? = some u → cs[1 + j]? = some (encB u))
    (hdp : -900 ≤ dp ∧ dp ≤ 900) (hx : x = (T.length : Int) + 1) (hy : y = (T.length : Int)) :
    Calls Tryz.prog 108 #[v, .bool false, .slice (some ⟨B, 0, none⟩) 32 32, .int .i64 dp, .int .i64 x, .int .i64 y, .int .u8 101, .bool true] w (EPost B0 w0 (eText c T (decide (dp - 1 < 0)) (dp - 1).natAbs)) := by
  obtain ⟨ex, hex⟩ : ∃ ex : Nat, ex = (dp - 1).natAbs := ⟨_, rfl⟩
  rw [← hex]
  have h3 : ex < 10 ∨ (10 ≤ ex ∧ ex < 100) ∨ (100 ≤ ex ∧ ex < 1000) := by omega
  rcases T with _ | ⟨c1, T'⟩
  · obtain rfl : x = 1 := by rw [hx]; rfl
    obtain rfl : y = 0 := by rw [hy]; rfl
    by_cases hs : dp - 1 < 0
    · rw [decide_eq_true hs]
      have hd : (ex : Int) = -(dp - 1) := by omega
      rcases h3 with h | h | h
      · exact efg_one_neg_1 B0 w0 w v B t cs dp c ex hbuf hB ht hc hd (by omega) h
      · exact efg_one_neg_2 B0 w0 w v B t cs dp c ex hbuf hB ht hc hd (by omega) h
      · exact efg_one_neg_3 B0 w0 w v B t cs dp c ex hbuf hB ht hc hd (by omega) h
    · rw [decide_eq_false hs]
      have hd : (ex : Int) = dp - 1 := by omega
      rcases h3 with h | h | h
      · exact efg_one_pos_1 B0 w0 w v B t cs dp c ex hbuf hB ht hc hd (by omega) h
      · exact efg_one_pos_2 B0 w0 w v B t cs dp c ex hbuf hB ht hc hd (by omega) h
      · exact efg_one_pos_3 B0 w0 w v B t cs dp c ex hbuf hB ht hc hd (by omega) h
  · have hl : (c1 :: T').length = T'.length + 1 := rfl
    have hl2 : T'.length ≤ 20 := by rw [hl] at hT; omega
    obtain rfl : x = ((T'.length + 2 : Nat) : Int) := by rw [hx, hl]; omega
    obtain rfl : y = ((T'.length + 1 : Nat) : Int) := by rw [hy, hl]
    by_cases hs : dp - 1 < 0
    · rw [decide_eq_true hs]
      have hd : (ex : Int) = -(dp - 1) := by omega
      rcases h3 with h | h | h
      · exact efg_two_neg_1 B0 w0 w v B t cs dp _ c _ ex hbuf hB ht hl hl2 hcs hc hd (by omega) h
      · exact efg_two_neg_2 B0 w0 w v B t cs dp _ c _ ex hbuf hB ht hl hl2 hcs hc hd (by omega) h
      · exact efg_two_neg_3 B0 w0 w v B t cs dp _ c _ ex hbuf hB ht hl hl2 hcs hc hd (by omega) h
    · rw [decide_eq_false hs]
      have hd : (ex : Int) = dp - 1 := by omega
      rcases h3 with h | h | h
      · exact efg_two_pos_1 B0 w0 w v B t cs dp _ c _ ex hbuf hB ht hl hl2 hcs hc hd (by omega) h
      · exact efg_two_pos_2 B0 w0 w v B t cs dp _ c _ ex hbuf hB ht hl hl2 hcs hc hd (by omega) h
      · exact efg_two_pos_3 B0 w0 w v B t cs dp _ c _ ex hbuf hB ht hl hl2 hcs hc hd (by omega) h

/-- The digits end at the last that is no nought. -/
theorem stripZ_prefix (l : List UInt8) : ∃ k, stripZ l = l.take k ∧ k = (stripZ l).length := by
  have : stripZ l <+: l := by
    unfold stripZ
    have h := List.dropWhile_suffix (· == 48) (l := l.reverse)
    have h2 := List.reverse_prefix.2 h
    rwa [List.reverse_reverse] at h2
  exact ⟨(stripZ l).length, (List.prefix_iff_eq_take.1 this), rfl⟩

/-- What is asked of the shortest digits: one at least, no more than 64 bits; a modest power. -/
def Good (q : Nat × Int) : Prop := 1 ≤ q.1 ∧ q.1 < 18446744073709551616 ∧ -400 ≤ q.2 ∧ q.2 ≤ 400 ∧ stripZ (Lib.decDigits q.1) ≠ []

/-- The text of FormatFloat(x, 'e', -1, 64), of a positive finite real. -/
def eOfQ (q : Nat × Int) : List UInt8 :=
  match stripZ (Lib.decDigits q.1) with
  | [] => []
  | c :: T => eText c T (decide ((Lib.nDigits q.1 : Int) + q.2 - 1 < 0)) ((Lib.nDigits q.1 : Int) + q.2 - 1).natAbs

end Go.Proofs.YtijncfidjjfmiaaGreatDoor
