/- Lambda: the table of primitives: what api.Prims hands back. -/
import Derived.Test.YtjhdlnllhjffkaaGreatDoorCloMc
import Derived.Test.YtjhdlnllhjffkaaGreatDoorCloMa
namespace LamM
/-- A primitive: its name, whose type's it is, how many arguments it has, what it raises. -/
structure Pr where
  nm : List UInt8
  con : Int
  args : Int
  raises : List Int
def recTab (con : Int) (r : List Int) : List Pr := [⟨[43], con, 2, r⟩, ⟨[45], con, 2, r⟩, ⟨[42], con, 2, r⟩, ⟨[126], con, 1, r⟩, ⟨[97, 98, 115], con, 1, r⟩, ⟨[60], con, 2, []⟩, ⟨[60, 61], con, 2, []⟩, ⟨[62], con, 2, []⟩, ⟨[62, 61], con, 2, []⟩]
def ordTab (con : Int) : List Pr := [⟨[60], con, 2, []⟩, ⟨[60, 61], con, 2, []⟩, ⟨[62], con, 2, []⟩, ⟨[62, 61], con, 2, []⟩]
def restTab : List Pr := [⟨[100, 105, 118], -1, 2, [3, 6]⟩,
  ⟨[109, 111, 100], -1, 2, [3]⟩,
  ⟨[113, 117, 111, 116], -1, 2, [3, 6]⟩,
  ⟨[114, 101, 109], -1, 2, [3]⟩,
  ⟨[47], -1, 2, []⟩,
  ⟨[102, 108, 111, 111, 114], -1, 1, [4, 6]⟩,
  ⟨[99, 101, 105, 108], -1, 1, [4, 6]⟩,
  ⟨[116, 114, 117, 110, 99], -1, 1, [4, 6]⟩,
  ⟨[114, 111, 117, 110, 100], -1, 1, [4, 6]⟩,
  ⟨[114, 101, 97, 108], -1, 1, []⟩,
  ⟨[115, 97, 109, 101], -1, 2, []⟩,
  ⟨[105, 115, 78, 97, 110], -1, 1, []⟩,
  ⟨[114, 101, 97, 108, 84, 101, 120, 116], -1, 1, []⟩,
  ⟨[105, 110, 116, 84, 101, 120, 116], -1, 1, []⟩,
  ⟨[105, 110, 116, 83, 99, 97, 110], -1, 1, [6]⟩,
  ⟨[114, 101, 97, 108, 83, 99, 97, 110], -1, 1, []⟩,
  ⟨[111, 114, 100], -1, 1, []⟩,
  ⟨[99, 104, 114], -1, 1, [2]⟩,
  ⟨[94], -1, 2, [7]⟩,
  ⟨[115, 105, 122, 101], -1, 1, []⟩,
  ⟨[115, 117, 98], -1, 2, [8]⟩,
  ⟨[115, 117, 98, 115, 116, 114, 105, 110, 103], -1, 3, [8]⟩,
  ⟨[115, 116, 114], -1, 1, []⟩,
  ⟨[61], -1, 2, []⟩,
  ⟨[60, 62], -1, 2, []⟩,
  ⟨[114, 101, 102], -1, 1, []⟩,
  ⟨[33], -1, 1, []⟩,
  ⟨[58, 61], -1, 2, []⟩,
  ⟨[97, 114, 114, 97, 121], -1, 2, [7]⟩,
  ⟨[108, 101, 110, 103, 116, 104], -1, 1, []⟩,
  ⟨[103, 101, 116], -1, 2, [8]⟩,
  ⟨[115, 101, 116], -1, 3, [8]⟩,
  ⟨[112, 114, 105, 110, 116], -1, 1, []⟩,
  ⟨[105, 110, 112, 117, 116], -1, 1, []⟩,
  ⟨[101, 120, 110], -1, 1, []⟩]
def primTab : List Pr := recTab 0 [6] ++ (recTab 1 [] ++ (ordTab 2 ++ (ordTab 3 ++ restTab)))
def prims : List Pm := primTab.map fun p => ⟨p.args, p.raises⟩
theorem prims_len : prims.length = 61 := rfl
theorem primTab_len : primTab.length = 61 := rfl
theorem small_prims : Small prims := by
  intro p hp
  obtain ⟨q, hq, rfl⟩ := List.mem_map.1 hp
  have : ∀ q ∈ primTab, (q.raises = [] ∨ q.raises = [6] ∨ q.raises = [3] ∨ q.raises = [3, 6] ∨ q.raises = [4, 6] ∨ q.raises = [2] ∨ q.raises = [7] ∨ q.raises = [8]) := by decide
  rcases this q hq with h | h | h | h | h | h | h | h <;> (rw [h]; refine ⟨by simp [SS], fun x hx => ?_⟩; simp at hx <;> omega)
end LamM
namespace Go.Proofs.YtjhdlnllhjffkaaGreatDoor
open Go.RowKit LamM

/-! ### Primitives in memory -/
def prCells (p : Pr) (ty : ByteArray) (rv : Value) : List Value := [.string ⟨p.nm.toArray⟩, .int .i64 p.con, .int .i64 p.args, .string ty, rv]
inductive PX (Q : Value → List Int → Prop) : List Value → List Pr → Prop
  | nil : PX Q [] []
  | cons {p : Pr} {ty : ByteArray} {rv : Value} {xs : List Value} {tab : List Pr} : Q rv p.raises → PX Q xs tab → PX Q (prCells p ty rv ++ xs) (p :: tab)
theorem PX.mono {Q Q' : Value → List Int → Prop} (hQ : ∀ v l, Q v l → Q' v l) : ∀ {xs : List Value} {tab : List Pr}, PX Q xs tab → PX Q' xs tab
  | _, _, .nil => .nil
  | _, _, .cons h t => .cons (hQ _ _ h) (t.mono hQ)
theorem PX.app {Q : Value → List Int → Prop} : ∀ {xs ys : List Value} {a b : List Pr}, PX Q xs a → PX Q ys b → PX Q (xs ++ ys) (a ++ b)
  | _, _, _, _, .nil, h => h
  | _, _, _, _, .cons hq t, h => by rw [List.append_assoc]; exact .cons hq (t.app h)
theorem PX.len {Q : Value → List Int → Prop} : ∀ {xs : List Value} {tab : List Pr}, PX Q xs tab → xs.length = tab.length * 5
  | _, _, .nil => rfl
  | _, _, .cons _ t => by rw [List.length_append, t.len, List.length_cons]; simp only [prCells, List.length_cons, List.length_nil]; omega
theorem PX.at_ {Q : Value → List Int → Prop} : ∀ {xs : List Value} {tab : List Pr}, PX Q xs tab → ∀ {i : Nat} {p : Pr}, tab[i]? = some p → ∃ ty rv, Q rv p.raises ∧ ∀ k, (prCells p ty rv)[k]? ≠ none → xs[i * 5 + k]? = (prCells p ty rv)[k]?
  | _, _, .nil, i, p, h => by simp at h
  | _, _, .cons (p := q) (ty := ty) (rv := rv) hq t, 0, p, h => by
    have : q = p := by simpa using h
    subst this
    refine ⟨ty, rv, hq, fun k hk => ?_⟩
    rw [Nat.zero_mul, Nat.zero_add]
    exact List.getElem?_append_left (Nat.lt_of_not_le fun h => hk (List.getElem?_eq_none h))
  | _, _, .cons hq t, i + 1, p, h => by
    obtain ⟨ty, rv, h1, h2⟩ := t.at_ (i := i) (p := p) (by simpa using h)
    refine ⟨ty, rv, h1, fun k hk => ?_⟩
    rw [← h2 k hk, List.getElem?_append_right (by show 5 ≤ _; omega)]
    congr 1
    show (i + 1) * 5 + k - 5 = _
    omega
/-- A slice of primitives. -/
def PV (w : World) (B : Nat) (v : Value) (tab : List Pr) : Prop :=
  ∃ ad xs c, v = .slice (some ad) tab.length c ∧ tab.length ≤ c ∧ c ≤ maxLen ∧ ad.block < B ∧ PX (IV w B) xs tab ∧ ∀ j u, xs[j]? = some u → w.cell? (ad.add j) = some u
theorem PV.keep {w w' : World} {B : Nat} {v : Value} {tab : List Pr} (h : PV w B v tab) (hk : ∀ p : Addr, p.block < B → w'.cell? p = w.cell? p) : PV w' B v tab := by
  obtain ⟨ad, xs, c, e, h1, h2, h3, h4, h5⟩ := h
  exact ⟨ad, xs, c, e, h1, h2, h3, h4.mono (fun v l h => h.keep hk), fun j u hu => (hk _ (by rw [block_of_add]; exact h3)).trans (h5 j u hu)⟩
theorem PV.more {w : World} {B B' : Nat} {v : Value} {tab : List Pr} (h : PV w B v tab) (hB : B ≤ B') : PV w B' v tab := by
  obtain ⟨ad, xs, c, e, h1, h2, h3, h4, h5⟩ := h
  exact ⟨ad, xs, c, e, h1, h2, Nat.lt_of_lt_of_le h3 hB, h4.mono (fun v l h => h.more hB), h5⟩
theorem PV.below {w w' : World} {v : Value} {tab : List Pr} (h : PV w w.heap.size v tab) (hb : Below w.heap.size w w') : PV w' w'.heap.size v tab :=
  (h.keep (fun _ hp => hb.cell hp)).more hb.size
theorem PV.len {w : World} {B : Nat} {v : Value} {tab : List Pr} (h : PV w B v tab) : ∃ A c, v = .slice (some A) tab.length c ∧ tab.length ≤ c ∧ c ≤ maxLen := by
  obtain ⟨ad, xs, c, e, h1, h2, _⟩ := h; exact ⟨ad, c, e, h1, h2⟩
theorem PV.at_ {w : World} {B : Nat} {ad : Addr} {n c : Nat} {tab : List Pr} (h : PV w B (.slice (some ad) n c) tab) {i : Nat} {p : Pr} (hi : tab[i]? = some p) :
    ∃ ty rv, ad.block < B ∧ IV w B rv p.raises ∧ w.cell? (ad.add (i * 5)) = some (.string ⟨p.nm.toArray⟩) ∧ w.cell? (ad.add (i * 5 + 1)) = some (.int .i64 p.con) ∧ w.cell? (ad.add (i * 5 + 2)) = some (.int .i64 p.args) ∧
      w.cell? (ad.add (i * 5 + 3)) = some (.string ty) ∧ w.cell? (ad.add (i * 5 + 4)) = some rv := by
  obtain ⟨ad', xs, c', e, h1, h2, h3, h4, h5⟩ := h
  injection e with e1 e2 e3
  injection e1 with e1
  subst e1
  obtain ⟨ty, rv, hq, hx⟩ := h4.at_ hi
  refine ⟨ty, rv, h3, hq, h5 _ _ ?_, h5 _ _ ?_, h5 _ _ ?_, h5 _ _ ?_, h5 _ _ ?_⟩
  · exact (hx 0 (by simp [prCells])).trans rfl
  · exact (hx 1 (by simp [prCells])).trans rfl
  · exact (hx 2 (by simp [prCells])).trans rfl
  · exact (hx 3 (by simp [prCells])).trans rfl
  · exact (hx 4 (by simp [prCells])).trans rfl
theorem Below.toGrown {w w' : World} (h : Below w.heap.size w w') : w.grownBy w' none := ⟨h.os, h.tape, h.output, h.size, fun k hk _ => h.block k hk⟩
theorem ownsRow_below {w w' : World} {base size n : Nat} {e : TypeId} {v : Value} {xs : List Value} (h : w.ownsRow base e size v n xs) (hb : Below w.heap.size w w') : w'.ownsRow base e size v n xs :=
  h.kept (Below.toGrown hb) (by cases v.ownBlock <;> simp)
theorem recTab_PX {Q : Value → List Int → Prop} (con : Int) (T1 T2 T3 : ByteArray) (rv : Value) (r : List Int) (h : Q rv r) (hn : Q (.slice none 0 0) []) : PX Q (recCells con T1 T2 T3 rv) (recTab con r) := by
  have e : recCells con T1 T2 T3 rv = prCells ⟨[43], con, 2, r⟩ T1 rv ++ (prCells ⟨[45], con, 2, r⟩ T1 rv ++ (prCells ⟨[42], con, 2, r⟩ T1 rv ++ (prCells ⟨[126], con, 1, r⟩ T2 rv ++ (prCells ⟨[97, 98, 115], con, 1, r⟩ T2 rv ++ (prCells ⟨[60], con, 2, []⟩ T3 (.slice none 0 0) ++ (prCells ⟨[60, 61], con, 2, []⟩ T3 (.slice none 0 0) ++ (prCells ⟨[62], con, 2, []⟩ T3 (.slice none 0 0) ++ (prCells ⟨[62, 61], con, 2, []⟩ T3 (.slice none 0 0) ++ [])))))))) := by
    unfold recCells prC prCells; simp
  rw [e]
  unfold recTab
  exact .cons h (.cons h (.cons h (.cons h (.cons h (.cons hn (.cons hn (.cons hn (.cons hn .nil))))))))
theorem infoP : (Tryz.prog.info? 70).map (fun i => (i.zero, i.size, i.bytes)) = some (some (.agg #[.string ⟨#[]⟩, .int .i64 0, .int .i64 0, .string ⟨#[]⟩, .slice none 0 0]), 5, 72) := by kernel_rfl
theorem undP : Tryz.prog.underlying 37 = some (.slice 70) := by kernel_rfl
/-- What reckons hands back: a row of its own. -/
def RecPost (con : Int) (rv : Value) (w : World) (e : Ending) (w' : World) : Prop :=
  ∃ T1 T2 T3, e = .returned (.slice (some ⟨w.heap.size, 0, none⟩) 9 9) ∧ w'.ownsRow w.heap.size 70 5 (.slice (some ⟨w.heap.size, 0, none⟩) 9 9) 9 (recCells con T1 T2 T3 rv) ∧ Below w.heap.size w w' ∧ w'.heap.size = w.heap.size + 1
theorem recs_any (con : Int) (T : ByteArray) (ra : Option Addr) (rn rc : Nat) (w : World) (hT : T.size ≤ 100) :
    Calls Tryz.prog 26 #[.int .i64 con, .string T, .slice ra rn rc] w (RecPost con (.slice ra rn rc) w) := by
  refine (reckons_any con T ra rn rc w hT).mono ?_
  rintro e w' ⟨T1, T2, T3, rfl, rfl⟩
  refine ⟨T1, T2, T3, rfl, ?_, (Below.refl _ _).alloc (Nat.le_refl _) _, by simp⟩
  have h := World.ownsRow_lit (base := w.heap.size) (e := 70) (size := 5) w (recCells con T1 T2 T3 (.slice ra rn rc)).toArray 9 (Nat.le_refl _) (by unfold maxLen; omega) rfl
  exact h

end Go.Proofs.YtjhdlnllhjffkaaGreatDoor
