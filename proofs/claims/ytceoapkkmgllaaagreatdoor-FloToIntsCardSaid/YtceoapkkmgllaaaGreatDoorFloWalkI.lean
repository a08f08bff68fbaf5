/- A buffer of bytes that the call itself made, and what is appended to it. -/
import Derived.Test.YtceoapkkmgllaaaGreatDoorFloWalkH
import Derived.Test.YtceoapkkmgllaaaGreatDoorFloMem
namespace Go.Proofs.YtceoapkkmgllaaaGreatDoor
open Go.RowKit FloM

theorem u8_info : (Tryz.prog.info? 5).map (fun i => (i.zero, i.size, i.bytes)) = some (some (.int .u8 0), 1, 1) := by kernel_rfl

/-- The buffer holds these bytes; below B0 all is as it was in w0. -/
def Buf (B0 : Nat) (w0 W : World) (v : Value) (xs : List UInt8) : Prop := W.ownsRow B0 5 1 v xs.length (xs.map encB) ∧ Below B0 w0 W ∧ B0 ≤ W.heap.size

theorem Buf.more {B0 : Nat} {w0 W w' : World} {v v' : Value} {xs bs : List UInt8} {o : Obj} (hb : Below B0 w0 W) (hB : B0 ≤ W.heap.size)
    (hown : W.ownsRow B0 5 1 v xs.length (xs.map encB))
    (hown' : w'.ownsRow B0 5 1 v' (xs.length + bs.length) (xs.map encB ++ bs.map encB)) (hg : (W.alloc o).grownBy w' v.ownBlock) : Buf B0 w0 w' v' (xs ++ bs) := by
  refine ⟨by rw [List.length_append, List.map_append]; exact hown', ?_, Nat.le_trans (by simp; omega) hg.size⟩
  refine (hb.alloc hB o).grown hg (by simp; omega) (fun k hk => ?_)
  rcases hown.2 with ⟨rfl, _⟩ | ⟨g, cap, cur, rfl, hge, _⟩
  · simp [Value.ownBlock] at hk
  · have : g = k := by simpa [Value.ownBlock] using hk
    omega

/-- append of bytes that stand in a new block. -/
theorem Buf.step {B0 : Nat} {w0 W : World} {v : Value} {xs : List UInt8} (h : Buf B0 w0 W v xs) {B : Nat} {t : TypeId} {cs : Array Value} (hB : Blk W B t cs) (ht : 5 ≠ t)
    (vs : List Value) (bs : List UInt8) (hv : vs = bs.map encB) (hlen : xs.length + bs.length ≤ 4096) {ops : Array Oper} {rest : List Oper} {a : Act} {Q : Exit → Act → World → Prop} {dst : Option Tmp} {s x : Operand} {ty : TypeId} {ps : String} {af : Array Edge}
   
    (hs : a.eval s = v) (hx : a.eval x = .slice (some ⟨W.heap.size, 0, none⟩) bs.length bs.length)
    (k : ∀ v' w', Buf B0 w0 w' v' (xs ++ bs) → Blk w' B t cs → wpList Tryz.prog ops Q rest (a.put dst v') w') : wpList Tryz.prog ops Q ({ dst := dst, op := .call { callee := .builtin .append, args := #[s, x], argTypes := #[92, 92] }, type := ty, pos := ps, after := af, guard := none } :: rest) a (W.alloc (.cells vs.toArray 5)) := by
  obtain ⟨i0, hi0, hz0, hz1, hz2⟩ := info_parts u8_info
  obtain ⟨hown, hb, hBs⟩ := h
  subst hv
  have hr : Reads (W.alloc (.cells (bs.map encB).toArray 5)) (W.heap.size + 1) 1 (some ⟨W.heap.size, 0, none⟩) bs.length (bs.map encB) := by
    refine ⟨by simp, fun _ => ⟨_, rfl, by simp, fun j u hu => ?_⟩⟩
    have hbk := Blk.new W 5 (bs.map encB).toArray
    have hadd : (⟨W.heap.size, 0, none⟩ : Addr).add j = ⟨W.heap.size, j, none⟩ := by
      unfold Addr.add; split <;> simp_all
    rw [hadd, hbk.cell j]
    simpa using hu
  refine wpList_append_any (W.alloc (.cells (bs.map encB).toArray 5)) rfl s x 92 rfl B0 5 i0 _ 1 1 Tryz.underlying92 hi0 hz0 hz1 hz2 rfl (by omega) v xs.length (xs.map encB) hs
    (hown.alloc _) _ _ bs.length _ (bs.map encB) hx hr (fun u hu => ?_) (by simp only [maxLen]; omega) (by omega) (by simp; omega) (fun v' w' hown' hg _ => ?_)
  · obtain ⟨b, _, rfl⟩ := List.mem_map.1 hu; rfl
  · refine k v' w' (Buf.more hb hBs hown hown' hg) ((hB.alloc _).grown hg ?_)
    intro he
    exact own_blk_ne hown hB ht he.symm

/-- append of a part of another block. -/
theorem Buf.stepOf {B0 : Nat} {w0 W : World} {v : Value} {xs : List UInt8} (h : Buf B0 w0 W v xs) {B : Nat} {t : TypeId} {cs : Array Value} (hB : Blk W B t cs) (ht : 5 ≠ t)
    (off cap : Nat) (bs : List UInt8) (hbs : ∀ j u, bs[j]? = some u → cs[off + j]? = some (encB u)) (hlen : xs.length + bs.length ≤ 4096) {ops : Array Oper} {rest : List Oper} {a : Act} {Q : Exit → Act → World → Prop} {dst : Option Tmp} {s x : Operand} {ty : TypeId} {ps : String} {af : Array Edge}
   
    (hs : a.eval s = v) (hx : a.eval x = .slice (some ⟨B, off, none⟩) bs.length cap)
    (k : ∀ v' w', Buf B0 w0 w' v' (xs ++ bs) → Blk w' B t cs → wpList Tryz.prog ops Q rest (a.put dst v') w') : wpList Tryz.prog ops Q ({ dst := dst, op := .call { callee := .builtin .append, args := #[s, x], argTypes := #[92, 92] }, type := ty, pos := ps, after := af, guard := none } :: rest) a W := by
  obtain ⟨i0, hi0, hz0, hz1, hz2⟩ := info_parts u8_info
  obtain ⟨hown, hb, hBs⟩ := h
  have hr : Reads W W.heap.size 1 (some ⟨B, off, none⟩) bs.length (bs.map encB) := by
    refine ⟨by simp, fun _ => ⟨_, rfl, hB.lt, fun j u hu => ?_⟩⟩
    have hadd : (⟨B, off, none⟩ : Addr).add j = ⟨B, off + j, none⟩ := by
      unfold Addr.add
      split
      · next h => rw [h, Nat.add_zero]
      · rfl
    rw [hadd, hB.cell]
    rw [List.getElem?_map] at hu
    rcases hj : bs[j]? with _ | b
    · rw [hj] at hu; cases hu
    · rw [hj, Option.map_some] at hu
      rw [← hu]
      exact hbs j b hj
  refine wpList_append_any W rfl s x 92 rfl B0 5 i0 _ 1 1 Tryz.underlying92 hi0 hz0 hz1 hz2 rfl (by omega) v xs.length (xs.map encB) hs
    hown _ _ bs.length _ (bs.map encB) hx hr (fun u hu => ?_) (by simp only [maxLen]; omega) (by omega) hBs (fun v' w' hown' hg _ => ?_)
  · obtain ⟨b, _, rfl⟩ := List.mem_map.1 hu; rfl
  · refine k v' w' ⟨by rw [List.length_append, List.map_append]; exact hown', hb.grown hg hBs (fun k hk => ?_), Nat.le_trans hBs hg.size⟩ (hB.grown hg ?_)
    · rcases hown.2 with ⟨rfl, _⟩ | ⟨g, cap, cur, rfl, hge, _⟩
      · simp [Value.ownBlock] at hk
      · have : g = k := by simpa [Value.ownBlock] using hk
        omega
    · intro he
      exact own_blk_ne hown hB ht he.symm

end Go.Proofs.YtceoapkkmgllaaaGreatDoor
