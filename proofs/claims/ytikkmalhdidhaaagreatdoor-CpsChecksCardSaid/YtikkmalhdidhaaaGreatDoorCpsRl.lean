/- Cps: Run of the two programs that the law runs. -/
import Derived.Test.YtikkmalhdidhaaaGreatDoorCpsRu
namespace Go.Proofs.YtikkmalhdidhaaaGreatDoor
open Go.RowKit LamM CpsM Go.Maps

theorem keepM {w w' : World} {M B : Nat} (ho : Only [M] w w') (hB : B ≤ w.heap.size) (hM : B ≤ M) : ∀ p : Addr, p.block < B → w'.cell? p = w.cell? p :=
  fun p hp => World.cell?_of_block (ho.block p.block (by omega) (by simp; omega))
/-- The looping program's shape before its step k. -/
def ShL (ad : Addr) (nc : Nat) (R M k : Nat) (w : World) : Prop :=
  (k = 0 ∧ Blk w R 88 (RQ M (.slice (some ad) loopL.length nc) 6 (.pointer none) false 0)) ∨
  (∃ b f, Blk w b 189 #[.int .i64 1, fnV f, .pointer none] ∧ Blk w f 196 #[.int .i64 3, .pointer (some ⟨b, 0, none⟩)] ∧
    ((k = 1 ∧ Blk w R 88 (RQ M (.slice (some ad) loopL.length nc) 5 (.pointer (some ⟨b, 0, none⟩)) false 0)) ∨
      (∃ b2, Blk w b2 189 #[.int .i64 2, .iface 190 (.int .i64 0), .pointer (some ⟨b, 0, none⟩)] ∧ Blk w R 88 (RQ M (.slice (some ad) loopL.length nc) 2 (.pointer (some ⟨b2, 0, none⟩)) false 0))))
def nd0 : Fl := ⟨1, 1, 0, 0, 0, [], [], [], []⟩
def nd1 : Fl := ⟨1, 2, 0, 0, 0, [], [], [], []⟩
def nd2 : Fl := ⟨11, 0, 0, 0, 0, [], [], [], [0, 1]⟩
def nd3 : Fl := ⟨10, 0, 0, 0, 0, [], [2], [], [2]⟩
def nd4 : Fl := ⟨2, 0, 0, 0, 0, [], [], [], []⟩
def nd5 : Fl := ⟨11, 0, 0, 0, 0, [], [], [], [0, 4]⟩
def nd6 : Fl := ⟨9, 0, 0, 0, 0, [], [1], [], [3, 5]⟩
set_option maxRecDepth 100000 in
theorem step_loop (w : World) (ad : Addr) (nc : Nat) (R M k : Nat) (w' : World) (dv : Value) (hS : ShL ad nc R M k w') (hN : NF w' w.heap.size (.slice (some ad) loopL.length nc) loopL) (hBR : w.heap.size ≤ R) (hBM : w.heap.size ≤ M) (hM : Blk w' M 117 (MC (.slice none 0 0) (k : Int) 100 dv)) :
    StepC w loopL ad nc (fun st steps => st = 3 ∧ steps = 100) (ShL ad nc) R M k w' := by
  have hML := hM.lt
  have hB : w.heap.size ≤ w'.heap.size := by omega
  unfold StepC
  rcases hS with ⟨rfl, hR⟩ | ⟨b, f, hb, hf, ⟨rfl, hR⟩ | ⟨b2, hb2, hR⟩⟩
  · refine ⟨6, .pointer none, .inr ⟨hR, fun _ => ⟨rfl, rfl⟩, nd6, rfl, fun VA KA AA vc kc ac hF w'' ho => ?_⟩⟩
    have hkp := keepM ho hB hBM
    have hFk := hF.keep hkp
    have hne := hM.ne_ hR (by decide)
    refine (move_fix nd6 rfl 1 3 5 VA KA AA _ vc kc ac R M w.heap.size _ 6 0 none false w'' hFk.v hFk.a hBR (hR.only ho (by simp; omega))).mono ?_
    rintro e w3 ⟨he, b, f, _, _, _, _, _, q1, q2, q3, q4⟩
    exact ⟨he, .inr ⟨b, f, q2, q3, .inl ⟨rfl, q1⟩⟩, q4⟩
  · refine ⟨5, .pointer (some ⟨b, 0, none⟩), .inr ⟨hR, fun _ => ⟨rfl, rfl⟩, nd5, rfl, fun VA KA AA vc kc ac hF w'' ho => ?_⟩⟩
    have hkp := keepM ho hB hBM
    have hFk := hF.keep hkp
    have hNk := hN.keep hkp
    have hne := hM.ne_ hR (by decide)
    have hnb := hM.ne_ hb (by decide)
    have hnf := hM.ne_ hf (by decide)
    have hR' := hR.only ho (by simp; omega)
    have hb' := hb.only ho (by simp; omega)
    have hf' := hf.only ho (by simp; omega)
    have hRf := hR.ne_ hf (by decide)
    have hRb := hR.ne_ hb (by decide)
    have hsz := ho.size
    refine (move_call loopL nd5 nd3 rfl 3 0 4 2 2 (.int .i64 0) 190 VA KA AA _ _ vc kc ac R M w.heap.size f ad nc 5 0 _ (some ⟨b, 0, none⟩) false w'' rfl rfl rfl hFk.a hNk hBR hR' hf' (by omega)
      (fun w4 h4 => atom_one loopL nd0 0 R M ad nc 5 0 _ false w4 rfl rfl b _ none rfl (hb'.only h4 (by simp)) ((hNk.keep (fun p hp => World.cell?_of_block (h4.block p.block (by omega) (by simp)))).more (by have := h4.size; omega)) (hR'.only h4 (by simp)))
      (fun w4 h4 => atom_int loopL nd4 4 R M ad nc 5 0 _ false w4 rfl rfl ((hNk.keep (fun p hp => World.cell?_of_block (h4.block p.block (by omega) (by simp)))).more (by have := h4.size; omega)) (hR'.only h4 (by simp)))).mono ?_
    rintro e w3 ⟨he, b3, q0, _, q1, q2, q3⟩
    exact ⟨he, .inr ⟨b, f, hb'.only q3 (by simp; omega), hf'.only q3 (by simp; omega), .inr ⟨b3, q2, q1⟩⟩, q3⟩
  · refine ⟨2, .pointer (some ⟨b2, 0, none⟩), .inr ⟨hR, fun _ => ⟨rfl, rfl⟩, nd2, rfl, fun VA KA AA vc kc ac hF w'' ho => ?_⟩⟩
    have hkp := keepM ho hB hBM
    have hFk := hF.keep hkp
    have hNk := hN.keep hkp
    have hne := hM.ne_ hR (by decide)
    have hnb := hM.ne_ hb (by decide)
    have hnb2 := hM.ne_ hb2 (by decide)
    have hnf := hM.ne_ hf (by decide)
    have hR' := hR.only ho (by simp; omega)
    have hb' := hb.only ho (by simp; omega)
    have hb2' := hb2.only ho (by simp; omega)
    have hf' := hf.only ho (by simp; omega)
    have hRf := hR.ne_ hf (by decide)
    have hRb := hR.ne_ hb (by decide)
    have hRb2 := hR.ne_ hb2 (by decide)
    have hsz := ho.size
    refine (move_call loopL nd2 nd3 rfl 3 0 1 2 2 (.int .i64 0) 190 VA KA AA _ _ vc kc ac R M w.heap.size f ad nc 2 0 _ (some ⟨b, 0, none⟩) false w'' rfl rfl rfl hFk.a hNk hBR hR' hf' (by omega)
      (fun w4 h4 => atom_two loopL nd0 0 R M ad nc 2 0 _ false w4 rfl rfl b2 b 2 _ _ none (by decide) rfl (hb2'.only h4 (by simp)) (hb'.only h4 (by simp)) ((hNk.keep (fun p hp => World.cell?_of_block (h4.block p.block (by omega) (by simp)))).more (by have := h4.size; omega)) (hR'.only h4 (by simp)))
      (fun w4 h4 => atom_one loopL nd1 1 R M ad nc 2 0 _ false w4 rfl rfl b2 _ _ rfl (hb2'.only h4 (by simp)) ((hNk.keep (fun p hp => World.cell?_of_block (h4.block p.block (by omega) (by simp)))).more (by have := h4.size; omega)) (hR'.only h4 (by simp)))).mono ?_
    rintro e w3 ⟨he, b3, q0, _, q1, q2, q3⟩
    exact ⟨he, .inr ⟨b, f, hb'.only q3 (by simp; omega), hf'.only q3 (by simp; omega), .inr ⟨b3, q2, q1⟩⟩, q3⟩
theorem run_loop (ad : Addr) (nc : Nat) (w : World) (hN : NF w w.heap.size (.slice (some ad) loopL.length nc) loopL) :
    Calls Tryz.prog 28 #[.agg #[.slice (some ad) loopL.length nc, .int .i64 6], .slice none 0 0, .int .i64 100] w fun e w' => e = .returned (.tuple #[.agg #[.slice none 0 0, .int .i64 3, .string ⟨#[]⟩, .int .i64 100], .int .i64 0]) ∧ Below w.heap.size w w' := by
  refine (crun_any loopL 6 ad nc w (fun st steps => st = 3 ∧ steps = 100) (ShL ad nc) check_loop (by decide) hN (fun R M w' h _ => .inl ⟨rfl, h⟩) (fun R M k w' dv => step_loop w ad nc R M k w' dv)).mono ?_
  rintro e w' ⟨st, steps, rfl, ⟨rfl, rfl⟩, hb⟩
  exact ⟨rfl, hb⟩

/-- The other program's shape. -/
def ShC (ad : Addr) (nc : Nat) (R M k : Nat) (w : World) : Prop :=
  (k = 0 ∧ Blk w R 88 (RQ M (.slice (some ad) convL.length nc) 5 (.pointer none) false 0)) ∨
  (k = 1 ∧ ∃ b, Blk w R 88 (RQ M (.slice (some ad) convL.length nc) 4 (.pointer (some ⟨b, 0, none⟩)) false 0)) ∨
  (∃ b, Blk w R 88 (RQ M (.slice (some ad) convL.length nc) 4 (.pointer (some ⟨b, 0, none⟩)) true 1))
def nc4 : Fl := ⟨13, 0, 0, 0, 0, [], [], [], [3]⟩
def nc5 : Fl := ⟨9, 0, 0, 0, 0, [], [1], [], [2, 4]⟩
set_option maxRecDepth 100000 in
theorem step_conv (w : World) (ad : Addr) (nc : Nat) (R M k : Nat) (w' : World) (dv : Value) (hS : ShC ad nc R M k w') (hBR : w.heap.size ≤ R) (hBM : w.heap.size ≤ M) (hM : Blk w' M 117 (MC (.slice none 0 0) (k : Int) 100 dv)) :
    StepC w convL ad nc (fun st _ => st = 1) (ShC ad nc) R M k w' := by
  have hML := hM.lt
  have hB : w.heap.size ≤ w'.heap.size := by omega
  unfold StepC
  rcases hS with ⟨rfl, hR⟩ | ⟨rfl, b, hR⟩ | ⟨b, hR⟩
  · refine ⟨5, .pointer none, .inr ⟨hR, fun h => absurd h (by decide), nc5, rfl, fun VA KA AA vc kc ac hF w'' ho => ?_⟩⟩
    have hkp := keepM ho hB hBM
    have hFk := hF.keep hkp
    have hne := hM.ne_ hR (by decide)
    refine (move_fix nc5 rfl 1 2 4 VA KA AA _ vc kc ac R M w.heap.size _ 5 0 none false w'' hFk.v hFk.a hBR (hR.only ho (by simp; omega))).mono ?_
    rintro e w3 ⟨he, b, f, _, _, _, _, _, q1, q2, q3, q4⟩
    exact ⟨he, .inr (.inl ⟨rfl, b, q1⟩), q4⟩
  · refine ⟨4, .pointer (some ⟨b, 0, none⟩), .inr ⟨hR, fun h => absurd h (by decide), nc4, rfl, fun VA KA AA vc kc ac hF w'' ho => ?_⟩⟩
    have hne := hM.ne_ hR (by decide)
    refine (move_halt nc4 rfl VA KA AA _ _ _ vc kc ac R M _ 4 0 _ false w'' (hR.only ho (by simp; omega))).mono ?_
    rintro e w3 ⟨he, q1, q2⟩
    exact ⟨he, .inr (.inr ⟨b, q1⟩), q2⟩
  · exact ⟨4, .pointer (some ⟨b, 0, none⟩), .inl ⟨hR, rfl⟩⟩
theorem run_conv (ad : Addr) (nc : Nat) (w : World) (hN : NF w w.heap.size (.slice (some ad) convL.length nc) convL) :
    Calls Tryz.prog 28 #[.agg #[.slice (some ad) convL.length nc, .int .i64 5], .slice none 0 0, .int .i64 100] w fun e w' => ∃ steps, e = .returned (.tuple #[.agg #[.slice none 0 0, .int .i64 1, .string ⟨#[]⟩, .int .i64 steps], .int .i64 0]) ∧ Below w.heap.size w w' := by
  refine (crun_any convL 5 ad nc w (fun st _ => st = 1) (ShC ad nc) check_conv (by decide) hN (fun R M w' h _ => .inl ⟨rfl, h⟩) (fun R M k w' dv hS _ h1 h2 hM => step_conv w ad nc R M k w' dv hS h1 h2 hM)).mono ?_
  rintro e w' ⟨st, steps, rfl, rfl, hb⟩
  exact ⟨steps, rfl, hb⟩
end Go.Proofs.YtikkmalhdidhaaaGreatDoor
