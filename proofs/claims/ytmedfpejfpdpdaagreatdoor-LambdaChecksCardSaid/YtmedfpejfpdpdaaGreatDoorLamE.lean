/- Lambda: union. -/
import Derived.Test.YtmedfpejfpdpdaaGreatDoorLamD
import Derived.Deep.RegionHeld3
import Derived.Deep.QuietTactic
namespace Go.Proofs.YtmedfpejfpdpdaaGreatDoor
open Go.RowKit LamM

theorem undS : Tryz.prog.underlying 43 = some (.slice 3) := by kernel_rfl
theorem OI.drew {base : Nat} {w : World} {v : Value} {l : List Int} (h : OI base w v l) : OI base w.drew v l := h
theorem IV.tail {w : World} {B : Nat} {A : Option Addr} {n c : Nat} {x : Int} {l : List Int} (h : IV w B (.slice A n c) (x :: l)) : IV w B (.slice (if c = 1 then A else A.map (·.add 1)) l.length (c - 1)) l := by
  obtain ⟨A', c', e, h1, h2, h3⟩ := h
  injection e with e1 e2 e3
  subst e1 e3
  rw [List.length_cons] at h1 h3
  have h4 := h3.cut (k := 1) (cap := c) (by omega) h1
  refine ⟨_, _, rfl, by omega, by omega, ?_⟩
  rw [Nat.add_sub_cancel, Nat.one_mul] at h4
  exact h4
theorem IV.cons {w : World} {B : Nat} {v : Value} {x : Int} {l : List Int} (h : IV w B v (x :: l)) : ∃ ad c, v = .slice (some ad) (l.length + 1) c ∧ ad.block < B ∧ w.cell? ad = some (.int .i64 x) ∧ l.length + 1 ≤ c ∧ c ≤ maxLen := by
  obtain ⟨A, c, rfl, h1, h2⟩ := h.len
  obtain ⟨ad, rfl, hb, hc⟩ := h.at_ (j := 0) rfl
  exact ⟨ad, c, rfl, hb, hc, h1, h2⟩

theorem OI.drewN {base : Nat} {w : World} {v : Value} {l : List Int} (h : OI base w v l) (n : Nat) : OI base (w.drewN n) v l := h
theorem IV.drew {w : World} {B : Nat} {v : Value} {l : List Int} (h : IV w B v l) : IV w.drew B v l := h
theorem IV.reads {w : World} {B n c : Nat} {A : Option Addr} {l : List Int} (h : IV w B (.slice A n c) l) : Reads w B 1 A l.length (intVals l) := by
  obtain ⟨A', c', e, _, _, h3⟩ := h
  injection e with e1 e2 e3
  subst e1
  exact h3
theorem intVals_one (l : List Int) : ∀ u ∈ intVals l, u.oneCell' = true := by
  intro u hu; unfold intVals at hu; obtain ⟨d, _, rfl⟩ := List.mem_map.1 hu; rfl

set_option maxRecDepth 100000 in
set_option maxHeartbeats 4000000 in
theorem lunion_any (a b : List Int) (va vb : Value) (w : World) (hsa : SS a) (hsb : SS b) (hla : a.length ≤ 2000000000000) (hlb : b.length ≤ 2000000000000) (ha : IV w w.heap.size va a) (hb : IV w w.heap.size vb b) :
    Calls Tryz.prog 12 #[va, vb] w (GivesI w (mrg a b)) := by
  obtain ⟨i0, hi0, hz0, hz1, hz2⟩ := info_parts infoI
  rcases b with _ | ⟨y0, b0⟩
  · obtain ⟨A, c, rfl, h1, h2⟩ := ha.len
    obtain ⟨A', c', rfl, h1', h2'⟩ := hb.len
    have HA := Lib.hid ha
    clear ha hb hsa hsb
    rw [mrg_nil]
    go_enter Tryz.func12, Tryz.ntmps12
    go_wp2_with fail
    go_ret
    exact ⟨_, rfl, HA.out, Below.refl _ _⟩
  · obtain ⟨A, c, rfl, h1, h2⟩ := ha.len
    obtain ⟨bd, c', rfl, hbd, cb, h1', h2'⟩ := hb.cons
    have HA := Lib.hid ha
    have HB := Lib.hid hb
    have HSA := Lib.hid hsa
    have HSB := Lib.hid hsb
    rw [List.length_cons] at hlb
    obtain ⟨n, hn⟩ : ∃ n, a.length + (b0.length + 1) = n := ⟨_, rfl⟩
    have hn1 : n ≤ a.length + (b0.length + 1) := by omega
    have hn2 : a.length + (b0.length + 1) ≤ n := by omega
    obtain ⟨R, hR⟩ : ∃ R, mrg a (y0 :: b0) = R := ⟨_, rfl⟩
    have HR := Lib.hid hR
    rw [hR]
    clear ha hb hsa hsb hn hR
    go_enter Tryz.func12, Tryz.ntmps12
    go_wp2_with (refine wpList_make_own _ rfl _ _ _ rfl w.heap.size 3 i0 (.int .i64 0) 1 undS hi0 hz0 hz1 _ _ _ n rfl rfl (by omega) (by rw [hz2]; omega) (by unfold maxLen; omega) (Nat.le_refl _) ?_)
    intro w1 hown1 hgrow1
    have HO1 := Lib.hid (show OI w.heap.size w1 _ [] from hown1)
    have HB1 := Lib.hid ((Below.refl w.heap.size w).grown hgrow1 (Nat.le_refl _) (fun k hk => by cases hk))
    have HA1 := Lib.hid (HA.out.keep (fun p hp => HB1.out.cell hp))
    have HBB := Lib.hid (HB.out.keep (fun p hp => HB1.out.cell hp))
    clear hown1 hgrow1 HA HB
    go_wp2_with fail
    go_loopg [0, 1, 5] (a.length + (b0.length + 1)) (fun gk av bv o wr => ∃ p q out : List Int, p.length + q.length = gk ∧ out.length + gk ≤ n ∧ Hid (IV wr w.heap.size av p) ∧ Hid (IV wr w.heap.size bv q) ∧ Hid (SS p) ∧ Hid (SS q) ∧ Hid (OI w.heap.size wr o out) ∧ Hid (out ++ mrg p q = R) ∧ Hid (Below w.heap.size w wr))
    case atStart => exact ⟨a, y0 :: b0, [], by simp, by simp; omega, HA1, HBB, HSA, HSB, HO1, HR, HB1⟩
    case round =>
      obtain ⟨p, q, out, hpq, hon, HP, HQ, HSP, HSQ, HO, HRR, HBW⟩ := hrel
      have hsz := HBW.out.size
      have hp1 : p.length + q.length ≤ gk := by omega
      have hp2 : gk ≤ p.length + q.length := by omega
      clear hpq
      rcases p with _ | ⟨x, p⟩
      · have HRR2 := Lib.hid (show out ++ q = R by have := HRR.out; rw [mrg_nil_left HSQ.out] at this; exact this)
        rw [List.length_nil] at hp1 hp2
        obtain ⟨PA, pc, rfl, hpl, hpc⟩ := HP.out.len
        obtain ⟨QA, qc, rfl, hql, hqc⟩ := HQ.out.len
        have HRP := Lib.hid (HP.out.reads)
        have HRQ := Lib.hid (HQ.out.reads)
        go_wp2_with (at_builtin; refine wpList_append_any _ rfl _ _ 43 rfl w.heap.size 3 i0 (.int .i64 0) 1 8 undS hi0 hz0 hz1 hz2 rfl (by decide) _ _ _ rfl HO.out w.heap.size _ _ _ _ rfl HRP.out (intVals_one _) (by have := (List.length_nil : ([] : List Int).length = 0); unfold maxLen; omega) (by have := (List.length_nil : ([] : List Int).length = 0); omega) (by omega) ?_)
        intro v2 w2 hown2 hgrow2 _
        have HO2 := Lib.hid (show OI w.heap.size w2 v2 (out) from (by have := OI.app (a := out) (b := []) hown2; rwa [List.append_nil] at this))
        have HB2 := Lib.hid (HBW.out.grown hgrow2 (by omega) (fun j hj => (World.ownsRow.lt HO.out j hj).1))
        have HRQ2 := Lib.hid (HRQ.out.keep (fun p hp => (HB2.out.cell hp).trans (HBW.out.cell hp).symm))
        have hsz2 := HB2.out.size
        have hol2 : (out).length = out.length := by simp
        clear hown2 hgrow2
        go_wp2_with (at_builtin; refine wpList_append_any _ rfl _ _ 43 rfl w.heap.size 3 i0 (.int .i64 0) 1 8 undS hi0 hz0 hz1 hz2 rfl (by decide) _ _ _ rfl HO2.out w.heap.size _ _ _ _ rfl HRQ2.out (intVals_one _) (by have := (List.length_nil : ([] : List Int).length = 0); unfold maxLen; omega) (by have := (List.length_nil : ([] : List Int).length = 0); omega) (by omega) ?_)
        intro v3 w3 hown3 hgrow3 _
        have HO3 := Lib.hid (show OI w.heap.size w3 v3 R from by rw [← HRR2.out]; exact OI.app (a := out) (b := q) hown3)
        have HB3 := Lib.hid (HB2.out.grown hgrow3 (by omega) (fun j hj => (World.ownsRow.lt HO2.out j hj).1))
        clear hown3 hgrow3
        go_wp2_with fail
        go_ret
        exact ⟨_, rfl, HO3.out.iv, HB3.out⟩
      · rcases q with _ | ⟨y, q⟩
        · have HRR2 := Lib.hid (show out ++ (x :: p) = R by have := HRR.out; rw [mrg_nil] at this; exact this)
          rw [List.length_nil, List.length_cons] at hp1 hp2
          obtain ⟨PA, pc, rfl, hpl, hpc⟩ := HP.out.len
          obtain ⟨QA, qc, rfl, hql, hqc⟩ := HQ.out.len
          have HRP := Lib.hid (HP.out.reads)
          have HRQ := Lib.hid (HQ.out.reads)
          go_wp2_with (at_builtin; refine wpList_append_any _ rfl _ _ 43 rfl w.heap.size 3 i0 (.int .i64 0) 1 8 undS hi0 hz0 hz1 hz2 rfl (by decide) _ _ _ rfl HO.out w.heap.size _ _ _ _ rfl HRP.out (intVals_one _) (by have := (List.length_cons : (x :: p).length = p.length + 1); unfold maxLen; omega) (by have := (List.length_cons : (x :: p).length = p.length + 1); omega) (by omega) ?_)
          intro v2 w2 hown2 hgrow2 _
          have HO2 := Lib.hid (show OI w.heap.size w2 v2 (out ++ (x :: p)) from OI.app (a := out) (b := x :: p) hown2)
          have HB2 := Lib.hid (HBW.out.grown hgrow2 (by omega) (fun j hj => (World.ownsRow.lt HO.out j hj).1))
          have HRQ2 := Lib.hid (HRQ.out.keep (fun p hp => (HB2.out.cell hp).trans (HBW.out.cell hp).symm))
          have hsz2 := HB2.out.size
          have hol2 : (out ++ (x :: p)).length = out.length + (p.length + 1) := by simp
          clear hown2 hgrow2
          go_wp2_with (at_builtin; refine wpList_append_any _ rfl _ _ 43 rfl w.heap.size 3 i0 (.int .i64 0) 1 8 undS hi0 hz0 hz1 hz2 rfl (by decide) _ _ _ rfl HO2.out w.heap.size _ _ _ _ rfl HRQ2.out (intVals_one _) (by have := (List.length_nil : ([] : List Int).length = 0); unfold maxLen; omega) (by have := (List.length_nil : ([] : List Int).length = 0); omega) (by omega) ?_)
          intro v3 w3 hown3 hgrow3 _
          have HO3 := Lib.hid (show OI w.heap.size w3 v3 R from by rw [← HRR2.out]; exact (by have := OI.app (a := out ++ (x :: p)) (b := []) (by rw [hol2]; exact hown3); rwa [List.append_nil] at this))
          have HB3 := Lib.hid (HB2.out.grown hgrow3 (by omega) (fun j hj => (World.ownsRow.lt HO2.out j hj).1))
          clear hown3 hgrow3
          go_wp2_with fail
          go_ret
          exact ⟨_, rfl, HO3.out.iv, HB3.out⟩
        · obtain ⟨pd, pc, rfl, hpd, cp, hpl, hpc⟩ := HP.out.cons
          obtain ⟨qd, qc, rfl, hqd, cq, hql, hqc⟩ := HQ.out.cons
          rw [List.length_cons, List.length_cons] at hp1 hp2
          have HBW0 := HBW
          obtain ⟨PT, hPT⟩ : ∃ PT, (if pc = 1 then some pd else some ({ block := pd.block, off := pd.off + 1 } : Addr)) = PT := ⟨_, rfl⟩
          obtain ⟨QT, hQT⟩ : ∃ QT, (if qc = 1 then some qd else some ({ block := qd.block, off := qd.off + 1 } : Addr)) = QT := ⟨_, rfl⟩
          have HPT := Lib.hid (show IV wr w.heap.size (.slice PT p.length (pc - 1)) p by rw [← hPT]; exact HP.out.tail)
          have HQT := Lib.hid (show IV wr w.heap.size (.slice QT q.length (qc - 1)) q by rw [← hQT]; exact HQ.out.tail)
          have z1 : (0 : Int) < (p.length : Int) + 1 := by omega
          have z2 : (0 : Int) < (q.length : Int) + 1 := by omega
          have r1 : (1 : Int) ≤ (p.length : Int) + 1 := by omega
          have r2 : (1 : Int) ≤ (q.length : Int) + 1 := by omega
          have r3 : (1 : Int) ≤ ((p.length + 1 : Nat) : Int) := by omega
          have r4 : (1 : Int) ≤ ((q.length + 1 : Nat) : Int) := by omega
          by_cases hlt : x < y
          · have q1 := decide_eq_true hlt
            have HRR2 := Lib.hid (show (out ++ [x]) ++ mrg p (y :: q) = R by have := HRR.out; rw [mrg_lt HSP.out HSQ.out hlt] at this; simpa using this)
            go_wp2_with fail
            go_quiet (fail)
            have HO1 := Lib.hid (OI.drewN HO.out nq)
            have HB1 := Lib.hid (below_drewN HBW.out nq)
            have cp1 : (wr.drewN nq).cell? pd = some (.int .i64 x) := cp
            have cq1 : (wr.drewN nq).cell? qd = some (.int .i64 y) := cq
            generalize wr.drewN nq = w1 at *
            go_wp2_with fail
            have hsz1 := HB1.out.size
            go_region_held3 (fun w' => w'.cell? pd = some (.int .i64 x)) (first | with_reducible exact CP2.out | go_keep) (first
                          | (refine step_append_any _ rfl _ _ 43 rfl w.heap.size 3 i0 (.int .i64 0) 1 8 undS hi0 hz0 hz1 hz2 rfl (by decide) _ _ _ rfl (World.ownsRow.drew (World.ownsRow.alloc HO1.out _)) _ _ _ _ _ rfl (IV.reads (IV.drew (one_IV _ _))) (intVals_one _) (by have := (List.length_cons : ([x] : List Int).length = 0 + 1); unfold maxLen; omega) (by have := (List.length_cons : ([x] : List Int).length = 0 + 1); omega) (by simp; omega) ?_; intro v2 w2 hown2 hgrow2 _; have HO2 := Lib.hid (OI.one hown2); have HB2 := Lib.hid ((HB1.out.alloc hsz1 (.cells #[.int .i64 x] 3)).drew.grown hgrow2 (by simp; omega) (fun j hj => (World.ownsRow.lt HO1.out j hj).1)); have CP2 := Lib.hid ((HB2.out.cell hpd).trans ((HB1.out.cell hpd).symm.trans cp1)); clear hown2 hgrow2))
            all_goals go_wp2_with fail
            all_goals go_roundg (gk - 1)
            all_goals first | omega | exact ⟨p, y :: q, out ++ [x], by first | omega | (simp; omega), by first | omega | (simp; omega), Lib.hid (HPT.out.keep (fun p hp => (HB2.out.cell hp).trans (HBW0.out.cell hp).symm)), Lib.hid (HQ.out.keep (fun p hp => (HB2.out.cell hp).trans (HBW0.out.cell hp).symm)), Lib.hid (ss_cons.1 HSP.out).2, HSQ, HO2, HRR2, HB2⟩
          · by_cases hgt : y < x
            · have q1 := decide_eq_false hlt
              have q2 := decide_eq_true hgt
              have HRR2 := Lib.hid (show (out ++ [y]) ++ mrg (x :: p) q = R by have := HRR.out; rw [mrg_gt HSP.out HSQ.out hgt] at this; simpa using this)
              go_wp2_with fail
              go_quiet (fail)
              have HO1 := Lib.hid (OI.drewN HO.out nq)
              have HB1 := Lib.hid (below_drewN HBW.out nq)
              have cp1 : (wr.drewN nq).cell? pd = some (.int .i64 x) := cp
              have cq1 : (wr.drewN nq).cell? qd = some (.int .i64 y) := cq
              generalize wr.drewN nq = w1 at *
              clear cp cq HO HBW
              go_wp2_with fail
              go_quiet (fail)
              have HO := HO1
              have HBW := HB1
              clear HO1 HB1
              have HO1 := Lib.hid (OI.drewN HO.out nq)
              have HB1 := Lib.hid (below_drewN HBW.out nq)
              have cp := cp1
              have cq := cq1
              clear cp1 cq1
              have cp1 : (w1.drewN nq).cell? pd = some (.int .i64 x) := cp
              have cq1 : (w1.drewN nq).cell? qd = some (.int .i64 y) := cq
              clear cp cq
              generalize w1.drewN nq = w5 at *
              go_wp2_with fail
              have hsz1 := HB1.out.size
              go_region_held3 (fun w' => w'.cell? qd = some (.int .i64 y)) (first | with_reducible exact CP2.out | go_keep) (first
                              | (refine step_append_any _ rfl _ _ 43 rfl w.heap.size 3 i0 (.int .i64 0) 1 8 undS hi0 hz0 hz1 hz2 rfl (by decide) _ _ _ rfl (World.ownsRow.drew (World.ownsRow.alloc HO1.out _)) _ _ _ _ _ rfl (IV.reads (IV.drew (one_IV _ _))) (intVals_one _) (by have := (List.length_cons : ([y] : List Int).length = 0 + 1); unfold maxLen; omega) (by have := (List.length_cons : ([y] : List Int).length = 0 + 1); omega) (by simp; omega) ?_; intro v2 w2 hown2 hgrow2 _; have HO2 := Lib.hid (OI.one hown2); have HB2 := Lib.hid ((HB1.out.alloc hsz1 (.cells #[.int .i64 y] 3)).drew.grown hgrow2 (by simp; omega) (fun j hj => (World.ownsRow.lt HO1.out j hj).1)); have CP2 := Lib.hid ((HB2.out.cell hqd).trans ((HB1.out.cell hqd).symm.trans cq1)); clear hown2 hgrow2))
              all_goals go_wp2_with fail
              all_goals go_roundg (gk - 1)
              all_goals first | omega | exact ⟨x :: p, q, out ++ [y], by first | omega | (simp; omega), by first | omega | (simp; omega), Lib.hid (HP.out.keep (fun p hp => (HB2.out.cell hp).trans (HBW0.out.cell hp).symm)), Lib.hid (HQT.out.keep (fun p hp => (HB2.out.cell hp).trans (HBW0.out.cell hp).symm)), HSP, Lib.hid (ss_cons.1 HSQ.out).2, HO2, HRR2, HB2⟩
            · obtain rfl : x = y := by omega
              have q1 := decide_eq_false hlt
              have HRR2 := Lib.hid (show (out ++ [x]) ++ mrg p q = R by have := HRR.out; rw [mrg_eq HSP.out HSQ.out] at this; simpa using this)
              go_wp2_with fail
              go_quiet (fail)
              have HO1 := Lib.hid (OI.drewN HO.out nq)
              have HB1 := Lib.hid (below_drewN HBW.out nq)
              have cp1 : (wr.drewN nq).cell? pd = some (.int .i64 x) := cp
              have cq1 : (wr.drewN nq).cell? qd = some (.int .i64 x) := cq
              generalize wr.drewN nq = w1 at *
              clear cp cq HO HBW
              go_wp2_with fail
              go_quiet (fail)
              have HO := HO1
              have HBW := HB1
              clear HO1 HB1
              have HO1 := Lib.hid (OI.drewN HO.out nq)
              have HB1 := Lib.hid (below_drewN HBW.out nq)
              have cp := cp1
              have cq := cq1
              clear cp1 cq1
              have cp1 : (w1.drewN nq).cell? pd = some (.int .i64 x) := cp
              have cq1 : (w1.drewN nq).cell? qd = some (.int .i64 x) := cq
              clear cp cq
              generalize w1.drewN nq = w5 at *
              go_wp2_with fail
              have hsz1 := HB1.out.size
              go_region_held3 (fun w' => w'.cell? pd = some (.int .i64 x)) (first | with_reducible exact CP2.out | go_keep) (first
                              | (refine step_append_any _ rfl _ _ 43 rfl w.heap.size 3 i0 (.int .i64 0) 1 8 undS hi0 hz0 hz1 hz2 rfl (by decide) _ _ _ rfl (World.ownsRow.drew (World.ownsRow.alloc HO1.out _)) _ _ _ _ _ rfl (IV.reads (IV.drew (one_IV _ _))) (intVals_one _) (by have := (List.length_cons : ([x] : List Int).length = 0 + 1); unfold maxLen; omega) (by have := (List.length_cons : ([x] : List Int).length = 0 + 1); omega) (by simp; omega) ?_; intro v2 w2 hown2 hgrow2 _; have HO2 := Lib.hid (OI.one hown2); have HB2 := Lib.hid ((HB1.out.alloc hsz1 (.cells #[.int .i64 x] 3)).drew.grown hgrow2 (by simp; omega) (fun j hj => (World.ownsRow.lt HO1.out j hj).1)); have CP2 := Lib.hid ((HB2.out.cell hpd).trans ((HB1.out.cell hpd).symm.trans cp1)); clear hown2 hgrow2))
              all_goals go_wp2_with fail
              all_goals go_roundg (gk - 2)
              all_goals first | omega | exact ⟨p, q, out ++ [x], by first | omega | (simp; omega), by first | omega | (simp; omega), Lib.hid (HPT.out.keep (fun p hp => (HB2.out.cell hp).trans (HBW0.out.cell hp).symm)), Lib.hid (HQT.out.keep (fun p hp => (HB2.out.cell hp).trans (HBW0.out.cell hp).symm)), Lib.hid (ss_cons.1 HSP.out).2, Lib.hid (ss_cons.1 HSQ.out).2, HO2, HRR2, HB2⟩
end Go.Proofs.YtmedfpejfpdpdaaGreatDoor
