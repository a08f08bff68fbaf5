/- Close: union, without. -/
import Derived.Test.YtjhdlnllhjffkaaGreatDoorCloMf
import Derived.Test.YtjhdlnllhjffkaaGreatDoorCloMa
namespace Go.Proofs.YtjhdlnllhjffkaaGreatDoor
open Go.RowKit LamM CpsM CloM

theorem undSf : Tryz.prog.underlying 49 = some (.slice 3) := by kernel_rfl

set_option maxRecDepth 100000 in
set_option maxHeartbeats 4000000 in
theorem funion_any (a b : List Int) (va vb : Value) (w : World) (hsa : SS a) (hsb : SS b) (hla : a.length ≤ 2000000000000) (hlb : b.length ≤ 2000000000000) (ha : IV w w.heap.size va a) (hb : IV w w.heap.size vb b) :
    Calls Tryz.prog 31 #[va, vb] w (GivesI w (mrg a b)) := by
  obtain ⟨i0, hi0, hz0, hz1, hz2⟩ := info_parts infoI
  rcases b with _ | ⟨y0, b0⟩
  · obtain ⟨A, c, rfl, h1, h2⟩ := ha.len
    obtain ⟨A', c', rfl, h1', h2'⟩ := hb.len
    have HA := Lib.hid ha
    clear ha hb hsa hsb
    rw [mrg_nil]
    go_enter Tryz.func31, Tryz.ntmps31
    go_wp2_with fail
    go_ret
    exact ⟨_, rfl, HA.out, Below.refl _ _⟩
  · obtain ⟨A, c, rfl, h1, h2⟩ := ha.len
    obtain ⟨bd, c', rfl, hbd, cb, h1', h2'⟩ := hb.cons
    have HA := Lib.hid ha
    have HB := Lib.hid hb
    have HSA := Lib.hid hsa
    have HSB := Lib.hid hsb
    rw [List.length_cons] at hlb
    obtain ⟨n, hn⟩ : ∃ n, a.length + (b0.length + 1) = n := ⟨_, rfl⟩
    have hn1 : n ≤ a.length + (b0.length + 1) := by omega
    have hn2 : a.length + (b0.length + 1) ≤ n := by omega
    obtain ⟨R, hR⟩ : ∃ R, mrg a (y0 :: b0) = R := ⟨_, rfl⟩
    have HR := Lib.hid hR
    rw [hR]
    clear ha hb hsa hsb hn hR
    go_enter Tryz.func31, Tryz.ntmps31
    go_wp2_with (refine wpList_make_own _ rfl _ _ _ rfl w.heap.size 3 i0 (.int .i64 0) 1 undSf hi0 hz0 hz1 _ _ _ n rfl rfl (by omega) (by rw [hz2]; omega) (by unfold maxLen; omega) (Nat.le_refl _) ?_)
    intro w1 hown1 hgrow1
    have HO1 := Lib.hid (show OI w.heap.size w1 _ [] from hown1)
    have HB1 := Lib.hid ((Below.refl w.heap.size w).grown hgrow1 (Nat.le_refl _) (fun k hk => by cases hk))
    have HA1 := Lib.hid (HA.out.keep (fun p hp => HB1.out.cell hp))
    have HBB := Lib.hid (HB.out.keep (fun p hp => HB1.out.cell hp))
    clear hown1 hgrow1 HA HB
    go_wp2_with fail
    go_loopg [0, 1, 5] (a.length + (b0.length + 1)) (fun gk av bv o wr => ∃ p q out : List Int, p.length + q.length = gk ∧ out.length + gk ≤ n ∧ Hid (IV wr w.heap.size av p) ∧ Hid (IV wr w.heap.size bv q) ∧ Hid (SS p) ∧ Hid (SS q) ∧ Hid (OI w.heap.size wr o out) ∧ Hid (out ++ mrg p q = R) ∧ Hid (Below w.heap.size w wr))
    case atStart => exact ⟨a, y0 :: b0, [], by simp, by simp; omega, HA1, HBB, HSA, HSB, HO1, HR, HB1⟩
    case round =>
      obtain ⟨p, q, out, hpq, hon, HP, HQ, HSP, HSQ, HO, HRR, HBW⟩ := hrel
      have hsz := HBW.out.size
      have hp1 : p.length + q.length ≤ gk := by omega
      have hp2 : gk ≤ p.length + q.length := by omega
      clear hpq
      rcases p with _ | ⟨x, p⟩
      · have HRR2 := Lib.hid (show out ++ q = R by have := HRR.out; rw [mrg_nil_left HSQ.out] at this; exact this)
        rw [List.length_nil] at hp1 hp2
        obtain ⟨PA, pc, rfl, hpl, hpc⟩ := HP.out.len
        obtain ⟨QA, qc, rfl, hql, hqc⟩ := HQ.out.len
        have HRP := Lib.hid (HP.out.reads)
        have HRQ := Lib.hid (HQ.out.reads)
        go_wp2_with (at_builtin; refine wpList_append_any _ rfl _ _ 49 rfl w.heap.size 3 i0 (.int .i64 0) 1 8 undSf hi0 hz0 hz1 hz2 rfl (by decide) _ _ _ rfl HO.out w.heap.size _ _ _ _ rfl HRP.out (intVals_one _) (by have := (List.length_nil : ([] : List Int).length = 0); unfold maxLen; omega) (by have := (List.length_nil : ([] : List Int).length = 0); omega) (by omega) ?_)
        intro v2 w2 hown2 hgrow2 _
        have HO2 := Lib.hid (show OI w.heap.size w2 v2 (out) from (by have := OI.app (a := out) (b := []) hown2; rwa [List.append_nil] at this))
        have HB2 := Lib.hid (HBW.out.grown hgrow2 (by omega) (fun j hj => (World.ownsRow.lt HO.out j hj).1))
        have HRQ2 := Lib.hid (HRQ.out.keep (fun p hp => (HB2.out.cell hp).trans (HBW.out.cell hp).symm))
        have hsz2 := HB2.out.size
        have hol2 : (out).length = out.length := by simp
        clear hown2 hgrow2
        go_wp2_with (at_builtin; refine wpList_append_any _ rfl _ _ 49 rfl w.heap.size 3 i0 (.int .i64 0) 1 8 undSf hi0 hz0 hz1 hz2 rfl (by decide) _ _ _ rfl HO2.out w.heap.size _ _ _ _ rfl HRQ2.out (intVals_one _) (by have := (List.length_nil : ([] : List Int).length = 0); unfold maxLen; omega) (by have := (List.length_nil : ([] : List Int).length = 0); omega) (by omega) ?_)
        intro v3 w3 hown3 hgrow3 _
        have HO3 := Lib.hid (show OI w.heap.size w3 v3 R from by rw [← HRR2.out]; exact OI.app (a := out) (b := q) hown3)
        have HB3 := Lib.hid (HB2.out.grown hgrow3 (by omega) (fun j hj => (World.ownsRow.lt HO2.out j hj).1))
        clear hown3 hgrow3
        go_wp2_with fail
        go_ret
        exact ⟨_, rfl, HO3.out.iv, HB3.out⟩
      · rcases q with _ | ⟨y, q⟩
        · have HRR2 := Lib.hid (show out ++ (x :: p) = R by have := HRR.out; rw [mrg_nil] at this; exact this)
          rw [List.length_nil, List.length_cons] at hp1 hp2
          obtain ⟨PA, pc, rfl, hpl, hpc⟩ := HP.out.len
          obtain ⟨QA, qc, rfl, hql, hqc⟩ := HQ.out.len
          have HRP := Lib.hid (HP.out.reads)
          have HRQ := Lib.hid (HQ.out.reads)
          go_wp2_with (at_builtin; refine wpList_append_any _ rfl _ _ 49 rfl w.heap.size 3 i0 (.int .i64 0) 1 8 undSf hi0 hz0 hz1 hz2 rfl (by decide) _ _ _ rfl HO.out w.heap.size _ _ _ _ rfl HRP.out (intVals_one _) (by have := (List.length_cons : (x :: p).length = p.length + 1); unfold maxLen; omega) (by have := (List.length_cons : (x :: p).length = p.length + 1); omega) (by omega) ?_)
          intro v2 w2 hown2 hgrow2 _
          have HO2 := Lib.hid (show OI w.heap.size w2 v2 (out ++ (x :: p)) from OI.app (a := out) (b := x :: p) hown2)
          have HB2 := Lib.hid (HBW.out.grown hgrow2 (by omega) (fun j hj => (World.ownsRow.lt HO.out j hj).1))
          have HRQ2 := Lib.hid (HRQ.out.keep (fun p hp => (HB2.out.cell hp).trans (HBW.out.cell hp).symm))
          have hsz2 := HB2.out.size
          have hol2 : (out ++ (x :: p)).length = out.length + (p.length + 1) := by simp
          clear hown2 hgrow2
          go_wp2_with (at_builtin; refine wpList_append_any _ rfl _ _ 49 rfl w.heap.size 3 i0 (.int .i64 0) 1 8 undSf hi0 hz0 hz1 hz2 rfl (by decide) _ _ _ rfl HO2.out w.heap.size _ _ _ _ rfl HRQ2.out (intVals_one _) (by have := (List.length_nil : ([] : List Int).length = 0); unfold maxLen; omega) (by have := (List.length_nil : ([] : List Int).length = 0); omega) (by omega) ?_)
          intro v3 w3 hown3 hgrow3 _
          have HO3 := Lib.hid (show OI w.heap.size w3 v3 R from by rw [← HRR2.out]; exact (by have := OI.app (a := out ++ (x :: p)) (b := []) (by rw [hol2]; exact hown3); rwa [List.append_nil] at this))
          have HB3 := Lib.hid (HB2.out.grown hgrow3 (by omega) (fun j hj => (World.ownsRow.lt HO2.out j hj).1))
          clear hown3 hgrow3
          go_wp2_with fail
          go_ret
          exact ⟨_, rfl, HO3.out.iv, HB3.out⟩
        · obtain ⟨pd, pc, rfl, hpd, cp, hpl, hpc⟩ := HP.out.cons
          obtain ⟨qd, qc, rfl, hqd, cq, hql, hqc⟩ := HQ.out.cons
          rw [List.length_cons, List.length_cons] at hp1 hp2
          have HBW0 := HBW
          obtain ⟨PT, hPT⟩ : ∃ PT, (if pc = 1 then some pd else some ({ block := pd.block, off := pd.off + 1 } : Addr)) = PT := ⟨_, rfl⟩
          obtain ⟨QT, hQT⟩ : ∃ QT, (if qc = 1 then some qd else some ({ block := qd.block, off := qd.off + 1 } : Addr)) = QT := ⟨_, rfl⟩
          have HPT := Lib.hid (show IV wr w.heap.size (.slice PT p.length (pc - 1)) p by rw [← hPT]; exact HP.out.tail)
          have HQT := Lib.hid (show IV wr w.heap.size (.slice QT q.length (qc - 1)) q by rw [← hQT]; exact HQ.out.tail)
          have z1 : (0 : Int) < (p.length : Int) + 1 := by omega
          have z2 : (0 : Int) < (q.length : Int) + 1 := by omega
          have r1 : (1 : Int) ≤ (p.length : Int) + 1 := by omega
          have r2 : (1 : Int) ≤ (q.length : Int) + 1 := by omega
          have r3 : (1 : Int) ≤ ((p.length + 1 : Nat) : Int) := by omega
          have r4 : (1 : Int) ≤ ((q.length + 1 : Nat) : Int) := by omega
          by_cases hlt : x < y
          · have q1 := decide_eq_true hlt
            have HRR2 := Lib.hid (show (out ++ [x]) ++ mrg p (y :: q) = R by have := HRR.out; rw [mrg_lt HSP.out HSQ.out hlt] at this; simpa using this)
            go_wp2_with fail
            go_quiet (fail)
            have HO1 := Lib.hid (OI.drewN HO.out nq)
            have HB1 := Lib.hid (below_drewN HBW.out nq)
            have cp1 : (wr.drewN nq).cell? pd = some (.int .i64 x) := cp
            have cq1 : (wr.drewN nq).cell? qd = some (.int .i64 y) := cq
            generalize wr.drewN nq = w1 at *
            go_wp2_with fail
            have hsz1 := HB1.out.size
            go_region_held3 (fun w' => w'.cell? pd = some (.int .i64 x)) (first | with_reducible exact CP2.out | go_keep) (first
                          | (refine step_append_any _ rfl _ _ 49 rfl w.heap.size 3 i0 (.int .i64 0) 1 8 undSf hi0 hz0 hz1 hz2 rfl (by decide) _ _ _ rfl (World.ownsRow.drew (World.ownsRow.alloc HO1.out _)) _ _ _ _ _ rfl (IV.reads (IV.drew (one_IV _ _))) (intVals_one _) (by have := (List.length_cons : ([x] : List Int).length = 0 + 1); unfold maxLen; omega) (by have := (List.length_cons : ([x] : List Int).length = 0 + 1); omega) (by simp; omega) ?_; intro v2 w2 hown2 hgrow2 _; have HO2 := Lib.hid (OI.one hown2); have HB2 := Lib.hid ((HB1.out.alloc hsz1 (.cells #[.int .i64 x] 3)).drew.grown hgrow2 (by simp; omega) (fun j hj => (World.ownsRow.lt HO1.out j hj).1)); have CP2 := Lib.hid ((HB2.out.cell hpd).trans ((HB1.out.cell hpd).symm.trans cp1)); clear hown2 hgrow2))
            all_goals go_wp2_with fail
            all_goals go_roundg (gk - 1)
            all_goals first | omega | exact ⟨p, y :: q, out ++ [x], by first | omega | (simp; omega), by first | omega | (simp; omega), Lib.hid (HPT.out.keep (fun p hp => (HB2.out.cell hp).trans (HBW0.out.cell hp).symm)), Lib.hid (HQ.out.keep (fun p hp => (HB2.out.cell hp).trans (HBW0.out.cell hp).symm)), Lib.hid (ss_cons.1 HSP.out).2, HSQ, HO2, HRR2, HB2⟩
          · by_cases hgt : y < x
            · have q1 := decide_eq_false hlt
              have q2 := decide_eq_true hgt
              have HRR2 := Lib.hid (show (out ++ [y]) ++ mrg (x :: p) q = R by have := HRR.out; rw [mrg_gt HSP.out HSQ.out hgt] at this; simpa using this)
              go_wp2_with fail
              go_quiet (fail)
              have HO1 := Lib.hid (OI.drewN HO.out nq)
              have HB1 := Lib.hid (below_drewN HBW.out nq)
              have cp1 : (wr.drewN nq).cell? pd = some (.int .i64 x) := cp
              have cq1 : (wr.drewN nq).cell? qd = some (.int .i64 y) := cq
              generalize wr.drewN nq = w1 at *
              clear cp cq HO HBW
              go_wp2_with fail
              go_quiet (fail)
              have HO := HO1
              have HBW := HB1
              clear HO1 HB1
              have HO1 := Lib.hid (OI.drewN HO.out nq)
              have HB1 := Lib.hid (below_drewN HBW.out nq)
              have cp := cp1
              have cq := cq1
              clear cp1 cq1
              have cp1 : (w1.drewN nq).cell? pd = some (.int .i64 x) := cp
              have cq1 : (w1.drewN nq).cell? qd = some (.int .i64 y) := cq
              clear cp cq
              generalize w1.drewN nq = w5 at *
              go_wp2_with fail
              have hsz1 := HB1.out.size
              go_region_held3 (fun w' => w'.cell? qd = some (.int .i64 y)) (first | with_reducible exact CP2.out | go_keep) (first
                              | (refine step_append_any _ rfl _ _ 49 rfl w.heap.size 3 i0 (.int .i64 0) 1 8 undSf hi0 hz0 hz1 hz2 rfl (by decide) _ _ _ rfl (World.ownsRow.drew (World.ownsRow.alloc HO1.out _)) _ _ _ _ _ rfl (IV.reads (IV.drew (one_IV _ _))) (intVals_one _) (by have := (List.length_cons : ([y] : List Int).length = 0 + 1); unfold maxLen; omega) (by have := (List.length_cons : ([y] : List Int).length = 0 + 1); omega) (by simp; omega) ?_; intro v2 w2 hown2 hgrow2 _; have HO2 := Lib.hid (OI.one hown2); have HB2 := Lib.hid ((HB1.out.alloc hsz1 (.cells #[.int .i64 y] 3)).drew.grown hgrow2 (by simp; omega) (fun j hj => (World.ownsRow.lt HO1.out j hj).1)); have CP2 := Lib.hid ((HB2.out.cell hqd).trans ((HB1.out.cell hqd).symm.trans cq1)); clear hown2 hgrow2))
              all_goals go_wp2_with fail
              all_goals go_roundg (gk - 1)
              all_goals first | omega | exact ⟨x :: p, q, out ++ [y], by first | omega | (simp; omega), by first | omega | (simp; omega), Lib.hid (HP.out.keep (fun p hp => (HB2.out.cell hp).trans (HBW0.out.cell hp).symm)), Lib.hid (HQT.out.keep (fun p hp => (HB2.out.cell hp).trans (HBW0.out.cell hp).symm)), HSP, Lib.hid (ss_cons.1 HSQ.out).2, HO2, HRR2, HB2⟩
            · obtain rfl : x = y := by omega
              have q1 := decide_eq_false hlt
              have HRR2 := Lib.hid (show (out ++ [x]) ++ mrg p q = R by have := HRR.out; rw [mrg_eq HSP.out HSQ.out] at this; simpa using this)
              go_wp2_with fail
              go_quiet (fail)
              have HO1 := Lib.hid (OI.drewN HO.out nq)
              have HB1 := Lib.hid (below_drewN HBW.out nq)
              have cp1 : (wr.drewN nq).cell? pd = some (.int .i64 x) := cp
              have cq1 : (wr.drewN nq).cell? qd = some (.int .i64 x) := cq
              generalize wr.drewN nq = w1 at *
              clear cp cq HO HBW
              go_wp2_with fail
              go_quiet (fail)
              have HO := HO1
              have HBW := HB1
              clear HO1 HB1
              have HO1 := Lib.hid (OI.drewN HO.out nq)
              have HB1 := Lib.hid (below_drewN HBW.out nq)
              have cp := cp1
              have cq := cq1
              clear cp1 cq1
              have cp1 : (w1.drewN nq).cell? pd = some (.int .i64 x) := cp
              have cq1 : (w1.drewN nq).cell? qd = some (.int .i64 x) := cq
              clear cp cq
              generalize w1.drewN nq = w5 at *
              go_wp2_with fail
              have hsz1 := HB1.out.size
              go_region_held3 (fun w' => w'.cell? pd = some (.int .i64 x)) (first | with_reducible exact CP2.out | go_keep) (first
                              | (refine step_append_any _ rfl _ _ 49 rfl w.heap.size 3 i0 (.int .i64 0) 1 8 undSf hi0 hz0 hz1 hz2 rfl (by decide) _ _ _ rfl (World.ownsRow.drew (World.ownsRow.alloc HO1.out _)) _ _ _ _ _ rfl (IV.reads (IV.drew (one_IV _ _))) (intVals_one _) (by have := (List.length_cons : ([x] : List Int).length = 0 + 1); unfold maxLen; omega) (by have := (List.length_cons : ([x] : List Int).length = 0 + 1); omega) (by simp; omega) ?_; intro v2 w2 hown2 hgrow2 _; have HO2 := Lib.hid (OI.one hown2); have HB2 := Lib.hid ((HB1.out.alloc hsz1 (.cells #[.int .i64 x] 3)).drew.grown hgrow2 (by simp; omega) (fun j hj => (World.ownsRow.lt HO1.out j hj).1)); have CP2 := Lib.hid ((HB2.out.cell hpd).trans ((HB1.out.cell hpd).symm.trans cp1)); clear hown2 hgrow2))
              all_goals go_wp2_with fail
              all_goals go_roundg (gk - 2)
              all_goals first | omega | exact ⟨p, q, out ++ [x], by first | omega | (simp; omega), by first | omega | (simp; omega), Lib.hid (HPT.out.keep (fun p hp => (HB2.out.cell hp).trans (HBW0.out.cell hp).symm)), Lib.hid (HQT.out.keep (fun p hp => (HB2.out.cell hp).trans (HBW0.out.cell hp).symm)), Lib.hid (ss_cons.1 HSP.out).2, Lib.hid (ss_cons.1 HSQ.out).2, HO2, HRR2, HB2⟩

set_option maxRecDepth 100000 in
set_option maxHeartbeats 2000000 in
theorem fbs_any (s : List Int) (vs : Value) (v : Int) (B : Nat) (w : World) (hs : SS s) (hl : s.length ≤ 2000000000000) (hV : IV w B vs s) :
    Calls Tryz.prog 58 #[vs, .int .i64 v] w (BsPost s v w) := by
  obtain ⟨A, c, rfl, h1, h2⟩ := hV.len
  have HV := Lib.hid hV
  have HS := Lib.hid hs
  have HL := Lib.hid (fun x y w => less_any x y w)
  have HNA := Lib.hid (fun x w => isNaN1_any x w)
  have HP := Lib.hid (fun i => posn_eq (s := s) (v := v) (i := i))
  have HC := Lib.hid (fun k (h : s[k]? = some v) => contains_at h)
  have HNC := Lib.hid (fun (h : ∀ k : Nat, k < s.length → s[k]? ≠ some v) => contains_no h)
  unfold BsPost
  obtain ⟨P, hP⟩ : ∃ P, posn s v = P := ⟨_, rfl⟩
  obtain ⟨C, hC⟩ : ∃ C, s.contains v = C := ⟨_, rfl⟩
  rw [hP] at HP ⊢
  rw [hC] at HC HNC ⊢
  clear hV hs hP hC
  go_enter Tryz.func58, Tryz.ntmps58
  go_wp2
  go_loopw [7, 8] (fun iv jv wr => wr = w ∧ ∃ i j : Nat, i ≤ j ∧ j ≤ s.length ∧ iv = .int .i64 (i : Int) ∧ jv = .int .i64 (j : Int) ∧ Hid (∀ k x, k < i → s[k]? = some x → x < v) ∧ Hid (∀ k x, j ≤ k → s[k]? = some x → v ≤ x)) (fun iv jv _ => (intOf jv - intOf iv).toNat)
  case atStart => exact ⟨rfl, 0, s.length, Nat.zero_le _, Nat.le_refl _, rfl, rfl, Lib.hid (fun k x h => by omega), Lib.hid (fun k x h hx => by have := (List.getElem?_eq_some_iff.1 hx).1; omega)⟩
  case round =>
    obtain ⟨rfl, i, j, hij, hj, rfl, rfl, HI, HJ⟩ := hrel
    rcases Nat.lt_or_ge i j with hlt | hge
    · have hi1 : (i : Int) < (j : Int) := by omega
      obtain ⟨h, hh⟩ : ∃ h : Nat, ((i : Int) + (j : Int)) / 2 = (h : Int) := ⟨(i + j) / 2, by omega⟩
      have hh1 : i ≤ h := by omega
      have hh2 : h < j := by omega
      obtain ⟨a, ha⟩ : ∃ a, s[h]? = some a := ⟨_, List.getElem?_eq_getElem (by omega)⟩
      obtain ⟨ad, rfl, _, ca⟩ := HV.out.at_ ha
      have hhl : (h : Int) < (s.length : Int) := by omega
      by_cases hav : a < v
      · have q := decide_eq_true hav
        have HI2 := Lib.hid (show ∀ k x, k < h + 1 → s[k]? = some x → x < v from fun k x hk hx => by
          rcases Nat.lt_or_ge k h with h3 | h3
          · have := ss_lt HS.out h3 hx ha; omega
          · obtain rfl : k = h := by omega
            rw [ha] at hx; rw [← Option.some.inj hx]; exact hav)
        clear ha hav
        go_wp2_with (go_at_call 84; ((with_reducible refine (HL.out _ _ _).mono ?_); rintro e w' ⟨rfl, rfl⟩))
        go_roundw
        case rel => exact ⟨by first | rfl | trivial, h + 1, j, by omega, hj, by go_num, rfl, HI2, HJ⟩
        case measure => simp [intOf]; omega
      · have q := decide_eq_false hav
        have HJ2 := Lib.hid (show ∀ k x, h ≤ k → s[k]? = some x → v ≤ x from fun k x hk hx => by
          rcases Nat.lt_or_ge h k with h3 | h3
          · have := ss_lt HS.out h3 ha hx; omega
          · obtain rfl : k = h := by omega
            rw [ha] at hx; rw [← Option.some.inj hx]; omega)
        clear ha hav
        go_wp2_with (go_at_call 84; ((with_reducible refine (HL.out _ _ _).mono ?_); rintro e w' ⟨rfl, rfl⟩))
        go_roundw
        case rel => exact ⟨by first | rfl | trivial, i, h, hh1, by omega, rfl, by go_num, HI, HJ2⟩
        case measure => simp [intOf]; omega
    · obtain rfl : i = j := by omega
      have HPI := Lib.hid (HP.out i hj HI.out (fun x hx => HJ.out i x (Nat.le_refl _) hx))
      have hii : (i : Int) ≤ (i : Int) := Int.le_refl _
      rcases Nat.lt_or_ge i s.length with hin | hin
      · obtain ⟨a, ha⟩ : ∃ a, s[i]? = some a := ⟨_, List.getElem?_eq_getElem hin⟩
        obtain ⟨ad, rfl, _, ca⟩ := HV.out.at_ ha
        have hil : (i : Int) < (s.length : Int) := by omega
        have qd := decide_eq_true hil
        by_cases hav : a = v
        · have q := b_true hav
          have HC2 := Lib.hid (HC.out i (by rw [ha, hav]))
          clear ha hav hge
          go_wp2_with (go_at_call 85; ((with_reducible refine (HNA.out _ _).mono ?_); rintro e w' ⟨rfl, rfl⟩))
          exact bodyPost_ret (v := .tuple #[.int .i64 (i : Int), .bool true]) (by simp [results, Tryz.results58, go_sem]) rfl ⟨by rw [HPI.out, HC2.out], rfl⟩
        · have q := b_false hav
          have HC2 := Lib.hid (HNC.out (fun k hk hx => by
            rcases Nat.lt_or_ge k i with h3 | h3
            · have := HI.out k v h3 hx; omega
            · rcases Nat.lt_or_ge i k with h4 | h4
              · have := ss_lt HS.out h4 ha hx; have := HJ.out i a (Nat.le_refl _) ha; omega
              · obtain rfl : k = i := by omega
                rw [ha] at hx; exact hav (Option.some.inj hx)))
          clear ha hav hge
          go_wp2_with (go_at_call 85; ((with_reducible refine (HNA.out _ _).mono ?_); rintro e w' ⟨rfl, rfl⟩))
          exact bodyPost_ret (v := .tuple #[.int .i64 (i : Int), .bool false]) (by simp [results, Tryz.results58, go_sem]) rfl ⟨by rw [HPI.out, HC2.out], rfl⟩
      · have qd : decide ((i : Int) < (s.length : Int)) = false := decide_eq_false (by omega)
        have qd2 : (s.length : Int) ≤ (i : Int) := by omega
        have HC2 := Lib.hid (HNC.out (fun k hk hx => by have := HI.out k v (by omega) hx; omega))
        clear hge
        go_wp2_with (go_at_call 85; ((with_reducible refine (HNA.out _ _).mono ?_); rintro e w' ⟨rfl, rfl⟩))
        exact bodyPost_ret (v := .tuple #[.int .i64 (i : Int), .bool false]) (by simp [results, Tryz.results58, go_sem]) rfl ⟨by rw [HPI.out, HC2.out], rfl⟩

set_option maxRecDepth 100000 in
set_option maxHeartbeats 2000000 in
theorem fwo1_any (s : List Int) (vs : Value) (x : Int) (g B : Nat) (w : World) (hs : SS s) (hl : s.length ≤ 2000000000000) (hV : IV w B vs s) (hg : w.cell? ⟨g, 0, none⟩ = some vs) :
    Calls Tryz.prog 57 #[.int .i64 x, .pointer (some ⟨g, 0, none⟩)] w fun e w' => e = .returned (.bool (s.contains x)) ∧ w = w' := by
  have H := Lib.hid (fbs_any s vs x B w hs hl hV)
  obtain ⟨r, hr⟩ : ∃ r, s.contains x = r := ⟨_, rfl⟩
  unfold BsPost at H
  rw [hr] at H ⊢
  generalize ((posn s x : Nat) : Int) = p at *
  clear hV hs hr
  go_enter Tryz.func57, Tryz.ntmps57
  go_wp2_with (go_at_call 58; ((with_reducible refine (H.out).mono ?_); rintro e w' ⟨rfl, rfl⟩))
  go_ret
  exact ⟨rfl, rfl⟩

set_option maxRecDepth 100000 in
set_option maxHeartbeats 2000000 in
theorem fidxf_any (l s : List Int) (vl vs : Value) (g B : Nat) (w : World) (hs : SS s) (hls : s.length ≤ 2000000000000) (hVL : IV w B vl l) (hVS : IV w B vs s) (hg : w.cell? ⟨g, 0, none⟩ = some vs) :
    Calls Tryz.prog 55 #[vl, .func (.func 57) #[] #[.pointer (some ⟨g, 0, none⟩)]] w (IdxPost (l.any (fun v => s.contains v)) w) := by
  obtain ⟨A, c, rfl, h1, h2⟩ := hVL.len
  have hl : l.length ≤ 9223372036854775807 := by unfold maxLen at h2; omega
  have HV := Lib.hid hVL
  have HW := Lib.hid (fun x => fwo1_any s vs x g B w hs hls hVS hg)
  have HY := Lib.hid (fun k a (h : l[k]? = some a) (hc : s.contains a = true) => any_yes h hc)
  have HN := Lib.hid (any_no (l := l) (s := s))
  unfold IdxPost
  obtain ⟨r, hr⟩ : ∃ r, l.any (fun v => s.contains v) = r := ⟨_, rfl⟩
  rw [hr] at HY HN ⊢
  clear hr hVL hVS hs hg
  go_enter Tryz.func55, Tryz.ntmps55
  go_wp2
  go_loopw [8] (fun iv wr => wr = w ∧ ∃ k : Nat, k ≤ l.length ∧ iv = .int .i64 (k : Int) ∧ Hid (∀ j x, j < k → l[j]? = some x → s.contains x = false)) (fun iv _ => l.length - (intOf iv).toNat)
  case atStart => exact ⟨rfl, 0, Nat.zero_le _, rfl, Lib.hid (fun j x h => by omega)⟩
  case round =>
    obtain ⟨rfl, k, hk, rfl, HK⟩ := hrel
    rcases Nat.lt_or_ge k l.length with hlt | hge
    · obtain ⟨a, ha⟩ : ∃ a, l[k]? = some a := ⟨_, List.getElem?_eq_getElem hlt⟩
      obtain ⟨aa, rfl, _, ca⟩ := HV.out.at_ ha
      have hm1 : (k : Int) < (l.length : Int) := by omega
      have HWa := Lib.hid (HW.out a)
      cases hca : s.contains a
      · rw [hca] at HWa
        have HK2 := Lib.hid (show ∀ j x, j < k + 1 → l[j]? = some x → s.contains x = false from fun j x hj hx => by
          rcases Nat.lt_or_ge j k with h3 | h3
          · exact HK.out j x h3 hx
          · obtain rfl : j = k := by omega
            rw [ha] at hx; rw [← Option.some.inj hx]; exact hca)
        clear ha hca
        go_wp2_with (go_at_call 57; ((with_reducible refine (HWa.out).mono ?_); rintro e w' ⟨rfl, rfl⟩))
        go_roundw
        case rel => exact ⟨by first | rfl | trivial, k + 1, by omega, by go_num, HK2⟩
        case measure => simp [intOf]; omega
      · rw [hca] at HWa
        have HR := Lib.hid (HY.out k a ha hca)
        clear ha hca
        go_wp2_with (go_at_call 57; ((with_reducible refine (HWa.out).mono ?_); rintro e w' ⟨rfl, rfl⟩))
        go_ret
        exact ⟨(k : Int), rfl, fun _ => by omega, fun h => (by rw [HR.out] at h; cases h), rfl⟩
    · have q : (l.length : Int) ≤ (k : Int) := by omega
      have HR := Lib.hid (HN.out (fun j x hj hx => HK.out j x (by omega) hx))
      clear hge hk
      go_wp2_with fail
      go_ret
      exact ⟨-1, rfl, fun h => (by rw [HR.out] at h; cases h), fun _ => rfl, rfl⟩

set_option maxRecDepth 100000 in
theorem fconfun_any (l s : List Int) (vl vs : Value) (g B : Nat) (w : World) (hs : SS s) (hls : s.length ≤ 2000000000000) (hVL : IV w B vl l) (hVS : IV w B vs s) (hg : w.cell? ⟨g, 0, none⟩ = some vs) :
    Calls Tryz.prog 27 #[vl, .func (.func 57) #[] #[.pointer (some ⟨g, 0, none⟩)]] w fun e w' => e = .returned (.bool (l.any (fun v => s.contains v))) ∧ w = w' := by
  have H := Lib.hid (fidxf_any l s vl vs g B w hs hls hVL hVS hg)
  obtain ⟨r, hr⟩ : ∃ r, l.any (fun v => s.contains v) = r := ⟨_, rfl⟩
  unfold IdxPost at H
  rw [hr] at H ⊢
  clear hVL hVS hs hg hr
  go_enter Tryz.func27, Tryz.ntmps27
  go_wp2_with fail
  go_at_call 55
  (with_reducible refine (H.out).mono ?_)
  rintro e w' ⟨z, rfl, hz1, hz2, rfl⟩
  cases r
  · obtain rfl := hz2 rfl
    clear hz1 hz2
    go_wp2_with fail
    go_ret
    exact ⟨rfl, rfl⟩
  · have hz := hz1 rfl
    clear hz1 hz2
    go_wp2_with fail
    go_ret
    exact ⟨by simp, rfl⟩

set_option maxRecDepth 100000 in
set_option maxHeartbeats 4000000 in
theorem fwout_any (s l : List Int) (vs vl : Value) (w : World) (hs : SS s) (hls : s.length ≤ 2000000000000) (hVS : IV w w.heap.size vs s) (hVL : IV w w.heap.size vl l) :
    Calls Tryz.prog 32 #[vs, vl] w (GivesI w (wout s l)) := by
  obtain ⟨i0, hi0, hz0, hz1, hz2⟩ := info_parts infoI
  have hb1 : Below w.heap.size w (w.alloc (.cells #[vs] 49)) := (Below.refl _ _).alloc (Nat.le_refl _) _
  have HVS := Lib.hid hVS
  have HVL := Lib.hid hVL
  have HB1 := Lib.hid hb1
  have cbx : (w.alloc (.cells #[vs] 49)).cell? ⟨w.heap.size, 0, none⟩ = some vs := (Blk.new w 49 #[vs]).cell 0
  have HCF := Lib.hid (fconfun_any l s vl vs w.heap.size w.heap.size _ hs hls (hVL.keep (fun p hp => hb1.cell hp)) (hVS.keep (fun p hp => hb1.cell hp)) cbx)
  have HCN := Lib.hid (fun x w' (h : IV w' w.heap.size vl l) => con_any l vl x w.heap.size w' h)
  obtain ⟨A, c, rfl, h1, h2⟩ := hVS.len
  have hlc : s.length ≤ 9223372036854775807 := by omega
  cases hc : l.any (fun v => s.contains v)
  · rw [hc] at HCF
    have HR := Lib.hid (wout_none hc)
    clear hVS hVL hs hb1 hc
    go_enter Tryz.func32, Tryz.ntmps32
    go_wp2_with (go_at_call 27; ((with_reducible refine (HCF.out).mono ?_); rintro e w' ⟨rfl, rfl⟩))
    go_ret
    exact ⟨_, rfl, by rw [HR.out]; exact HVS.out.below HB1.out, HB1.out⟩
  · rw [hc] at HCF
    obtain ⟨R, hR⟩ : ∃ R, wout s l = R := ⟨_, rfl⟩
    have HR := Lib.hid (show wout (s.take s.length) l = R by rw [List.take_length]; exact hR)
    rw [hR]
    clear hVS hVL hs hb1 hc hR
    go_enter Tryz.func32, Tryz.ntmps32
    go_wp2_with (go_at_call 27; ((with_reducible refine (HCF.out).mono ?_); rintro e w' ⟨rfl, rfl⟩))
    go_loopw [5, 15] (fun o iv wr => ∃ (k : Nat) (out : List Int), k ≤ s.length ∧ iv = .int .i64 (k : Int) ∧ out.length ≤ s.length ∧ Hid (wout (s.take k) l = out) ∧ Hid (OI w.heap.size wr o out) ∧ Hid (Below w.heap.size w wr)) (fun _ iv _ => s.length - (intOf iv).toNat)
    case atStart => exact ⟨0, [], Nat.zero_le _, rfl, Nat.zero_le _, Lib.hid rfl, Lib.hid (World.ownsRow_nil _ _ _ _), HB1⟩
    case round =>
      obtain ⟨k, out, hk, rfl, hol, HQ, HO, HB⟩ := hrel
      have hsz := HB.out.size
      rcases Nat.lt_or_ge k s.length with hlt | hge
      · obtain ⟨a, ha⟩ : ∃ a, s[k]? = some a := ⟨_, List.getElem?_eq_getElem hlt⟩
        obtain ⟨aa, rfl, _, ca⟩ := (HVS.out.keep (fun p hp => HB.out.cell hp)).at_ ha
        have hm1 : (k : Int) < (s.length : Int) := by omega
        have HCa := Lib.hid (HCN.out a wr (HVL.out.keep (fun p hp => HB.out.cell hp)))
        have HQ2 := Lib.hid (wout_step (l := l) ha)
        rw [HQ.out] at HQ2
        cases hca : l.contains a
        · rw [hca] at HCa HQ2
          rw [if_neg (by decide)] at HQ2
          have hok : out.length + 1 ≤ s.length := by
            have := wout_len (s.take (k + 1)) l
            rw [HQ2.out, List.length_append, List.length_take] at this
            simp at this; omega
          clear ha hca
          go_wp2_with (first
            | (go_at_call 15; ((with_reducible refine (HCa.out).mono ?_); rintro e w' ⟨rfl, rfl⟩))
            | (at_builtin; refine wpList_append_own _ rfl _ _ 49 rfl w.heap.size 3 i0 (.int .i64 0) 1 8 undSf hi0 hz0 hz1 hz2 rfl (by decide) _ _ _ rfl (World.ownsRow.alloc HO.out _) ⟨wr.heap.size, 0, none⟩ 1 1 [_] rfl rfl (one_cell wr _ _) (one_one _) (by unfold maxLen; omega) (by omega) (by simp; omega) ?_))
          intro v2 w2 hown2 hgrow2 _
          have HO2 := Lib.hid (OI.one hown2)
          have HB2 := Lib.hid ((HB.out.alloc hsz _).grown hgrow2 (by simp; omega) (fun j hj => (World.ownsRow.lt HO.out j hj).1))
          clear hown2 hgrow2
          go_wp2_with fail
          go_roundw
          case rel => exact ⟨k + 1, _, by omega, by go_num, by simp; omega, HQ2, HO2, HB2⟩
          case measure => simp [intOf]; omega
        · rw [hca] at HCa HQ2
          rw [if_pos rfl] at HQ2
          clear ha hca
          go_wp2_with (go_at_call 15; ((with_reducible refine (HCa.out).mono ?_); rintro e w' ⟨rfl, rfl⟩))
          go_roundw
          case rel => exact ⟨k + 1, _, by omega, by go_num, hol, HQ2, HO, HB⟩
          case measure => simp [intOf]; omega
      · obtain rfl : k = s.length := by omega
        have q : (s.length : Int) ≤ (s.length : Int) := Int.le_refl _
        have HRR := Lib.hid (show out = R by rw [← HQ.out]; exact HR.out)
        clear hge hk
        go_wp2_with fail
        go_ret
        exact ⟨_, rfl, by rw [← HRR.out]; exact HO.out.iv, HB.out⟩

end Go.Proofs.YtjhdlnllhjffkaaGreatDoor
