/- For every number of a primitive and every list of nodes, 'shrink' and the document agree on what the primitive of these constants is: the lift of the walk to the row. -/
import Derived.Test.YtcpmiplofbfmfaaGreatDoorA50
import Derived.Lib.SmallJoins
set_option linter.all false
set_option maxRecDepth 100000
namespace Go.Proofs.YtcpmiplofbfmfaaGreatDoor
open Go.Proofs.Tryz
open Go.Deep Go.RowKit Go.ChangeShapes Go.WideShapes Go.ChangeAt Go.Joins LamM CpsM FloM ShrM
theorem UT:laidOutB prog=true:=by kernel_rfl
theorem P_{H:Type}{P:Program}{t0 t1:TypeId}{d0 d1:DataW H}(h:(DataW.weightsEach P [t0,t1] [d0,d1]).all (·≤reachBytes)=true):jM P t1 d1:=fun n hn=>by
 have:=List.all_eq_true.1 h n (DataW.weights_mem_each (ts:=[t0,t1]) (ds:=[d0,d1]) (j:=1) rfl rfl n hn)
 simpa using this
theorem rH(os:Os)(td:os.Started)(H:Type)(enc:TypeId×Value→H):
 ReturnsInHanded {} Tryz.checked os 3 .any (fun w args=>(Rows.shrinkFoldsSpec.pre enc prog Tryz.f3 [] false w args∧laidMetH prog Rows.shrinkFoldsRow.laid w)∧sizedMet enc prog Tryz.f3 (OpenSpec.ofChange Rows.shrinkFoldsSpec) false w args)
  (Rows.shrinkFoldsSpec.post enc prog Tryz.f3 false true false false):=by
 refine qo (C:=Tryz.checked) (X:=fun w _=>laidMetH prog Rows.shrinkFoldsRow.laid w) (fun _ _ _ hh h=>h.of_heap hh) TU td (by kernel_rfl) func3
  (ChangeSpec.witness_shaped (enc:=enc) (C:=Tryz.checked) (os:=os) (X:=fun w _=>laidMetH prog Rows.shrinkFoldsRow.laid w) false (World.laidAll prog os Rows.shrinkFoldsRow.laid) #[.int .i64 0, .slice none 0 0] 8 (World.laidAll_os _ _ _)
   (World.shaped_of_ZipB (by kernel_rfl) (by kernel_rfl)) (by kernel_rfl) (by kernel_rfl) (by kernel_rfl)
   (by rw [MakeChecks.laidMetH_plain _ _ _ (by kernel_rfl)];exact laidMet_laidAll _ (by kernel_rfl) (by kernel_rfl))) ?_
 intro W base args ds gs Ch aij hW hL JO aik;have dq:(DataW.weightsEach prog (Tryz.f3.params.toList++Rows.shrinkFoldsSpec.plain.varTypes prog) (ds++gs)).all (·≤reachBytes)=true:=aik
 clear aik;have Fh: ∀(j:Nat) t v,Tryz.f3.params[j]? =some t→args[j]? =some v→Value.okWide prog W .any base t v:=aij;have hW':=hW;obtain⟨p,q,hA0,hV,rfl,_,_⟩:=hW;have hA:DataW.TrodAll enc prog W 0 (fun _=>true) true Tryz.f3.params.toList args.toList ds p:=hA0
 rw [params3]at hA Fh dq;obtain⟨v0,v1,d0,d1,p0,p1,rfl,rfl,rfl,h0,h1⟩:=trodAll_two hA;obtain⟨rfl,rfl⟩:=trodVars_none hV;obtain⟨x0,rfl,rfl,rfl,w0⟩:=open_int (by kernel_rfl:prog.underlying 3=some (.int .i64)) (Fh 0 3 v0 rfl rfl) h0
 have hz:(DataW.weightsEach prog [3,22] [_,d1]).all (·≤reachBytes)=true:=dq
 have h1':=h1;obtain⟨fu,h2⟩:=h1';have hl:=P_ hz;obtain⟨xa,xl,xc,hv⟩:=okWide_slice underlying22 (Fh 1 22 v1 rfl rfl);rw [show v1.cells.toList=[v1]by rw [hv];rfl]at h2
 obtain⟨L,hN,amI⟩:=DP (P:=prog) (x:=(d1,p1)) (t:=22) underlying22 (by kernel_rfl) underlying28 (by kernel_rfl) (by kernel_rfl) (by kernel_rfl) (by kernel_rfl) (by kernel_rfl) (by kernel_rfl) (by kernel_rfl) (by kernel_rfl)
  rfl rfl rfl underlying25 (by kernel_rfl) (by kernel_rfl) (by kernel_rfl) underlying26 underlying176 (by kernel_rfl) (by kernel_rfl) (by kernel_rfl) (by kernel_rfl) (by kernel_rfl) (by kernel_rfl) h2 hl
 simp only [ZQ]at hW';refine(Nx x0 L v1 W (ac8 hL JO) amI hN).mono fun e W' ⟨he,hb⟩=> ?_
 subst he;exact⟨_,rfl,_,_,_,[],_,[],hW',trodAll_mk1 (shut_bool underlying4 _),trodAll_mk2 (shut_int (by kernel_rfl) w0) (Below.trod UT (by kernel_rfl) (Zq (by kernel_rfl)) h1 hb (fun y hy=>by have:=hW'.lt y;simp at this;exact this (by simp [hy]))),rfl,hb.frame _,fun h=>by cases h⟩
end Go.Proofs.YtcpmiplofbfmfaaGreatDoor
