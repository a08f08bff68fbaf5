/- Shrink: the reference's primitives of two ints. -/
import Derived.Test.YtcpmiplofbfmfaaGreatDoorA38
set_option linter.all false
set_option maxRecDepth 100000
set_option maxHeartbeats 8000000
namespace Go.Proofs.YtcpmiplofbfmfaaGreatDoor
open Go.Proofs.Tryz
open Go.Lib renaming hid→J
open Go.RowKit LamM CpsM FloM ShrM
theorem Uz(mv:Value)(S:List UInt8)(ab a b:Int)(ty rv v:Value)(ha:ax a=true)(hb:ax b=true)(w:World)(hV:VL w w.heap.size v [.int a, .int b]):Calls prog 58 #[mv, .agg #[.string ⟨S.toArray⟩, .int .i64 0, .int .i64 ab,ty,rv],v] w (aD (fg S a b) w):=by
 obtain⟨ad,c,rfl,bJ,hX,hY⟩:=jH hV;obtain⟨W,hW⟩: ∃W,(w.alloc (.cells #[.string ⟨S.toArray⟩, .int .i64 0, .int .i64 ab,ty,rv] 36)).alloc (.cells aL 49)=W:=⟨_,rfl⟩;have bi:=J (show Below w.heap.size w W by rw [←hW];exact aA _ _ _)
 have HP:=J (show ai W w.heap.size 36 #[.string ⟨S.toArray⟩, .int .i64 0, .int .i64 ab,ty,rv]by rw [←hW];exact(ai.new _ _ _).alloc _)
 have HZ:=J (show ai W (w.heap.size+1) 49 aL by rw [←hW];exact am (by simp) _ _)
 have p0:=HP.out.c0;have p1:=HP.out.c1;have HF:=J (fun w=>ke S a b ha hb w)
 generalize fg S a b=q at *;unfold aD at *;have K0:=J (show W.drew.cell? ⟨w.heap.size,0,none⟩=some (.string ⟨S.toArray⟩)∧W.drew.cell? ⟨ad.block,ad.off+1,none⟩=some (.int .i64 a)∧W.drew.cell? ⟨ad.block,ad.off+7+1,none⟩=some (.int .i64 b)from⟨p0,(hX.below bJ bi.out).2.1,(hY.below (p:=⟨ad.block,ad.off+7,none⟩) bJ bi.out).2.1⟩)
 clear ha hb hV;go_enter func58,ntmps58;go_upto_region 2 with fail
 go_region_held3 (fun w'=>w'.cell? ⟨w.heap.size,0,none⟩=some (.string ⟨S.toArray⟩)∧w'.cell? ⟨ad.block,ad.off+1,none⟩=some (.int .i64 a)∧w'.cell? ⟨ad.block,ad.off+7+1,none⟩=some (.int .i64 b)) (first|with_reducible exact K0.out|with_reducible exact K5.out|(refine⟨?_,?_,?_⟩<;>first|with_reducible exact K6.out|with_reducible exact K7.out|go_keep))
  (first|(go_at_call 100;(with_reducible refine(HF.out _).mono ?_);rintro e w5 ⟨rfl,hb⟩;have HB:=J ((below_drewN bi.out 1).trans (hb.mono (below_drewN bi.out 1).size));have BX:=J (HZ.out.drew.below hb HZ.out.drew.lt);have Fm:=J (HP.out.drew.below hb HP.out.drew.lt);have K5:=J (show w5.cell? ⟨w.heap.size,0,none⟩=some (.string ⟨S.toArray⟩)∧w5.cell? ⟨ad.block,ad.off+1,none⟩=some (.int .i64 a)∧w5.cell? ⟨ad.block,ad.off+7+1,none⟩=some (.int .i64 b)from⟨Fm.out.cell 0,(hX.below bJ HB.out).2.1,(hY.below (p:=⟨ad.block,ad.off+7,none⟩) bJ HB.out).2.1⟩);have HN:=J (az (r:=q) HB.out (zl w.heap.size 1));have K6:=J (show(aR w5 (w.heap.size+1) q).cell? ⟨ad.block,ad.off+1,none⟩=some (.int .i64 a)from(hX.below bJ HN.out).2.1);have K7:=J (show(aR w5 (w.heap.size+1) q).cell? ⟨ad.block,ad.off+7+1,none⟩=some (.int .i64 b)from(hY.below (p:=⟨ad.block,ad.off+7,none⟩) bJ HN.out).2.1);unfold aR at K6 K7;obtain⟨c0,c1,c2,c3,c4,c5,c6⟩:=ae BX.out;obtain⟨f0,f1,f2,f3,f4,f5,f6⟩:=ar BX.out;clear hb HN))
 go_wp2_with fail
 obtain⟨z0,z1,z2,z3,z4,z5,z6⟩:=ae (aF (r:=q) BX.out);unfold aR at z0 z1 z2 z3 z4 z5 z6;refine zi (v:= .tuple #[aY q, .int .i64 (rc q)]) (by simp [results,results58,go_sem,z0,z1,z2,z3,z4,z5,z6]) rfl ⟨rfl,az (r:=q) HB.out (zl _ 1)⟩
theorem j6(mv:Value)(con:Int)(hc:con≠0)(ab a b:Int)(ty rv v:Value)(ha:ax a=true)(hb:ax b=true)(w:World)(hV:VL w w.heap.size v [.int a, .int b]):(Calls prog 58 #[mv, .agg #[.string ⟨#[100,105,118]⟩, .int .i64 con, .int .i64 ab,ty,rv],v] w (aD (fg [100,105,118] a b) w))∧(Calls prog 58 #[mv, .agg #[.string ⟨#[109,111,100]⟩, .int .i64 con, .int .i64 ab,ty,rv],v] w (aD (fg [109,111,100] a b) w))∧(Calls prog 58 #[mv, .agg #[.string ⟨#[113,117,111,116]⟩, .int .i64 con, .int .i64 ab,ty,rv],v] w (aD (fg [113,117,111,116] a b) w))∧(Calls prog 58 #[mv, .agg #[.string ⟨#[114,101,109]⟩, .int .i64 con, .int .i64 ab,ty,rv],v] w (aD (fg [114,101,109] a b) w)):=by
 refine⟨?_,?_,?_,?_⟩;have aj:=J (rfl:0=0)
 rotate_left;have aG:=J (rfl:0=0)
 rotate_left;have aP:=J (rfl:0=0)
 all_goals
  obtain⟨ad,c,rfl,bJ,hX,hY⟩:=jH hV;have k0:=ag hc;clear hc
  first
   |replace aj:=aj
    obtain⟨W,hW⟩: ∃W,(w.alloc (.cells #[.string ⟨#[100,105,118]⟩, .int .i64 con, .int .i64 ab,ty,rv] 36)).alloc (.cells aL 49)=W:=⟨_,rfl⟩
   |replace aG:=aG
    obtain⟨W,hW⟩: ∃W,(w.alloc (.cells #[.string ⟨#[109,111,100]⟩, .int .i64 con, .int .i64 ab,ty,rv] 36)).alloc (.cells aL 49)=W:=⟨_,rfl⟩
   |replace aP:=aP
    obtain⟨W,hW⟩: ∃W,(w.alloc (.cells #[.string ⟨#[113,117,111,116]⟩, .int .i64 con, .int .i64 ab,ty,rv] 36)).alloc (.cells aL 49)=W:=⟨_,rfl⟩
   |obtain⟨W,hW⟩: ∃W,(w.alloc (.cells #[.string ⟨#[114,101,109]⟩, .int .i64 con, .int .i64 ab,ty,rv] 36)).alloc (.cells aL 49)=W:=⟨_,rfl⟩
  have bi:=J (show Below w.heap.size w W by rw [←hW];exact aA _ _ _)
  first
   |replace aj:=aj
    have HP:=J (show ai W w.heap.size 36 #[.string ⟨#[100,105,118]⟩, .int .i64 con, .int .i64 ab,ty,rv]by rw [←hW];exact(ai.new _ _ _).alloc _)
   |replace aG:=aG
    have HP:=J (show ai W w.heap.size 36 #[.string ⟨#[109,111,100]⟩, .int .i64 con, .int .i64 ab,ty,rv]by rw [←hW];exact(ai.new _ _ _).alloc _)
   |replace aP:=aP
    have HP:=J (show ai W w.heap.size 36 #[.string ⟨#[113,117,111,116]⟩, .int .i64 con, .int .i64 ab,ty,rv]by rw [←hW];exact(ai.new _ _ _).alloc _)
   |have HP:=J (show ai W w.heap.size 36 #[.string ⟨#[114,101,109]⟩, .int .i64 con, .int .i64 ab,ty,rv]by rw [←hW];exact(ai.new _ _ _).alloc _)
  have HZ:=J (show ai W (w.heap.size+1) 49 aL by rw [←hW];exact am (by simp) _ _)
  have p0:=HP.out.c0;have p1:=HP.out.c1
  first
   |replace aj:=aj
    have HF:=J (fun w=>ke [100,105,118] a b ha hb w)
    generalize fg [100,105,118] a b=q at *
   |replace aG:=aG
    have HF:=J (fun w=>ke [109,111,100] a b ha hb w)
    generalize fg [109,111,100] a b=q at *
   |replace aP:=aP
    have HF:=J (fun w=>ke [113,117,111,116] a b ha hb w)
    generalize fg [113,117,111,116] a b=q at *
   |have HF:=J (fun w=>ke [114,101,109] a b ha hb w)
    generalize fg [114,101,109] a b=q at *
  unfold aD at *
  first
   |replace aj:=aj
    have K0:=J (show W.drew.cell? ⟨w.heap.size,0,none⟩=some (.string ⟨#[100,105,118]⟩)∧W.drew.cell? ⟨ad.block,ad.off+1,none⟩=some (.int .i64 a)∧W.drew.cell? ⟨ad.block,ad.off+7+1,none⟩=some (.int .i64 b)from⟨p0,(hX.below bJ bi.out).2.1,(hY.below (p:=⟨ad.block,ad.off+7,none⟩) bJ bi.out).2.1⟩)
   |replace aG:=aG
    have K0:=J (show W.drew.cell? ⟨w.heap.size,0,none⟩=some (.string ⟨#[109,111,100]⟩)∧W.drew.cell? ⟨ad.block,ad.off+1,none⟩=some (.int .i64 a)∧W.drew.cell? ⟨ad.block,ad.off+7+1,none⟩=some (.int .i64 b)from⟨p0,(hX.below bJ bi.out).2.1,(hY.below (p:=⟨ad.block,ad.off+7,none⟩) bJ bi.out).2.1⟩)
   |replace aP:=aP
    have K0:=J (show W.drew.cell? ⟨w.heap.size,0,none⟩=some (.string ⟨#[113,117,111,116]⟩)∧W.drew.cell? ⟨ad.block,ad.off+1,none⟩=some (.int .i64 a)∧W.drew.cell? ⟨ad.block,ad.off+7+1,none⟩=some (.int .i64 b)from⟨p0,(hX.below bJ bi.out).2.1,(hY.below (p:=⟨ad.block,ad.off+7,none⟩) bJ bi.out).2.1⟩)
   |have K0:=J (show W.drew.cell? ⟨w.heap.size,0,none⟩=some (.string ⟨#[114,101,109]⟩)∧W.drew.cell? ⟨ad.block,ad.off+1,none⟩=some (.int .i64 a)∧W.drew.cell? ⟨ad.block,ad.off+7+1,none⟩=some (.int .i64 b)from⟨p0,(hX.below bJ bi.out).2.1,(hY.below (p:=⟨ad.block,ad.off+7,none⟩) bJ bi.out).2.1⟩)
  clear ha hb hV;go_enter func58,ntmps58;go_upto_region 2 with fail
  first
   |replace aj:=aj
    go_region_held3 (fun w'=>w'.cell? ⟨w.heap.size,0,none⟩=some (.string ⟨#[100,105,118]⟩)∧w'.cell? ⟨ad.block,ad.off+1,none⟩=some (.int .i64 a)∧w'.cell? ⟨ad.block,ad.off+7+1,none⟩=some (.int .i64 b)) (first|with_reducible exact K0.out|with_reducible exact K5.out|(refine⟨?_,?_,?_⟩<;>first|with_reducible exact K6.out|with_reducible exact K7.out|go_keep))
     (first|(go_at_call 100;(with_reducible refine(HF.out _).mono ?_);rintro e w5 ⟨rfl,hb⟩;have HB:=J ((below_drewN bi.out 1).trans (hb.mono (below_drewN bi.out 1).size));have BX:=J (HZ.out.drew.below hb HZ.out.drew.lt);have Fm:=J (HP.out.drew.below hb HP.out.drew.lt);have K5:=J (show w5.cell? ⟨w.heap.size,0,none⟩=some (.string ⟨#[100,105,118]⟩)∧w5.cell? ⟨ad.block,ad.off+1,none⟩=some (.int .i64 a)∧w5.cell? ⟨ad.block,ad.off+7+1,none⟩=some (.int .i64 b)from⟨Fm.out.cell 0,(hX.below bJ HB.out).2.1,(hY.below (p:=⟨ad.block,ad.off+7,none⟩) bJ HB.out).2.1⟩);have HN:=J (az (r:=q) HB.out (zl w.heap.size 1));have K6:=J (show(aR w5 (w.heap.size+1) q).cell? ⟨ad.block,ad.off+1,none⟩=some (.int .i64 a)from(hX.below bJ HN.out).2.1);have K7:=J (show(aR w5 (w.heap.size+1) q).cell? ⟨ad.block,ad.off+7+1,none⟩=some (.int .i64 b)from(hY.below (p:=⟨ad.block,ad.off+7,none⟩) bJ HN.out).2.1);unfold aR at K6 K7;obtain⟨c0,c1,c2,c3,c4,c5,c6⟩:=ae BX.out;obtain⟨f0,f1,f2,f3,f4,f5,f6⟩:=ar BX.out;clear hb HN))
   |replace aG:=aG
    go_region_held3 (fun w'=>w'.cell? ⟨w.heap.size,0,none⟩=some (.string ⟨#[109,111,100]⟩)∧w'.cell? ⟨ad.block,ad.off+1,none⟩=some (.int .i64 a)∧w'.cell? ⟨ad.block,ad.off+7+1,none⟩=some (.int .i64 b)) (first|with_reducible exact K0.out|with_reducible exact K5.out|(refine⟨?_,?_,?_⟩<;>first|with_reducible exact K6.out|with_reducible exact K7.out|go_keep))
     (first|(go_at_call 100;(with_reducible refine(HF.out _).mono ?_);rintro e w5 ⟨rfl,hb⟩;have HB:=J ((below_drewN bi.out 1).trans (hb.mono (below_drewN bi.out 1).size));have BX:=J (HZ.out.drew.below hb HZ.out.drew.lt);have Fm:=J (HP.out.drew.below hb HP.out.drew.lt);have K5:=J (show w5.cell? ⟨w.heap.size,0,none⟩=some (.string ⟨#[109,111,100]⟩)∧w5.cell? ⟨ad.block,ad.off+1,none⟩=some (.int .i64 a)∧w5.cell? ⟨ad.block,ad.off+7+1,none⟩=some (.int .i64 b)from⟨Fm.out.cell 0,(hX.below bJ HB.out).2.1,(hY.below (p:=⟨ad.block,ad.off+7,none⟩) bJ HB.out).2.1⟩);have HN:=J (az (r:=q) HB.out (zl w.heap.size 1));have K6:=J (show(aR w5 (w.heap.size+1) q).cell? ⟨ad.block,ad.off+1,none⟩=some (.int .i64 a)from(hX.below bJ HN.out).2.1);have K7:=J (show(aR w5 (w.heap.size+1) q).cell? ⟨ad.block,ad.off+7+1,none⟩=some (.int .i64 b)from(hY.below (p:=⟨ad.block,ad.off+7,none⟩) bJ HN.out).2.1);unfold aR at K6 K7;obtain⟨c0,c1,c2,c3,c4,c5,c6⟩:=ae BX.out;obtain⟨f0,f1,f2,f3,f4,f5,f6⟩:=ar BX.out;clear hb HN))
   |replace aP:=aP
    go_region_held3 (fun w'=>w'.cell? ⟨w.heap.size,0,none⟩=some (.string ⟨#[113,117,111,116]⟩)∧w'.cell? ⟨ad.block,ad.off+1,none⟩=some (.int .i64 a)∧w'.cell? ⟨ad.block,ad.off+7+1,none⟩=some (.int .i64 b)) (first|with_reducible exact K0.out|with_reducible exact K5.out|(refine⟨?_,?_,?_⟩<;>first|with_reducible exact K6.out|with_reducible exact K7.out|go_keep))
     (first|(go_at_call 100;(with_reducible refine(HF.out _).mono ?_);rintro e w5 ⟨rfl,hb⟩;have HB:=J ((below_drewN bi.out 1).trans (hb.mono (below_drewN bi.out 1).size));have BX:=J (HZ.out.drew.below hb HZ.out.drew.lt);have Fm:=J (HP.out.drew.below hb HP.out.drew.lt);have K5:=J (show w5.cell? ⟨w.heap.size,0,none⟩=some (.string ⟨#[113,117,111,116]⟩)∧w5.cell? ⟨ad.block,ad.off+1,none⟩=some (.int .i64 a)∧w5.cell? ⟨ad.block,ad.off+7+1,none⟩=some (.int .i64 b)from⟨Fm.out.cell 0,(hX.below bJ HB.out).2.1,(hY.below (p:=⟨ad.block,ad.off+7,none⟩) bJ HB.out).2.1⟩);have HN:=J (az (r:=q) HB.out (zl w.heap.size 1));have K6:=J (show(aR w5 (w.heap.size+1) q).cell? ⟨ad.block,ad.off+1,none⟩=some (.int .i64 a)from(hX.below bJ HN.out).2.1);have K7:=J (show(aR w5 (w.heap.size+1) q).cell? ⟨ad.block,ad.off+7+1,none⟩=some (.int .i64 b)from(hY.below (p:=⟨ad.block,ad.off+7,none⟩) bJ HN.out).2.1);unfold aR at K6 K7;obtain⟨c0,c1,c2,c3,c4,c5,c6⟩:=ae BX.out;obtain⟨f0,f1,f2,f3,f4,f5,f6⟩:=ar BX.out;clear hb HN))
   |go_region_held3 (fun w'=>w'.cell? ⟨w.heap.size,0,none⟩=some (.string ⟨#[114,101,109]⟩)∧w'.cell? ⟨ad.block,ad.off+1,none⟩=some (.int .i64 a)∧w'.cell? ⟨ad.block,ad.off+7+1,none⟩=some (.int .i64 b)) (first|with_reducible exact K0.out|with_reducible exact K5.out|(refine⟨?_,?_,?_⟩<;>first|with_reducible exact K6.out|with_reducible exact K7.out|go_keep))
     (first|(go_at_call 100;(with_reducible refine(HF.out _).mono ?_);rintro e w5 ⟨rfl,hb⟩;have HB:=J ((below_drewN bi.out 1).trans (hb.mono (below_drewN bi.out 1).size));have BX:=J (HZ.out.drew.below hb HZ.out.drew.lt);have Fm:=J (HP.out.drew.below hb HP.out.drew.lt);have K5:=J (show w5.cell? ⟨w.heap.size,0,none⟩=some (.string ⟨#[114,101,109]⟩)∧w5.cell? ⟨ad.block,ad.off+1,none⟩=some (.int .i64 a)∧w5.cell? ⟨ad.block,ad.off+7+1,none⟩=some (.int .i64 b)from⟨Fm.out.cell 0,(hX.below bJ HB.out).2.1,(hY.below (p:=⟨ad.block,ad.off+7,none⟩) bJ HB.out).2.1⟩);have HN:=J (az (r:=q) HB.out (zl w.heap.size 1));have K6:=J (show(aR w5 (w.heap.size+1) q).cell? ⟨ad.block,ad.off+1,none⟩=some (.int .i64 a)from(hX.below bJ HN.out).2.1);have K7:=J (show(aR w5 (w.heap.size+1) q).cell? ⟨ad.block,ad.off+7+1,none⟩=some (.int .i64 b)from(hY.below (p:=⟨ad.block,ad.off+7,none⟩) bJ HN.out).2.1);unfold aR at K6 K7;obtain⟨c0,c1,c2,c3,c4,c5,c6⟩:=ae BX.out;obtain⟨f0,f1,f2,f3,f4,f5,f6⟩:=ar BX.out;clear hb HN))
  go_wp2_with fail
  obtain⟨z0,z1,z2,z3,z4,z5,z6⟩:=ae (aF (r:=q) BX.out);unfold aR at z0 z1 z2 z3 z4 z5 z6;refine zi (v:= .tuple #[aY q, .int .i64 (rc q)]) (by simp [results,results58,go_sem,z0,z1,z2,z3,z4,z5,z6]) rfl ⟨rfl,az (r:=q) HB.out (zl _ 1)⟩
def UB a b c d e f g h i j k l m:=(j6 a b c d e f g h i j k l m).1
def UC a b c d e f g h i j k l m:=(j6 a b c d e f g h i j k l m).2.1
def PF a b c d e f g h i j k l m:=(j6 a b c d e f g h i j k l m).2.2.1
def UD a b c d e f g h i j k l m:=(j6 a b c d e f g h i j k l m).2.2.2
set_option maxHeartbeats 2000000
theorem Le(M:Nat)(v0 v1 v2 v3 v4 v5 v6 v7 v8:Value)(S:List UInt8)(hS:S≠[100,105,118]∧S≠[109,111,100]∧S≠[113,117,111,116]∧S≠[114,101,109])(con ab:Int)(hc:con≠0)(ty rv:Value)(L:List At)(v:Value)(w:World)(hM:ai w M 59 #[v0,v1,v2,v3,v4,v5,v6,v7,v8])(hV:VL w w.heap.size v L):
 Calls prog 58 #[.pointer (some ⟨M,0,none⟩), .agg #[.string ⟨S.toArray⟩, .int .i64 con, .int .i64 ab,ty,rv],v] w (fun e w'=>e= .returned (.tuple #[aY .no, .int .i64 0])∧ai w' M 59 #[v0,v1,v2,v3,v4,v5,v6,v7, .int .i64 5]∧ap [M] w w'):=by
 obtain⟨A,c,rfl,_,_⟩:=hV.len;have s0:(S==[100,105,118])=false:=zf.2 hS.1;have s1:(S==[109,111,100])=false:=zf.2 hS.2.1;have s2:(S==[113,117,111,116])=false:=zf.2 hS.2.2.1;have s3:(S==[114,101,109])=false:=zf.2 hS.2.2.2;have k0:=ag hc;obtain⟨W,hW⟩: ∃W,(w.alloc (.cells #[.string ⟨S.toArray⟩, .int .i64 con, .int .i64 ab,ty,rv] 36)).alloc (.cells aL 49)=W:=⟨_,rfl⟩;have bw:=hM.lt;have fa:w.heap.size+1≠M:=by omega
 have iM:M≠w.heap.size+1:=by omega
 have bi:=J (show Below w.heap.size w W by rw [←hW];exact aA _ _ _)
 have LC:=J (ap.of_below (bs:=[M]) bi.out);have HP:=J (show ai W w.heap.size 36 #[.string ⟨S.toArray⟩, .int .i64 con, .int .i64 ab,ty,rv]by rw [←hW];exact(ai.new _ _ _).alloc _)
 have HZ:=J (show ai W (w.heap.size+1) 49 aL by rw [←hW];exact am (by simp) _ _)
 have p0:=HP.out.c0;have p1:=HP.out.c1;have HS:=J (gP M v0 v1 v2 v3 v4 v5 v6 v7 v8 W (hM.below bi.out hM.lt));clear hM hV hS hc;go_enter func58,ntmps58;go_wp2_with (go_at_call 101;(with_reducible refine(HS.out).mono ?_);rintro e w3 ⟨rfl,gR,dd⟩;have pF:=J gR;have lR:=J dd;have gf:=J (HZ.out.only dd (by simp [fa]));obtain⟨c0,c1,c2,c3,c4,c5,c6⟩:=ae gf.out;obtain⟨f0,f1,f2,f3,f4,f5,f6⟩:=ar gf.out;clear gR dd)
 obtain⟨z0,z1,z2,z3,z4,z5,z6⟩:=ae (aF (r:= .no) gf.out);have iL:=J (pF.out.only (w':=aR w3 (w.heap.size+1) .no) (bs:=[w.heap.size+1]) (by unfold aR;exact(((((((ap.refl [w.heap.size+1] w3).one).one).one).one).one).one).one) (by simp [iM]))
 have hI:=J (show ap [M] w (aR w3 (w.heap.size+1) .no)by unfold aR;exact((((((((LC.out.trans lR.out).setCell (p:=⟨w.heap.size+1,0,none⟩) (.inr (zl _ 1)) _).setCell (p:=⟨w.heap.size+1,1,none⟩) (.inr (zl _ 1)) _).setCell (p:=⟨w.heap.size+1,2,none⟩) (.inr (zl _ 1)) _).setCell (p:=⟨w.heap.size+1,3,none⟩) (.inr (zl _ 1)) _).setCell (p:=⟨w.heap.size+1,4,none⟩) (.inr (zl _ 1)) _).setCell (p:=⟨w.heap.size+1,5,none⟩) (.inr (zl _ 1)) _).setCell (p:=⟨w.heap.size+1,6,none⟩) (.inr (zl _ 1)) _))
 unfold aR at z0 z1 z2 z3 z4 z5 z6 iL hI;simp only [eP,ri,rb,rt]at z0 z1 z2 z3 z4 z5 z6 iL hI;refine zi (v:= .tuple #[aY .no, .int .i64 0]) (by simp [results,results58,go_sem,eP,ri,rb,rt,z0,z1,z2,z3,z4,z5,z6]) rfl ⟨rfl,iL.out,hI.out⟩
def Lf(a:At)(k:Int):Bool:=eP (dT a)==k
def aQ:List At→List Int→Bool
 |_,[]=>true
 |a::l,k::ks=>Lf a k&&aQ l ks
 |[],_::_=>false
theorem EA{L:List At}{ks:List Int}{i:Nat}{t:At}{k:Int}(ht:L[i]? =some t)(hk:ks[i]? =some k):aQ (L.drop i) (ks.drop i)=(Lf t k&&aQ (L.drop (i+1)) (ks.drop (i+1))):=by
 obtain⟨h1,rfl⟩:=zq.1 ht;obtain⟨h2,rfl⟩:=zq.1 hk;rw [Zw h1,Zw h2]
 rfl
theorem Jd(L:List At)(ks:List Int){i:Nat}(h:ks.length≤i):aQ (L.drop i) (ks.drop i)=true:=by
 rw [Zx h];cases L.drop i<;>rfl
theorem PG(L:List At)(ks:List Int)(hl:ks.length≤L.length)(h0: ∀k∈ks,k≠0)(v kv:Value)(w:World)(hV:VL w w.heap.size v L)(hK:IV w w.heap.size kv ks):
 Calls prog 57 #[v,kv] w fun e w'=>e= .returned (.bool (aQ L ks))∧∃n,w'=w.drewN n:=by
 obtain⟨NA,nc,rfl,lj,gW⟩:=hV.len;obtain⟨KA,kc,rfl,iP,hk2⟩:=hK.len;have HN:=J hV;have HK:=J hK;have HL:=J hl;have H0:=J h0;clear hV hK iP hk2 lj hl h0;go_enter func57,ntmps57;go_wp2_with fail
 go_loopw [5] (fun ix wr=>Hid (∃n,wr=w.drewN n)∧∃k:Nat,k≤ks.length∧ix= .int .i64 (k:Int)∧Hid (aQ L ks=aQ (L.drop k) (ks.drop k))) (fun ix _=>ks.length-(intOf ix).toNat)
 case atStart=>exact⟨J ⟨0,rfl⟩,0,zO _,rfl,J rfl⟩
 case round=>
  obtain⟨HW,k,hk,rfl,HE⟩:=hrel;have Wc:=J (show VL wr w.heap.size (.slice NA L.length nc) L by obtain⟨n,hn⟩:=HW.out;rw [hn];exact HN.out.keep (fun _ _=>rfl))
  have HKr:=J (show IV wr w.heap.size (.slice KA ks.length kc) ks by obtain⟨n,hn⟩:=HW.out;rw [hn];exact HK.out.keep (fun _ _=>rfl))
  have AN:=J (fun m=>show∃n,wr.drewN m=w.drewN n by obtain⟨n,hn⟩:=HW.out;exact⟨n+m,by rw [hn,Im]⟩)
  clear HW
  rcases zj k ks.length with bw|iE
  ·obtain⟨x,hx⟩: ∃x,ks[k]? =some x:=⟨_,zk bw⟩
   have ta:k<L.length:=zy bw HL.out;obtain⟨t,ht⟩: ∃t,L[k]? =some t:=⟨_,zk ta⟩;have HD:=J (HE.out.trans (EA ht hx));have xK:x≠0:=H0.out x (zC hx);have y0:(x !=0)=true:=by simpa using xK
   have y1:(x==0)=false:=by simpa using xK
   obtain⟨ad,rfl,_,d0,_⟩:=Wc.out.at_ ht;obtain⟨aa,rfl,_,c0⟩:=HKr.out.at_ hx;have dw:(k:Int)<(L.length:Int):=by omega
   have eU:(k:Int)<(ks.length:Int):=by omega
   clear ht hx HE hk bw ta xK;obtain⟨q,hq⟩: ∃q,eP (dT t)=q:=⟨_,rfl⟩;rw [hq]at d0;have HQ:=J hq;clear hq
   cases x1:(q !=x)
   ·have y1:(q==x)=true:=by simpa [bne]using x1
    have hE:=J (show aQ L ks=aQ (L.drop (k+1)) (ks.drop (k+1))by rw [HD.out];unfold Lf;rw [HQ.out,y1,zZ])
    clear HD;go_wp2_with fail;go_quiet (fail);go_wp2_with fail
    go_roundw
    case rel=>exact⟨J (AN.out _),k+1,by omega,by go_num,hE⟩
    case measure=>simp [intOf];omega
   ·have y1:(q==x)=false:=by simpa [bne]using x1
    have hE:=J (show aQ L ks=false by rw [HD.out];unfold Lf;rw [HQ.out,y1,Ib])
    clear HD;go_wp2_with fail;go_quiet (fail);go_wp2_with fail;go_ret;exact⟨by rw [hE.out];rfl,AN.out _⟩
  ·have hkl:k=ks.length:=by omega
   have hE:=J (show aQ L ks=true by rw [HE.out];exact Jd L ks (by omega))
   have dw: ¬(k:Int)<(ks.length:Int):=by omega
   clear HE hkl;go_wp2_with fail;go_ret;exact⟨by rw [hE.out];rfl,AN.out 0⟩
theorem bG(L:List At)(ks:List Int)(v:Value)(w W:World)(g n:Nat)(t:TypeId)(cs:Array Value)(hN:VL w w.heap.size v L)(hl:ks.length≤L.length)(h0: ∀k∈ks,k≠0)(hb:Below w.heap.size w W)(hB:ai W g t cs)(hc:cs=(aZ ks).toArray)(hn:ks.length=n)(hl2:n≤100):
 Calls prog 57 #[v, .slice (some ⟨g,0,none⟩) n n] W fun e w'=>e= .returned (.bool (aQ L ks))∧∃m,w'=W.drewN m:=by
 subst hn;exact PG L ks hl h0 v _ W (hN.below hb) (TQ hB hc hl2)
set_option maxHeartbeats 4000000
theorem Jk(mv:Value)(S:List UInt8)(ab a b:Int)(ty rv v:Value)(ha:ax a=true)(hb:ax b=true)(w:World)(hV:VL w w.heap.size v [.int a, .int b]):Calls prog 61 #[mv, .agg #[.string ⟨S.toArray⟩, .int .i64 2, .int .i64 ab,ty,rv],v] w (aD (fg S a b) w):=by
 obtain⟨ad,c,rfl,bJ,hX,hY⟩:=jH hV;obtain⟨W,hW⟩: ∃W,((w.alloc (.cells #[.string ⟨S.toArray⟩, .int .i64 2, .int .i64 ab,ty,rv] 36)).alloc (.cells aL 49)).alloc (.cells #[.int .i64 1, .int .i64 1] 3)=W:=⟨_,rfl⟩;have bi:=J (show Below w.heap.size w W by rw [←hW];exact cA _ _ _ _)
 have HP:=J (show ai W w.heap.size 36 #[.string ⟨S.toArray⟩, .int .i64 2, .int .i64 ab,ty,rv]by rw [←hW];exact((ai.new _ _ _).alloc _).alloc _)
 have HZ:=J (show ai W (w.heap.size+1) 49 aL by rw [←hW];exact(am (by simp) _ _).alloc _)
 have HK:=J (bG [.int a, .int b] [1,1] _ w W (w.heap.size+2) 2 3 #[.int .i64 1, .int .i64 1] hV (za _) (by decide) bi.out (by rw [←hW];exact am (by simp) _ _) rfl rfl (by decide))
 rw [show aQ [.int a, .int b] [1,1]=true from rfl]at HK
 have p1:((w.alloc (.cells #[.string ⟨S.toArray⟩, .int .i64 2, .int .i64 ab,ty,rv] 36)).alloc (.cells aL 49)).cell? ⟨w.heap.size,1,none⟩=some (.int .i64 2):=((ai.new _ _ _).alloc _).cell 1;have HF:=J (fun w=>ke S a b ha hb w)
 generalize fg S a b=q at *;unfold aD at *;have QV:=J (fun n=>show(W.drewN n).drew.cell? ⟨w.heap.size,0,none⟩=some (.string ⟨S.toArray⟩)∧(W.drewN n).drew.cell? ⟨ad.block,ad.off+1,none⟩=some (.int .i64 a)∧(W.drewN n).drew.cell? ⟨ad.block,ad.off+7+1,none⟩=some (.int .i64 b)from⟨HP.out.cell 0,(hX.below bJ bi.out).2.1,(hY.below (p:=⟨ad.block,ad.off+7,none⟩) bJ bi.out).2.1⟩)
 clear ha hb hV;go_enter func61,ntmps61;go_upto_region 2 with(go_at_call 57;(with_reducible refine(HK.out).mono ?_);rintro e w1 ⟨rfl,n,rfl⟩;have K0:=J (QV.out n))
 go_region_held3 (fun w'=>w'.cell? ⟨w.heap.size,0,none⟩=some (.string ⟨S.toArray⟩)∧w'.cell? ⟨ad.block,ad.off+1,none⟩=some (.int .i64 a)∧w'.cell? ⟨ad.block,ad.off+7+1,none⟩=some (.int .i64 b)) (first|with_reducible exact K0.out|with_reducible exact K5.out|(refine⟨?_,?_,?_⟩<;>first|with_reducible exact K6.out|with_reducible exact K7.out|go_keep))
  (first|(go_at_call 100;(with_reducible refine(HF.out _).mono ?_);rintro e w5 ⟨rfl,hb⟩;have bp:=J (below_drewN (below_drewN bi.out n) 1);have HB:=J (bp.out.trans (hb.mono bp.out.size));have BX:=J ((HZ.out.drewN n).drew.below hb (HZ.out.drewN n).drew.lt);have Fm:=J ((HP.out.drewN n).drew.below hb (HP.out.drewN n).drew.lt);have K5:=J (show w5.cell? ⟨w.heap.size,0,none⟩=some (.string ⟨S.toArray⟩)∧w5.cell? ⟨ad.block,ad.off+1,none⟩=some (.int .i64 a)∧w5.cell? ⟨ad.block,ad.off+7+1,none⟩=some (.int .i64 b)from⟨Fm.out.cell 0,(hX.below bJ HB.out).2.1,(hY.below (p:=⟨ad.block,ad.off+7,none⟩) bJ HB.out).2.1⟩);have HN:=J (az (r:=q) HB.out (zl w.heap.size 1));have K6:=J (show(aR w5 (w.heap.size+1) q).cell? ⟨ad.block,ad.off+1,none⟩=some (.int .i64 a)from(hX.below bJ HN.out).2.1);have K7:=J (show(aR w5 (w.heap.size+1) q).cell? ⟨ad.block,ad.off+7+1,none⟩=some (.int .i64 b)from(hY.below (p:=⟨ad.block,ad.off+7,none⟩) bJ HN.out).2.1);unfold aR at K6 K7;obtain⟨c0,c1,c2,c3,c4,c5,c6⟩:=ae BX.out;obtain⟨f0,f1,f2,f3,f4,f5,f6⟩:=ar BX.out;clear hb HN))
 go_wp2_with fail
 obtain⟨z0,z1,z2,z3,z4,z5,z6⟩:=ae (aF (r:=q) BX.out);unfold aR at z0 z1 z2 z3 z4 z5 z6;refine zi (v:= .tuple #[aY q, .int .i64 (rc q)]) (by simp [results,results61,go_sem,z0,z1,z2,z3,z4,z5,z6]) rfl ⟨rfl,az (r:=q) HB.out (zl _ 1)⟩
theorem Jl(mv:Value)(S:List UInt8)(ab:Int)(a b:List UInt8)(ty rv v:Value)(ha:a.length≤140737488355328)(hb:b.length≤140737488355328)(w:World)(hV:VL w w.heap.size v [.str a, .str b]):Calls prog 61 #[mv, .agg #[.string ⟨S.toArray⟩, .int .i64 3, .int .i64 ab,ty,rv],v] w (aD (aE (dK S (kR a b))) w):=by
 obtain⟨ad,c,rfl,bJ,hX,hY⟩:=jH hV;obtain⟨W,hW⟩: ∃W,((w.alloc (.cells #[.string ⟨S.toArray⟩, .int .i64 3, .int .i64 ab,ty,rv] 36)).alloc (.cells aL 49)).alloc (.cells #[.int .i64 3, .int .i64 3] 3)=W:=⟨_,rfl⟩;have bi:=J (show Below w.heap.size w W by rw [←hW];exact cA _ _ _ _)
 have HP:=J (show ai W w.heap.size 36 #[.string ⟨S.toArray⟩, .int .i64 3, .int .i64 ab,ty,rv]by rw [←hW];exact((ai.new _ _ _).alloc _).alloc _)
 have HZ:=J (show ai W (w.heap.size+1) 49 aL by rw [←hW];exact(am (by simp) _ _).alloc _)
 have HK:=J (bG [.str a, .str b] [3,3] _ w W (w.heap.size+2) 2 3 #[.int .i64 3, .int .i64 3] hV (za _) (by decide) bi.out (by rw [←hW];exact am (by simp) _ _) rfl rfl (by decide))
 rw [show aQ [.str a, .str b] [3,3]=true from rfl]at HK
 have p1:((w.alloc (.cells #[.string ⟨S.toArray⟩, .int .i64 3, .int .i64 ab,ty,rv] 36)).alloc (.cells aL 49)).cell? ⟨w.heap.size,1,none⟩=some (.int .i64 3):=((ai.new _ _ _).alloc _).cell 1;have HF:=J (fun w=>acX a b ha hb w)
 have HO:=J (fun w=>kU S (kR a b) w)
 have HT:=J (fun b w=>iZ b w)
 have AL:rc (aE (dK S (kR a b)))=0:=rfl;generalize dK S (kR a b)=q at *;generalize kR a b=p at *;unfold aD b_ at *;rw [AL];have QV:=J (fun n m=>show((W.drewN n).drew.drewN m).cell? ⟨w.heap.size,0,none⟩=some (.string ⟨S.toArray⟩)∧((W.drewN n).drew.drewN m).cell? ⟨ad.block,ad.off+3,none⟩=some (.string ⟨a.toArray⟩)∧((W.drewN n).drew.drewN m).cell? ⟨ad.block,ad.off+7+3,none⟩=some (.string ⟨b.toArray⟩)from⟨HP.out.cell 0,(hX.below bJ bi.out).2.2.2,(hY.below (p:=⟨ad.block,ad.off+7,none⟩) bJ bi.out).2.2.2⟩)
 clear ha hb hV AL;go_enter func61,ntmps61;go_upto_region 4 with(go_at_call 57;(with_reducible refine(HK.out).mono ?_);rintro e w1 ⟨rfl,n,rfl⟩;have K0:=J (show(W.drewN n).drew.cell? ⟨w.heap.size,0,none⟩=some (.string ⟨S.toArray⟩)∧(W.drewN n).drew.cell? ⟨ad.block,ad.off+3,none⟩=some (.string ⟨a.toArray⟩)∧(W.drewN n).drew.cell? ⟨ad.block,ad.off+7+3,none⟩=some (.string ⟨b.toArray⟩)from QV.out n 0))
 go_region_held3 (fun w'=>w'.cell? ⟨w.heap.size,0,none⟩=some (.string ⟨S.toArray⟩)∧w'.cell? ⟨ad.block,ad.off+3,none⟩=some (.string ⟨a.toArray⟩)∧w'.cell? ⟨ad.block,ad.off+7+3,none⟩=some (.string ⟨b.toArray⟩)) (first|with_reducible exact K0.out|with_reducible exact K1.out|with_reducible exact K5.out|(refine⟨?_,?_,?_⟩<;>first|with_reducible exact K6.out|with_reducible exact K7.out|go_keep))
  (first
   |(go_at_call 113;(with_reducible refine(HF.out _).mono ?_);rintro e w4 ⟨rfl,m,Fi⟩;have ce:=J (show Below w.heap.size w w4 by rw [Fi];exact below_drewN (below_drewN (below_drewN bi.out n) 1) m);have tv:=J (show ai w4 (w.heap.size+1) 49 aL by rw [Fi];exact(HZ.out.drewN n).drew.drewN m);have HP4:=J (show ai w4 w.heap.size 36 #[.string ⟨S.toArray⟩, .int .i64 3, .int .i64 ab,ty,rv]by rw [Fi];exact(HP.out.drewN n).drew.drewN m);have K1:=J (show w4.cell? ⟨w.heap.size,0,none⟩=some (.string ⟨S.toArray⟩)∧w4.cell? ⟨ad.block,ad.off+3,none⟩=some (.string ⟨a.toArray⟩)∧w4.cell? ⟨ad.block,ad.off+7+3,none⟩=some (.string ⟨b.toArray⟩)by rw [Fi];exact QV.out n m);clear Fi)
   |(go_at_call 112;(with_reducible refine(HO.out _).mono ?_);rintro e w4 ⟨rfl,rfl⟩)
   |(go_at_call 63;(with_reducible refine(HT.out q _).mono ?_);rintro e w5 ⟨rfl,hb⟩;have HB:=J (ce.out.trans (hb.mono ce.out.size));have BX:=J (tv.out.below hb tv.out.lt);have Fm:=J (HP4.out.below hb HP4.out.lt);have K5:=J (show w5.cell? ⟨w.heap.size,0,none⟩=some (.string ⟨S.toArray⟩)∧w5.cell? ⟨ad.block,ad.off+3,none⟩=some (.string ⟨a.toArray⟩)∧w5.cell? ⟨ad.block,ad.off+7+3,none⟩=some (.string ⟨b.toArray⟩)from⟨Fm.out.cell 0,(hX.below bJ HB.out).2.2.2,(hY.below (p:=⟨ad.block,ad.off+7,none⟩) bJ HB.out).2.2.2⟩);have HN:=J (az (r:=aE q) HB.out (zl w.heap.size 1));have K6:=J (show(aR w5 (w.heap.size+1) (aE q)).cell? ⟨ad.block,ad.off+3,none⟩=some (.string ⟨a.toArray⟩)from(hX.below bJ HN.out).2.2.2);have K7:=J (show(aR w5 (w.heap.size+1) (aE q)).cell? ⟨ad.block,ad.off+7+3,none⟩=some (.string ⟨b.toArray⟩)from(hY.below (p:=⟨ad.block,ad.off+7,none⟩) bJ HN.out).2.2.2);unfold aR at K6 K7;obtain⟨c0,c1,c2,c3,c4,c5,c6⟩:=ae BX.out;obtain⟨f0,f1,f2,f3,f4,f5,f6⟩:=ar BX.out;clear hb HN))
 go_wp2_with fail
 obtain⟨z0,z1,z2,z3,z4,z5,z6⟩:=ae (aF (r:=aE q) BX.out);unfold aR at z0 z1 z2 z3 z4 z5 z6;refine zi (v:= .tuple #[aY (aE q), .int .i64 0]) (by simp [results,results61,go_sem,z0,z1,z2,z3,z4,z5,z6]) rfl ⟨rfl,az (r:=aE q) HB.out (zl _ 1)⟩
abbrev iw:=fun p0 p1 p2=> ∀(M:Nat) (v0 v1 v2 v3 v4 v5 v6 v7 v8:Value) (S:List UInt8) (ab:Int) (ty rv v:Value) (x y:At) (h:aQ [x,y] [p0,p1]=false) (w:World) (hM:ai w M 59 #[v0,v1,v2,v3,v4,v5,v6,v7,v8]) (hV:VL w w.heap.size v [x,y]),Calls prog 61 #[.pointer (some ⟨M,0,none⟩), .agg #[.string ⟨S.toArray⟩, .int .i64 p2, .int .i64 ab,ty,rv],v] w (fun e w'=>e= .returned (.tuple #[aY .no, .int .i64 0])∧ai w' M 59 #[v0,v1,v2,v3,v4,v5,v6,v7, .int .i64 5]∧ap [M] w w')
theorem mR:iw 1 1 2∧iw 3 3 3:=by
 unfold iw;refine⟨?_,?_⟩
 all_goals intro M v0 v1 v2 v3 v4 v5 v6 v7 v8 S ab ty rv v x y h w hM hV
 have aj:=J (rfl:0=0)
 all_goals
  obtain⟨ad,c,rfl,bJ,hX,hY⟩:=jH hV
  first
   |replace aj:=aj
    obtain⟨W,hW⟩: ∃W,((w.alloc (.cells #[.string ⟨S.toArray⟩, .int .i64 2, .int .i64 ab,ty,rv] 36)).alloc (.cells aL 49)).alloc (.cells #[.int .i64 1, .int .i64 1] 3)=W:=⟨_,rfl⟩
   |obtain⟨W,hW⟩: ∃W,((w.alloc (.cells #[.string ⟨S.toArray⟩, .int .i64 3, .int .i64 ab,ty,rv] 36)).alloc (.cells aL 49)).alloc (.cells #[.int .i64 3, .int .i64 3] 3)=W:=⟨_,rfl⟩
  have bi:=J (show Below w.heap.size w W by rw [←hW];exact cA _ _ _ _)
  first
   |replace aj:=aj
    have HP:=J (show ai W w.heap.size 36 #[.string ⟨S.toArray⟩, .int .i64 2, .int .i64 ab,ty,rv]by rw [←hW];exact((ai.new _ _ _).alloc _).alloc _)
   |have HP:=J (show ai W w.heap.size 36 #[.string ⟨S.toArray⟩, .int .i64 3, .int .i64 ab,ty,rv]by rw [←hW];exact((ai.new _ _ _).alloc _).alloc _)
  have HZ:=J (show ai W (w.heap.size+1) 49 aL by rw [←hW];exact(am (by simp) _ _).alloc _)
  first
   |replace aj:=aj
    have HK:=J (bG [x,y] [1,1] _ w W (w.heap.size+2) 2 3 #[.int .i64 1, .int .i64 1] hV (za _) (by decide) bi.out (by rw [←hW];exact am (by simp) _ _) rfl rfl (by decide))
   |have HK:=J (bG [x,y] [3,3] _ w W (w.heap.size+2) 2 3 #[.int .i64 3, .int .i64 3] hV (za _) (by decide) bi.out (by rw [←hW];exact am (by simp) _ _) rfl rfl (by decide))
  rw [h]at HK;have bw:=hM.lt;have fa:w.heap.size+1≠M:=by omega
  have iM:M≠w.heap.size+1:=by omega
  have LC:=J (ap.of_below (bs:=[M]) bi.out);have HS:=J (fun n=>gP M v0 v1 v2 v3 v4 v5 v6 v7 v8 (W.drewN n) ((hM.below bi.out hM.lt).drewN n))
  first
   |replace aj:=aj
    have p1:((w.alloc (.cells #[.string ⟨S.toArray⟩, .int .i64 2, .int .i64 ab,ty,rv] 36)).alloc (.cells aL 49)).cell? ⟨w.heap.size,1,none⟩=some (.int .i64 2):=((ai.new _ _ _).alloc _).cell 1;have HPn:=J (fun n=>show(W.drewN n).cell? ⟨w.heap.size,1,none⟩=some (.int .i64 2)from HP.out.cell 1)
   |have p1:((w.alloc (.cells #[.string ⟨S.toArray⟩, .int .i64 3, .int .i64 ab,ty,rv] 36)).alloc (.cells aL 49)).cell? ⟨w.heap.size,1,none⟩=some (.int .i64 3):=((ai.new _ _ _).alloc _).cell 1
    have HPn:=J (fun n=>show(W.drewN n).cell? ⟨w.heap.size,1,none⟩=some (.int .i64 3)from HP.out.cell 1)
  clear hM hV hX hY h;go_enter func61,ntmps61;go_wp2_with (first|(go_at_call 57;(with_reducible refine(HK.out).mono ?_);rintro e w1 ⟨rfl,n,rfl⟩;have p1n:=HPn.out n)|(go_at_call 101;(with_reducible refine(HS.out n).mono ?_);rintro e w3 ⟨rfl,gR,dd⟩;have pF:=J gR;have lR:=J dd;have gf:=J ((HZ.out.drewN n).only dd (by simp [fa]));obtain⟨c0,c1,c2,c3,c4,c5,c6⟩:=ae gf.out;obtain⟨f0,f1,f2,f3,f4,f5,f6⟩:=ar gf.out;clear gR dd))
  obtain⟨z0,z1,z2,z3,z4,z5,z6⟩:=ae (aF (r:= .no) gf.out);have iL:=J (pF.out.only (w':=aR w3 (w.heap.size+1) .no) (bs:=[w.heap.size+1]) (by unfold aR;exact(((((((ap.refl [w.heap.size+1] w3).one).one).one).one).one).one).one) (by simp [iM]))
  have hI:=J (show ap [M] w (aR w3 (w.heap.size+1) .no)by unfold aR;exact(((((((((LC.out.drewN n).trans lR.out).setCell (p:=⟨w.heap.size+1,0,none⟩) (.inr (zl _ 1)) _).setCell (p:=⟨w.heap.size+1,1,none⟩) (.inr (zl _ 1)) _).setCell (p:=⟨w.heap.size+1,2,none⟩) (.inr (zl _ 1)) _).setCell (p:=⟨w.heap.size+1,3,none⟩) (.inr (zl _ 1)) _).setCell (p:=⟨w.heap.size+1,4,none⟩) (.inr (zl _ 1)) _).setCell (p:=⟨w.heap.size+1,5,none⟩) (.inr (zl _ 1)) _).setCell (p:=⟨w.heap.size+1,6,none⟩) (.inr (zl _ 1)) _))
  unfold aR at z0 z1 z2 z3 z4 z5 z6 iL hI;simp only [eP,ri,rb,rt]at z0 z1 z2 z3 z4 z5 z6 iL hI;refine zi (v:= .tuple #[aY .no, .int .i64 0]) (by simp [results,results61,go_sem,eP,ri,rb,rt,z0,z1,z2,z3,z4,z5,z6]) rfl ⟨rfl,iL.out,hI.out⟩
def BV:=mR.1
def sP:=mR.2
theorem Je{u:Nat}(h:cap<rg u):co u=0:=zh h
theorem Jf{u:Nat}(h:rg u=cap):co u=1:=by unfold co;rw [ze (by omega),zh h]
theorem EB(u:Nat)(hu:u<2^64)(hf:rg u<cap)(h0:rg u=0)(w:World):Calls prog 109 #[.int .u64 u] w fun e w'=>e= .returned (.int .i64 2)∧w=w':=by
 have h1:=fun w=>gx u hu w
 have h2:=fun w=>mI u hu w
 have h3:=fun w=>tY u hu w
 rw [zb (by omega)]at h1
 rw [zb (by omega)]at h2
 rw [zc h0]at h3;clear hf h0 hu;go_enter func109,ntmps109;go_wp2_with (first|(go_at_call 167;refine(h1 _).mono ?_;rintro e w' ⟨rfl,rfl⟩)|(go_at_call 180;refine(h2 _).mono ?_;rintro e w' ⟨rfl,rfl⟩)|(go_at_call 183;refine(h3 _).mono ?_;rintro e w' ⟨rfl,rfl⟩))
 go_ret;exact⟨rfl,rfl⟩
theorem Jg(u:Nat)(hu:u<2^64)(hf:rg u<cap)(h0:rg u≠0)(w:World):Calls prog 109 #[.int .u64 u] w fun e w'=>e= .returned (.int .i64 (co u))∧w=w':=by
 have h1:=fun w=>gx u hu w
 have h2:=fun w=>mI u hu w
 have h3:=fun w=>tY u hu w
 have hb:=kM u hu;rw [show fZ u=rg u from rfl]at hb
 have hc:co u=if rg u<4503599627370496 then 3 else 4:=by unfold co;rw [ze (by omega),ze (by omega),ze h0]
 rw [hc];rw [zb (by omega)]at h1
 rw [zb (by omega)]at h2
 rw [zb h0]at h3;clear hf h0 hu hc;generalize rg u=r at *
 by_cases h4:r<4503599627370496
 focus
  rw [zh h4];have d4:decide ((r:Int)<4503599627370496)=true:=zc (by omega)
 rotate_left
 focus
  rw [ze h4];have d4:decide ((r:Int)<4503599627370496)=false:=zb (by omega)
 all_goals
  clear h4;go_enter func109,ntmps109;go_wp2_with (first|(go_at_call 167;refine(h1 _).mono ?_;rintro e w' ⟨rfl,rfl⟩)|(go_at_call 180;refine(h2 _).mono ?_;rintro e w' ⟨rfl,rfl⟩)|(go_at_call 183;refine(h3 _).mono ?_;rintro e w' ⟨rfl,rfl⟩))
  go_ret;exact⟨rfl,rfl⟩
theorem Jh(u:Nat)(hu:u<2^64)(hf:cap<rg u)(w:World):Calls prog 109 #[.int .u64 u] w fun e w'=>e= .returned (.int .i64 0)∧w=w':=by
 have h1:=fun w=>gx u hu w
 rw [zc hf]at h1;clear hf hu;go_enter func109,ntmps109;go_wp2_with (go_at_call 167;refine(h1 _).mono ?_;rintro e w' ⟨rfl,rfl⟩);go_ret;exact⟨rfl,rfl⟩
theorem Ji(u:Nat)(hu:u<2^64)(hf:rg u=cap)(w:World):Calls prog 109 #[.int .u64 u] w fun e w'=>e= .returned (.int .i64 1)∧w=w':=by
 have h1:=fun w=>gx u hu w
 have h2:=fun w=>mI u hu w
 rw [zb (by omega)]at h1
 rw [zc hf]at h2;clear hf hu;go_enter func109,ntmps109;go_wp2_with (first|(go_at_call 167;refine(h1 _).mono ?_;rintro e w' ⟨rfl,rfl⟩)|(go_at_call 180;refine(h2 _).mono ?_;rintro e w' ⟨rfl,rfl⟩))
 go_ret;exact⟨rfl,rfl⟩
theorem Jj(u:Nat)(hu:u<2^64)(w:World):Calls prog 109 #[.int .u64 u] w fun e w'=>e= .returned (.int .i64 (co u))∧w=w':=by
 by_cases h1:cap<rg u
 ·rw [Je h1];exact Jh u hu h1 w
 by_cases h2:rg u=cap
 ·rw [Jf h2];exact Ji u hu h2 w
 by_cases h3:rg u=0
 ·rw [show co u=2 by unfold co;rw [ze h1,ze h2,zh h3]];exact EB u hu (by omega) h3 w
 exact Jg u hu (by omega) h3 w
end Go.Proofs.YtcpmiplofbfmfaaGreatDoor
