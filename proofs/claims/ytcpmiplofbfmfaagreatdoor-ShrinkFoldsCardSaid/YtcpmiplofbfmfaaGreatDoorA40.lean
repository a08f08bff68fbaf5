/- Shrink: the reference's primitives of reals. -/
import Derived.Test.YtcpmiplofbfmfaaGreatDoorA39
set_option linter.all false
set_option maxRecDepth 100000
set_option maxHeartbeats 16000000
namespace Go.Proofs.YtcpmiplofbfmfaaGreatDoor
open Go.Proofs.Tryz
open Go.Lib renaming hid→J
open Go.RowKit LamM CpsM FloM ShrM
theorem dC(mv:Value):(∀(con ab:Int) (ty rv v:Value) (u:Nat) (hu:u<2^64) (w:World) (hV:VL w w.heap.size v [.real u]),Calls prog 60 #[mv, .agg #[.string ⟨#[126]⟩, .int .i64 con, .int .i64 ab,ty,rv],v] w (aD (.real (aw (qk u))) w))∧(∀(con ab:Int) (ty rv v:Value) (u:Nat) (hu:u<2^64) (w:World) (hV:VL w w.heap.size v [.real u]),Calls prog 60 #[mv, .agg #[.string ⟨#[97,98,115]⟩, .int .i64 con, .int .i64 ab,ty,rv],v] w (aD (.real (aw (aw (fZ u)))) w))∧(∀(con ab:Int) (ty rv v:Value) (u:Nat) (hu:u<2^64) (w:World) (hV:VL w w.heap.size v [.real u]),Calls prog 60 #[mv, .agg #[.string ⟨#[102,108,111,111,114]⟩, .int .i64 con, .int .i64 ab,ty,rv],v] w (aD (aX (lg .down u)) w))∧(∀(con ab:Int) (ty rv v:Value) (u:Nat) (hu:u<2^64) (w:World) (hV:VL w w.heap.size v [.real u]),Calls prog 60 #[mv, .agg #[.string ⟨#[99,101,105,108]⟩, .int .i64 con, .int .i64 ab,ty,rv],v] w (aD (aX (lg .up u)) w))∧(∀(con ab:Int) (ty rv v:Value) (u:Nat) (hu:u<2^64) (w:World) (hV:VL w w.heap.size v [.real u]),Calls prog 60 #[mv, .agg #[.string ⟨#[116,114,117,110,99]⟩, .int .i64 con, .int .i64 ab,ty,rv],v] w (aD (aX (lg .zero u)) w))∧(∀(con ab:Int) (ty rv v:Value) (u:Nat) (hu:u<2^64) (w:World) (hV:VL w w.heap.size v [.real u]),Calls prog 60 #[mv, .agg #[.string ⟨#[114,111,117,110,100]⟩, .int .i64 con, .int .i64 ab,ty,rv],v] w (aD (aX (lg .even u)) w))∧(∀(con ab:Int) (ty rv v:Value) (u:Nat) (hu:u<2^64) (w:World) (hV:VL w w.heap.size v [.real u]),Calls prog 60 #[mv, .agg #[.string ⟨#[105,115,78,97,110]⟩, .int .i64 con, .int .i64 ab,ty,rv],v] w (aD (aE (co u==0)) w))∧(∀(S:List UInt8) (hS:S≠[126]∧S≠[97,98,115]∧S≠[102,108,111,111,114]∧S≠[99,101,105,108]∧S≠[116,114,117,110,99]∧S≠[114,111,117,110,100]∧S≠[105,115,78,97,110]) (con ab:Int) (ty rv v:Value) (u:Nat) (hu:u<2^64) (w:World) (hV:VL w w.heap.size v [.real u]),Calls prog 60 #[mv, .agg #[.string ⟨S.toArray⟩, .int .i64 con, .int .i64 ab,ty,rv],v] w (aD (.str (gT u)) w)):=by
 refine⟨?_,?_,?_,?_,?_,?_,?_,?_⟩;intro con ab ty rv v u hu w hV;have aj:=J (rfl:0=0)
 rotate_left;intro con ab ty rv v u hu w hV;have aG:=J (rfl:0=0)
 rotate_left;intro con ab ty rv v u hu w hV;have aP:=J (rfl:0=0)
 rotate_left;intro con ab ty rv v u hu w hV;have bk:=J (rfl:0=0)
 rotate_left;intro con ab ty rv v u hu w hV;have bz:=J (rfl:0=0)
 rotate_left;intro con ab ty rv v u hu w hV;have cE:=J (rfl:0=0)
 rotate_left;intro con ab ty rv v u hu w hV;have dU:=J (rfl:0=0)
 rotate_left;intro S hS con ab ty rv v u hu w hV;have gu:=J (rfl:0=0)
 all_goals
  obtain⟨ad,c,rfl,bJ,hX⟩:=mf hV
  first
   |replace aj:=aj
    obtain⟨W,hW⟩: ∃W,(w.alloc (.cells #[.string ⟨#[126]⟩, .int .i64 con, .int .i64 ab,ty,rv] 36)).alloc (.cells aL 49)=W:=⟨_,rfl⟩
   |replace aG:=aG
    obtain⟨W,hW⟩: ∃W,(w.alloc (.cells #[.string ⟨#[97,98,115]⟩, .int .i64 con, .int .i64 ab,ty,rv] 36)).alloc (.cells aL 49)=W:=⟨_,rfl⟩
   |replace aP:=aP
    obtain⟨W,hW⟩: ∃W,(w.alloc (.cells #[.string ⟨#[102,108,111,111,114]⟩, .int .i64 con, .int .i64 ab,ty,rv] 36)).alloc (.cells aL 49)=W:=⟨_,rfl⟩
   |replace bk:=bk
    obtain⟨W,hW⟩: ∃W,(w.alloc (.cells #[.string ⟨#[99,101,105,108]⟩, .int .i64 con, .int .i64 ab,ty,rv] 36)).alloc (.cells aL 49)=W:=⟨_,rfl⟩
   |replace bz:=bz
    obtain⟨W,hW⟩: ∃W,(w.alloc (.cells #[.string ⟨#[116,114,117,110,99]⟩, .int .i64 con, .int .i64 ab,ty,rv] 36)).alloc (.cells aL 49)=W:=⟨_,rfl⟩
   |replace cE:=cE
    obtain⟨W,hW⟩: ∃W,(w.alloc (.cells #[.string ⟨#[114,111,117,110,100]⟩, .int .i64 con, .int .i64 ab,ty,rv] 36)).alloc (.cells aL 49)=W:=⟨_,rfl⟩
   |replace dU:=dU
    obtain⟨W,hW⟩: ∃W,(w.alloc (.cells #[.string ⟨#[105,115,78,97,110]⟩, .int .i64 con, .int .i64 ab,ty,rv] 36)).alloc (.cells aL 49)=W:=⟨_,rfl⟩
   |obtain⟨W,hW⟩: ∃W,(w.alloc (.cells #[.string ⟨S.toArray⟩, .int .i64 con, .int .i64 ab,ty,rv] 36)).alloc (.cells aL 49)=W:=⟨_,rfl⟩
  have bi:=J (show Below w.heap.size w W by rw [←hW];exact aA _ _ _)
  first
   |replace aj:=aj
    have HP:=J (show ai W w.heap.size 36 #[.string ⟨#[126]⟩, .int .i64 con, .int .i64 ab,ty,rv]by rw [←hW];exact(ai.new _ _ _).alloc _)
   |replace aG:=aG
    have HP:=J (show ai W w.heap.size 36 #[.string ⟨#[97,98,115]⟩, .int .i64 con, .int .i64 ab,ty,rv]by rw [←hW];exact(ai.new _ _ _).alloc _)
   |replace aP:=aP
    have HP:=J (show ai W w.heap.size 36 #[.string ⟨#[102,108,111,111,114]⟩, .int .i64 con, .int .i64 ab,ty,rv]by rw [←hW];exact(ai.new _ _ _).alloc _)
   |replace bk:=bk
    have HP:=J (show ai W w.heap.size 36 #[.string ⟨#[99,101,105,108]⟩, .int .i64 con, .int .i64 ab,ty,rv]by rw [←hW];exact(ai.new _ _ _).alloc _)
   |replace bz:=bz
    have HP:=J (show ai W w.heap.size 36 #[.string ⟨#[116,114,117,110,99]⟩, .int .i64 con, .int .i64 ab,ty,rv]by rw [←hW];exact(ai.new _ _ _).alloc _)
   |replace cE:=cE
    have HP:=J (show ai W w.heap.size 36 #[.string ⟨#[114,111,117,110,100]⟩, .int .i64 con, .int .i64 ab,ty,rv]by rw [←hW];exact(ai.new _ _ _).alloc _)
   |replace dU:=dU
    have HP:=J (show ai W w.heap.size 36 #[.string ⟨#[105,115,78,97,110]⟩, .int .i64 con, .int .i64 ab,ty,rv]by rw [←hW];exact(ai.new _ _ _).alloc _)
   |have HP:=J (show ai W w.heap.size 36 #[.string ⟨S.toArray⟩, .int .i64 con, .int .i64 ab,ty,rv]by rw [←hW];exact(ai.new _ _ _).alloc _)
  have HZ:=J (show ai W (w.heap.size+1) 49 aL by rw [←hW];exact am (by simp) _ _)
  have p0:=HP.out.c0;have x0:W.cell? ad=some (.int .i64 2):=(hX.below bJ bi.out).1;have x2:W.cell? ⟨ad.block,ad.off+2,none⟩=some (.int .u64 u):=(hX.below bJ bi.out).2.2.1
  first
   |replace aj:=aj
    have HF:=J (fun w=>DG u hu w)
    have HT:=J (fun w=>mQ (qk u) (KN hu) w)
    generalize aw (qk u)=q at *;generalize qk u=p at *;unfold aD b_ at *
   |replace aG:=aG
    have HF:=J (fun w=>Tq u hu w)
    have HT:=J (fun w=>mQ (aw (fZ u)) (sy (KM u)) w)
    generalize aw (aw (fZ u))=q at *;generalize aw (fZ u)=p at *;unfold aD b_ at *
   |replace dU:=dU
    have HF:=J (fun w=>Jj u hu w)
    generalize co u=p at *;have HT:=J (fun w=>iZ (p==0) w)
    unfold aD b_ at *
   |replace gu:=gu
    have s0:(S==[126])=false:=zf.2 hS.1;have s1:(S==[97,98,115])=false:=zf.2 hS.2.1;have s2:(S==[102,108,111,111,114])=false:=zf.2 hS.2.2.1;have s3:(S==[99,101,105,108])=false:=zf.2 hS.2.2.2.1;have s4:(S==[116,114,117,110,99])=false:=zf.2 hS.2.2.2.2.1;have s5:(S==[114,111,117,110,100])=false:=zf.2 hS.2.2.2.2.2.1;have s6:(S==[105,115,78,97,110])=false:=zf.2 hS.2.2.2.2.2.2;have HF:=J (fun w=>MI u hu w)
    have HT:=J (fun w=>mP (gT u) w)
    generalize gT u=p at *;unfold jG at *;clear hS;unfold aD b_ at *
   |first
     |replace aP:=aP
      have HF:=J (fun w=>vE .down u hu w)
     |replace bk:=bk
      have HF:=J (fun w=>vE .up u hu w)
     |replace bz:=bz
      have HF:=J (fun w=>vE .zero u hu w)
     |have HF:=J (fun w=>vE .even u hu w)
    have HT:=J (fun n e w=>um n e w)
    first
     |replace aP:=aP
      obtain⟨⟨q1,q2⟩,hq⟩: ∃q,lg .down u=q:=⟨_,rfl⟩
     |replace bk:=bk
      obtain⟨⟨q1,q2⟩,hq⟩: ∃q,lg .up u=q:=⟨_,rfl⟩
     |replace bz:=bz
      obtain⟨⟨q1,q2⟩,hq⟩: ∃q,lg .zero u=q:=⟨_,rfl⟩
     |obtain⟨⟨q1,q2⟩,hq⟩: ∃q,lg .even u=q:=⟨_,rfl⟩
    rw [hq]at HF⊢;clear hq;unfold wg at *
    first
     |replace aP:=aP
      rw [show Da .down=0 from rfl]at HF
     |replace bk:=bk
      rw [show Da .up=1 from rfl]at HF
     |replace bz:=bz
      rw [show Da .zero=2 from rfl]at HF
     |rw [show Da .even=3 from rfl]at HF
    dsimp only at HF;unfold aD at *
  clear hu hV hX;go_enter func60,ntmps60;go_wp2_with fail;refine Zi 3 ?_;rw [zI];go_wp2_with fail;rw [zI];go_wp2_with (first|((first|replace aj:=aj;go_at_call 106|replace aG:=aG;go_at_call 107|replace dU:=dU;go_at_call 109|replace gu:=gu;go_at_call 111|(first|replace aP:=aP|replace bk:=bk|replace bz:=bz|replace cE:=cE);go_at_call 108);((first|(first|replace aj:=aj|replace aG:=aG|replace dU:=dU);with_reducible refine(HF.out _).q ?_|(first|replace aP:=aP|replace bk:=bk|replace bz:=bz|replace cE:=cE|replace gu:=gu);(with_reducible refine(HF.out _).mono ?_);rintro e w4 ⟨rfl,hb⟩;have ce:=J (bi.out.trans (hb.mono bi.out.size));have tv:=J (HZ.out.below hb HZ.out.lt);clear hb)))|((first|replace dU:=dU;go_at_call 63|replace gu:=gu;go_at_call 110|(first|replace aj:=aj|replace aG:=aG);go_at_call 55|(first|replace aP:=aP|replace bk:=bk|replace bz:=bz|replace cE:=cE);go_at_call 102);(((first|(first|replace aj:=aj|replace aG:=aG|replace dU:=dU|replace gu:=gu);with_reducible refine(HT.out _).mono ?_|(first|replace aP:=aP|replace bk:=bk|replace bz:=bz|replace cE:=cE);with_reducible refine(HT.out q1 q2 _).mono ?_));rintro e w5 ⟨rfl,hb⟩;(first|(first|replace aj:=aj|replace aG:=aG|replace dU:=dU);have BX:=J (HZ.out.below hb HZ.out.lt);have HB:=J (bi.out.trans (hb.mono bi.out.size))|(first|replace aP:=aP|replace bk:=bk|replace bz:=bz|replace cE:=cE|replace gu:=gu);have BX:=J (tv.out.below hb tv.out.lt);have HB:=J (ce.out.trans (hb.mono ce.out.size)));obtain⟨c0,c1,c2,c3,c4,c5,c6⟩:=ae BX.out;obtain⟨f0,f1,f2,f3,f4,f5,f6⟩:=ar BX.out;clear hb)))
  first
   |replace dU:=dU
    obtain⟨z0,z1,z2,z3,z4,z5,z6⟩:=ae (aF (r:=aE (p==0)) BX.out)
   |replace gu:=gu
    obtain⟨z0,z1,z2,z3,z4,z5,z6⟩:=ae (aF (r:= .str p) BX.out)
   |(first|replace aj:=aj|replace aG:=aG)
    obtain⟨z0,z1,z2,z3,z4,z5,z6⟩:=ae (aF (r:= .real q) BX.out)
   |obtain⟨z0,z1,z2,z3,z4,z5,z6⟩:=ae (aF (r:=aX (q1,q2)) BX.out)
  unfold aR at z0 z1 z2 z3 z4 z5 z6
  first
   |replace dU:=dU
    refine zi (v:= .tuple #[aY (aE (p==0)), .int .i64 0]) (by simp [results,results60,go_sem,z0,z1,z2,z3,z4,z5,z6]) rfl ⟨rfl,az (r:=aE (p==0)) HB.out (zl _ 1)⟩
   |replace gu:=gu
    refine zi (v:= .tuple #[aY (.str p), .int .i64 0]) (by simp [results,results60,go_sem,z0,z1,z2,z3,z4,z5,z6]) rfl ⟨rfl,az (r:= .str p) HB.out (zl _ 1)⟩
   |(first|replace aj:=aj|replace aG:=aG)
    refine zi (v:= .tuple #[aY (.real q), .int .i64 0]) (by simp [results,results60,go_sem,z0,z1,z2,z3,z4,z5,z6]) rfl ⟨rfl,az (r:= .real q) HB.out (zl _ 1)⟩
   |refine zi (v:= .tuple #[aY (aX (q1,q2)), .int .i64 (rc (aX (q1,q2)))]) (by simp [results,results60,go_sem,z0,z1,z2,z3,z4,z5,z6]) rfl ⟨rfl,az (r:=aX (q1,q2)) HB.out (zl _ 1)⟩
def PH a:=(dC a).1
def PI a:=(dC a).2.1
def ED a:=(dC a).2.2.1
def Jm a:=(dC a).2.2.2.1
def EE a:=(dC a).2.2.2.2.1
def EF a:=(dC a).2.2.2.2.2.1
def EG a:=(dC a).2.2.2.2.2.2.1
def Jn a:=(dC a).2.2.2.2.2.2.2
theorem AE(mv:Value)(S:List UInt8)(con ab:Int)(a b:Nat)(ty rv v:Value)(ha:a<2^64)(hb:b<2^64)(w:World)(hV:VL w w.heap.size v [.real a, .real b]):Calls prog 60 #[mv, .agg #[.string ⟨S.toArray⟩, .int .i64 con, .int .i64 ab,ty,rv],v] w (aD (go S a b) w):=by
 have AL:rc (go S a b)=0:=by unfold go aE;repeat' (first|rfl|split)
 obtain⟨ad,c,rfl,bJ,hX,hY⟩:=jH hV;obtain⟨W,hW⟩: ∃W,(w.alloc (.cells #[.string ⟨S.toArray⟩, .int .i64 con, .int .i64 ab,ty,rv] 36)).alloc (.cells aL 49)=W:=⟨_,rfl⟩;have bi:=J (show Below w.heap.size w W by rw [←hW];exact aA _ _ _)
 have HP:=J (show ai W w.heap.size 36 #[.string ⟨S.toArray⟩, .int .i64 con, .int .i64 ab,ty,rv]by rw [←hW];exact(ai.new _ _ _).alloc _)
 have HZ:=J (show ai W (w.heap.size+1) 49 aL by rw [←hW];exact am (by simp) _ _)
 have p0:=HP.out.c0;have x0:W.cell? ad=some (.int .i64 2):=(hX.below bJ bi.out).1;have x7:W.cell? ⟨ad.block,ad.off+7,none⟩=some (.int .i64 2):=(hY.below (p:=⟨ad.block,ad.off+7,none⟩) bJ bi.out).1;have HF:=J (fun w=>Jc S a b ha hb w)
 generalize go S a b=q at *;unfold aD at *;rw [AL];have K0:=J (show W.drew.cell? ⟨w.heap.size,0,none⟩=some (.string ⟨S.toArray⟩)∧W.drew.cell? ⟨ad.block,ad.off+2,none⟩=some (.int .u64 a)∧W.drew.cell? ⟨ad.block,ad.off+7+2,none⟩=some (.int .u64 b)from⟨p0,(hX.below bJ bi.out).2.2.1,(hY.below (p:=⟨ad.block,ad.off+7,none⟩) bJ bi.out).2.2.1⟩)
 clear ha hb hV AL;go_enter func60,ntmps60;go_wp2_with fail;refine Zi 3 ?_;rw [zI];go_wp2_with fail;rw [zI];go_wp2_with fail;rw [zI];go_upto_region 7 with fail
 go_region_held3 (fun w'=>w'.cell? ⟨w.heap.size,0,none⟩=some (.string ⟨S.toArray⟩)∧w'.cell? ⟨ad.block,ad.off+2,none⟩=some (.int .u64 a)∧w'.cell? ⟨ad.block,ad.off+7+2,none⟩=some (.int .u64 b)) (first|with_reducible exact K0.out|with_reducible exact K5.out|(refine⟨?_,?_,?_⟩<;>first|with_reducible exact K6.out|with_reducible exact K7.out|go_keep))
  (first|(go_at_call 105;(with_reducible refine(HF.out _).mono ?_);rintro e w5 ⟨rfl,hb⟩;have HB:=J ((below_drewN bi.out 1).trans (hb.mono (below_drewN bi.out 1).size));have BX:=J (HZ.out.drew.below hb HZ.out.drew.lt);have Fm:=J (HP.out.drew.below hb HP.out.drew.lt);have K5:=J (show w5.cell? ⟨w.heap.size,0,none⟩=some (.string ⟨S.toArray⟩)∧w5.cell? ⟨ad.block,ad.off+2,none⟩=some (.int .u64 a)∧w5.cell? ⟨ad.block,ad.off+7+2,none⟩=some (.int .u64 b)from⟨Fm.out.cell 0,(hX.below bJ HB.out).2.2.1,(hY.below (p:=⟨ad.block,ad.off+7,none⟩) bJ HB.out).2.2.1⟩);have HN:=J (az (r:=q) HB.out (zl w.heap.size 1));have K6:=J (show(aR w5 (w.heap.size+1) q).cell? ⟨ad.block,ad.off+2,none⟩=some (.int .u64 a)from(hX.below bJ HN.out).2.2.1);have K7:=J (show(aR w5 (w.heap.size+1) q).cell? ⟨ad.block,ad.off+7+2,none⟩=some (.int .u64 b)from(hY.below (p:=⟨ad.block,ad.off+7,none⟩) bJ HN.out).2.2.1);unfold aR at K6 K7;obtain⟨c0,c1,c2,c3,c4,c5,c6⟩:=ae BX.out;obtain⟨f0,f1,f2,f3,f4,f5,f6⟩:=ar BX.out;clear hb HN))
 go_wp2_with fail
 obtain⟨z0,z1,z2,z3,z4,z5,z6⟩:=ae (aF (r:=q) BX.out);unfold aR at z0 z1 z2 z3 z4 z5 z6;refine zi (v:= .tuple #[aY q, .int .i64 0]) (by simp [results,results60,go_sem,z0,z1,z2,z3,z4,z5,z6]) rfl ⟨rfl,az (r:=q) HB.out (zl _ 1)⟩
abbrev iy(M:Nat)(v0 v1 v2 v3 v4 v5 v6 v7:Value)(S:List UInt8)(con ab:Int)(ty rv v:Value)(w:World):Prop:=Calls prog 60 #[.pointer (some ⟨M,0,none⟩), .agg #[.string ⟨S.toArray⟩, .int .i64 con, .int .i64 ab,ty,rv],v] w (fun e w'=>e= .returned (.tuple #[aY .no, .int .i64 0])∧ai w' M 59 #[v0,v1,v2,v3,v4,v5,v6,v7, .int .i64 5]∧ap [M] w w')
theorem nV(M:Nat)(v0 v1 v2 v3 v4 v5 v6 v7 v8:Value)(S:List UInt8)(con ab:Int)(ty rv v:Value):(∀(x:At) (L:List At) (h:x.isReal=false) (w:World) (hM:ai w M 59 #[v0,v1,v2,v3,v4,v5,v6,v7,v8]) (hV:VL w w.heap.size v (x::L)),iy M v0 v1 v2 v3 v4 v5 v6 v7 S con ab ty rv v w)∧(∀(x y:At) (h0:x.isReal=true) (h:y.isReal=false) (w:World) (hM:ai w M 59 #[v0,v1,v2,v3,v4,v5,v6,v7,v8]) (hV:VL w w.heap.size v [x,y]),iy M v0 v1 v2 v3 v4 v5 v6 v7 S con ab ty rv v w):=by
 unfold iy;refine⟨?_,?_⟩;intro x L h w hM hV;have aj:=J (rfl:0=0)
 rotate_left;intro x y h0 h w hM hV
 all_goals
  first
   |replace aj:=aj
    obtain⟨A,c,rfl,_,_⟩:=hV.len;obtain⟨ad,rfl,bJ,hX⟩:=hV.at_ (i:=0) rfl;rw [Zk,ZV]at hX
   |obtain⟨ad,c,rfl,bJ,hX,hY⟩:=jH hV
  obtain⟨W,hW⟩: ∃W,(w.alloc (.cells #[.string ⟨S.toArray⟩, .int .i64 con, .int .i64 ab,ty,rv] 36)).alloc (.cells aL 49)=W:=⟨_,rfl⟩;have bw:=hM.lt;have fa:w.heap.size+1≠M:=by omega
  have iM:M≠w.heap.size+1:=by omega
  have bi:=J (show Below w.heap.size w W by rw [←hW];exact aA _ _ _)
  have LC:=J (ap.of_below (bs:=[M]) bi.out);have HZ:=J (show ai W (w.heap.size+1) 49 aL by rw [←hW];exact am (by simp) _ _)
  have HS:=J (gP M v0 v1 v2 v3 v4 v5 v6 v7 v8 W (hM.below bi.out hM.lt));have x0:W.cell? ad=some (.int .i64 (eP (dT x))):=(hX.below bJ bi.out).1
  first
   |replace aj:=aj
    have q1:(eP (dT x)!=2)=true:=by cases x<;>first|rfl|cases h
    have hz:(0:Int)<((x::L).length:Int):=by simp
    have eU:0<(x::L).length:=by simp
    clear hM hV hX h
   |have x7:W.cell? ⟨ad.block,ad.off+7,none⟩=some (.int .i64 (eP (dT y))):=(hY.below (p:=⟨ad.block,ad.off+7,none⟩) bJ bi.out).1
    have q0:(eP (dT x)!=2)=false:=by cases x<;>first|rfl|cases h0
    have q1:(eP (dT y)!=2)=true:=by cases y<;>first|rfl|cases h
    clear hM hV hX h hY h0
  go_enter func60,ntmps60;go_wp2_with fail;refine Zi 3 ?_
  first
   |replace aj:=aj
   |rw [zI]
    go_wp2_with fail
  rw [zI];go_wp2_with (go_at_call 101;(with_reducible refine(HS.out).mono ?_);rintro e w3 ⟨rfl,gR,dd⟩;have pF:=J gR;have lR:=J dd;have gf:=J (HZ.out.only dd (by simp [fa]));obtain⟨c0,c1,c2,c3,c4,c5,c6⟩:=ae gf.out;obtain⟨f0,f1,f2,f3,f4,f5,f6⟩:=ar gf.out;clear gR dd)
  obtain⟨z0,z1,z2,z3,z4,z5,z6⟩:=ae (aF (r:= .no) gf.out);have iL:=J (pF.out.only (w':=aR w3 (w.heap.size+1) .no) (bs:=[w.heap.size+1]) (by unfold aR;exact(((((((ap.refl [w.heap.size+1] w3).one).one).one).one).one).one).one) (by simp [iM]))
  have hI:=J (show ap [M] w (aR w3 (w.heap.size+1) .no)by unfold aR;exact((((((((LC.out.trans lR.out).setCell (p:=⟨w.heap.size+1,0,none⟩) (.inr (zl _ 1)) _).setCell (p:=⟨w.heap.size+1,1,none⟩) (.inr (zl _ 1)) _).setCell (p:=⟨w.heap.size+1,2,none⟩) (.inr (zl _ 1)) _).setCell (p:=⟨w.heap.size+1,3,none⟩) (.inr (zl _ 1)) _).setCell (p:=⟨w.heap.size+1,4,none⟩) (.inr (zl _ 1)) _).setCell (p:=⟨w.heap.size+1,5,none⟩) (.inr (zl _ 1)) _).setCell (p:=⟨w.heap.size+1,6,none⟩) (.inr (zl _ 1)) _))
  unfold aR at z0 z1 z2 z3 z4 z5 z6 iL hI;simp only [eP,ri,rb,rt]at z0 z1 z2 z3 z4 z5 z6 iL hI;refine zi (v:= .tuple #[aY .no, .int .i64 0]) (by simp [results,results60,go_sem,eP,ri,rb,rt,z0,z1,z2,z3,z4,z5,z6]) rfl ⟨rfl,iL.out,hI.out⟩
def jy a b c d e f g h i j k l m n o p:=(nV a b c d e f g h i j k l m n o p).1
def sQ a b c d e f g h i j k l m n o p:=(nV a b c d e f g h i j k l m n o p).2
set_option maxHeartbeats 2000000
theorem AD(d:Nat)(h:d<10):(⟨#[48,49,50,51,52,53,54,55,56,57]⟩:ByteArray).extract d (d+1)=⟨#[UInt8.ofNat (48+d)]⟩:=by
 have: ∀d<10,(⟨#[48,49,50,51,52,53,54,55,56,57]⟩:ByteArray).extract d (d+1)=⟨#[UInt8.ofNat (48+d)]⟩:=by decide+kernel
 exact this d h
theorem BW(n:Nat)(hn:n<2^64)(w:World):Calls prog 189 #[.int .u64 (n:Int)] w fun e w'=>e= .returned (.string ⟨(Lib.decDigits n).toArray⟩)∧w=w':=by
 have HN:=J hn;clear hn;go_enter func189,ntmps189;go_wp2_with fail
 go_loop [0,3] (fun ix s=> ∃(k:Nat) (T:List UInt8),k<2^64∧ix= .int .u64 (k:Int)∧s= .string ⟨T.toArray⟩∧Hid (Lib.decDigits n=Lib.decDigits k++T)) (fun ix _=>(intOf ix).toNat)
 case atStart=>exact⟨n,[],HN.out,rfl,rfl,J (by simp)⟩
 case round=>
  obtain⟨k,T,hk,rfl,rfl,HE⟩:=hrel;have hd:k%10<10:=zU _ (by decide)
  have hT:T.length≤20:=by
   have h1:=ZW List.length HE.out;rw [zS,ZZ]at h1;have h2:=vR 19 n (by have:=HN.out;omega)
   omega
  have dq:=eA T
  by_cases JK:k<10
  ·have q0:decide (10≤(k:Int))=false:=zb (by omega)
   have hC:=AD k JK;have HF:=J (show Lib.decDigits n=[UInt8.ofNat (48+k)]++T by rw [HE.out,Lib.decDigits_one JK])
   generalize UInt8.ofNat (48+k)=cc at *;go_wp2_with fail;go_ret;refine⟨?_,rfl⟩;rw [HF.out,←mG]
   rfl
  ·have q0:decide (10≤(k:Int))=true:=zc (by omega)
   have hC:=AD (k%10) hd;have HF:=J (show Lib.decDigits n=Lib.decDigits (k/10)++([UInt8.ofNat (48+k%10)]++T)by rw [HE.out,show Lib.decDigits k=Lib.decDigits (k/10)++[UInt8.ofNat (48+k%10)]by rw [Lib.decDigits,dif_neg JK],Zn])
   generalize UInt8.ofNat (48+k%10)=cc at *;go_wp2_with fail
   go_round
   case rel=>exact⟨k/10,[cc]++T,by omega,by rw [Int.natCast_ediv];rfl,by rw [←mG],HF⟩
   case measure=>simp [intOf];omega
theorem EC(n:Int)(hn:ax n=true)(w:World):Calls prog 117 #[.int .i64 n] w fun e w'=>e= .returned (.tuple #[.string ⟨(qq n).toArray⟩, .int .i64 0])∧w=w':=by
 have HR:=J (fun w=>dL n w)
 rw [hn]at HR;have HA:=J (fun w=>fQ n hn w)
 have hr:=bF hn;have HD:=J (fun w=>BW n.natAbs (by omega) w)
 have hl:(Lib.decDigits n.natAbs).length≤20:=by rw [ZZ];exact vR 19 _ (by omega)
 have ah4:qq n=if n<0 then [126]++Lib.decDigits n.natAbs else Lib.decDigits n.natAbs:=rfl
 rw [ah4];clear ah4 hn hr;generalize Lib.decDigits n.natAbs=D at *;generalize n.natAbs=m at *;have dq:=eA D
 by_cases h0:n<0
 have fD:=J (rfl:0=0)
 all_goals
  first
   |replace fD:=fD
    rw [zh h0];have q0:=zc h0
   |rw [ze h0]
    have q0:=zb h0
  clear h0;go_enter func117,ntmps117;go_wp2_with (first|(go_at_call 54;(with_reducible refine(HR.out _).q ?_))|(go_at_call 190;(with_reducible refine(HA.out _).q ?_))|(go_at_call 189;(with_reducible refine(HD.out _).q ?_)))
  go_ret2
  first
   |replace fD:=fD
    refine⟨?_,rfl⟩;show _=Ending.returned (.tuple #[.string ⟨([126]++D).toArray⟩, .int .i64 0]);rw [←mG]
    rfl
   |exact⟨rfl,rfl⟩
theorem xz(mv:Value)(con ab:Int)(ty rv v:Value)(n:Int)(hn:ax n=true)(w:World)(hV:VL w w.heap.size v [.int n]):
 Calls prog 64 #[mv, .agg #[.string ⟨#[105,110,116,84,101,120,116]⟩, .int .i64 con, .int .i64 ab,ty,rv],v] w (aD (.str (qq n)) w):=by
 obtain⟨ad,c,rfl,bJ,hX⟩:=mf hV;obtain⟨W,hW⟩: ∃W,((w.alloc (.cells #[.string ⟨#[105,110,116,84,101,120,116]⟩, .int .i64 con, .int .i64 ab,ty,rv] 36)).alloc (.cells aL 49)).alloc (.cells #[.int .i64 1] 3)=W:=⟨_,rfl⟩;have bi:=J (show Below w.heap.size w W by rw [←hW];exact cA _ _ _ _)
 have HP:=J (show ai W w.heap.size 36 #[.string ⟨#[105,110,116,84,101,120,116]⟩, .int .i64 con, .int .i64 ab,ty,rv]by rw [←hW];exact((ai.new _ _ _).alloc _).alloc _)
 have HZ:=J (show ai W (w.heap.size+1) 49 aL by rw [←hW];exact(am (by simp) _ _).alloc _)
 have p0:=HP.out.c0;have p9:((w.alloc (.cells #[.string ⟨#[105,110,116,84,101,120,116]⟩, .int .i64 con, .int .i64 ab,ty,rv] 36)).alloc (.cells aL 49)).cell? ⟨w.heap.size,0,none⟩=some (.string ⟨#[105,110,116,84,101,120,116]⟩):=((ai.new _ _ _).alloc _).cell 0;have HK:=J (bG [.int n] [1] _ w W (w.heap.size+2) 1 3 #[.int .i64 1] hV (za _) (by decide) bi.out (by rw [←hW];exact am (by simp) _ _) rfl rfl (by decide))
 rw [show aQ [.int n] [1]=true from rfl]at HK
 have x1:W.cell? ⟨ad.block,ad.off+1,none⟩=some (.int .i64 n):=(hX.below bJ bi.out).2.1;have HF:=J (fun w=>EC n hn w)
 have HT:=J (fun w=>mP (qq n) w)
 generalize qq n=q at *;unfold aD b_ at *;clear hn hV hX;go_enter func64,ntmps64
 go_wp2_with (first
  |(go_at_call 57;(with_reducible refine(HK.out).mono ?_);rintro e w1 ⟨rfl,dn,rfl⟩)
  |(go_at_call 117;(with_reducible refine(HF.out _).q ?_))
  |(go_at_call 110;(with_reducible refine(HT.out _).mono ?_);rintro e w5 ⟨rfl,hb⟩;have BX:=J ((HZ.out.drewN dn).below hb HZ.out.lt);have HB:=J ((below_drewN bi.out dn).trans (hb.mono bi.out.size));obtain⟨c0,c1,c2,c3,c4,c5,c6⟩:=ae BX.out;obtain⟨f0,f1,f2,f3,f4,f5,f6⟩:=ar BX.out;clear hb))
 obtain⟨z0,z1,z2,z3,z4,z5,z6⟩:=ae (aF (r:= .str q) BX.out);unfold aR at z0 z1 z2 z3 z4 z5 z6;refine zi (v:= .tuple #[aY (.str q), .int .i64 0]) (by simp [results,results64,go_sem,z0,z1,z2,z3,z4,z5,z6]) rfl ⟨rfl,az (r:= .str q) HB.out (zl _ 1)⟩
set_option maxHeartbeats 8000000
theorem AF{w:World}{B:Nat}{v:Value}{x:At}(h:VL w B v [x]): ∃ad c,v= .slice (some ad) 1 c∧ad.block<B∧∀j u,(gz (dT x))[j]? =some u→w.cell? (ad.add j)=some u:=by
 obtain⟨A,c,rfl,h1,h2,h3⟩:=h;obtain⟨ad,rfl,hb,hc⟩:=h3 0 x rfl;exact⟨ad,c,rfl,hb,fun j u hu=>by have:=hc j u hu;rwa [Zk,Ih]at this⟩
theorem EH(mv:Value)(con ab:Int)(ty rv v:Value)(n:Int)(hn:ax n=true)(w:World)(hV:VL w w.heap.size v [.int n]):Calls prog 64 #[mv, .agg #[.string ⟨#[114,101,97,108]⟩, .int .i64 con, .int .i64 ab,ty,rv],v] w (aD (.real (aw (Bc n))) w):=by
 obtain⟨ad,c,rfl,bJ,hX⟩:=mf hV;obtain⟨W,hW⟩: ∃W,((w.alloc (.cells #[.string ⟨#[114,101,97,108]⟩, .int .i64 con, .int .i64 ab,ty,rv] 36)).alloc (.cells aL 49)).alloc (.cells #[.int .i64 1] 3)=W:=⟨_,rfl⟩;have bi:=J (show Below w.heap.size w W by rw [←hW];exact cA _ _ _ _)
 have HP:=J (show ai W w.heap.size 36 #[.string ⟨#[114,101,97,108]⟩, .int .i64 con, .int .i64 ab,ty,rv]by rw [←hW];exact((ai.new _ _ _).alloc _).alloc _)
 have HZ:=J (show ai W (w.heap.size+1) 49 aL by rw [←hW];exact(am (by simp) _ _).alloc _)
 have p0:=HP.out.c0;have p9:((w.alloc (.cells #[.string ⟨#[114,101,97,108]⟩, .int .i64 con, .int .i64 ab,ty,rv] 36)).alloc (.cells aL 49)).cell? ⟨w.heap.size,0,none⟩=some (.string ⟨#[114,101,97,108]⟩):=((ai.new _ _ _).alloc _).cell 0;have HK:=J (bG [.int n] [1] _ w W (w.heap.size+2) 1 3 #[.int .i64 1] hV (za _) (by decide) bi.out (by rw [←hW];exact am (by simp) _ _) rfl rfl (by decide))
 rw [show aQ [.int n] [1]=true from rfl]at HK
 have x1:W.cell? ⟨ad.block,ad.off+1,none⟩=some (.int .i64 n):=(hX.below bJ bi.out).2.1;have HF:=J (fun w=>Re n (by have:=bF hn;omega) (by have:=bF hn;omega) w)
 have HT:=J (fun w=>mQ (Bc n) (aca n) w)
 generalize aw (Bc n)=q at *;generalize Bc n=p at *;unfold aD b_ jq at *;clear hn hV hX;go_enter func64,ntmps64;go_wp2_with (first|(go_at_call 57;(with_reducible refine(HK.out).mono ?_);rintro e w1 ⟨rfl,dn,rfl⟩)|(go_at_call 116;(with_reducible refine(HF.out _).mono ?_);rintro e w4 ⟨rfl,hb⟩;have ce:=J ((below_drewN bi.out dn).trans (hb.mono bi.out.size));have tv:=J ((HZ.out.drewN dn).below hb HZ.out.lt);clear hb)|(go_at_call 55;(with_reducible refine(HT.out _).mono ?_);rintro e w5 ⟨rfl,hb⟩;have BX:=J (tv.out.below hb tv.out.lt);have HB:=J (ce.out.trans (hb.mono ce.out.size));obtain⟨c0,c1,c2,c3,c4,c5,c6⟩:=ae BX.out;obtain⟨f0,f1,f2,f3,f4,f5,f6⟩:=ar BX.out;clear hb))
 obtain⟨z0,z1,z2,z3,z4,z5,z6⟩:=ae (aF (r:= .real q) BX.out);unfold aR at z0 z1 z2 z3 z4 z5 z6;refine zi (v:= .tuple #[aY (.real q), .int .i64 0]) (by simp [results,results64,go_sem,z0,z1,z2,z3,z4,z5,z6]) rfl ⟨rfl,az (r:= .real q) HB.out (zl _ 1)⟩
theorem iz(mv:Value)(con ab:Int)(ty rv v:Value)(n:Int):(∀(h:fT (.int n)=true) (w:World) (hV:VL w w.heap.size v [.int n]),Calls prog 64 #[mv, .agg #[.string ⟨#[99,104,114]⟩, .int .i64 con, .int .i64 ab,ty,rv],v] w (aD (.int n) w))∧(∀(h:fT (.int n)=false) (w:World) (hV:VL w w.heap.size v [.int n]),Calls prog 64 #[mv, .agg #[.string ⟨#[99,104,114]⟩, .int .i64 con, .int .i64 ab,ty,rv],v] w (aD (.raise 2) w))∧(∀(h:fT (.int n)=true) (w:World) (hV:VL w w.heap.size v [.int n]),Calls prog 64 #[mv, .agg #[.string ⟨#[111,114,100]⟩, .int .i64 con, .int .i64 ab,ty,rv],v] w (aD (.int n) w))∧(∀(h:fT (.int n)=true) (w:World) (hV:VL w w.heap.size v [.int n]),Calls prog 64 #[mv, .agg #[.string ⟨#[115,116,114]⟩, .int .i64 con, .int .i64 ab,ty,rv],v] w (aD (.str [UInt8.ofNat n.toNat]) w)):=by
 refine⟨?_,?_,?_,?_⟩
 all_goals intro h w hV
 have aj:=J (rfl:0=0)
 rotate_left;have aG:=J (rfl:0=0)
 rotate_left;have aP:=J (rfl:0=0)
 rotate_left;have bk:=J (rfl:0=0)
 all_goals
  obtain⟨ad,c,rfl,bJ,hX⟩:=AF hV
  first
   |replace aP:=aP
    obtain⟨W,hW⟩: ∃W,(w.alloc (.cells #[.string ⟨#[111,114,100]⟩, .int .i64 con, .int .i64 ab,ty,rv] 36)).alloc (.cells aL 49)=W:=⟨_,rfl⟩;have bi:=J (show Below w.heap.size w W by rw [←hW];exact aA _ _ _)
    have HP:=J (show ai W w.heap.size 36 #[.string ⟨#[111,114,100]⟩, .int .i64 con, .int .i64 ab,ty,rv]by rw [←hW];exact(ai.new _ _ _).alloc _)
    have HZ:=J (show ai W (w.heap.size+1) 49 aL by rw [←hW];exact am (by simp) _ _)
   |replace bk:=bk
    obtain⟨W,hW⟩: ∃W,(w.alloc (.cells #[.string ⟨#[115,116,114]⟩, .int .i64 con, .int .i64 ab,ty,rv] 36)).alloc (.cells aL 49)=W:=⟨_,rfl⟩;have bi:=J (show Below w.heap.size w W by rw [←hW];exact aA _ _ _)
    have HP:=J (show ai W w.heap.size 36 #[.string ⟨#[115,116,114]⟩, .int .i64 con, .int .i64 ab,ty,rv]by rw [←hW];exact(ai.new _ _ _).alloc _)
    have HZ:=J (show ai W (w.heap.size+1) 49 aL by rw [←hW];exact am (by simp) _ _)
   |obtain⟨W,hW⟩: ∃W,((w.alloc (.cells #[.string ⟨#[99,104,114]⟩, .int .i64 con, .int .i64 ab,ty,rv] 36)).alloc (.cells aL 49)).alloc (.cells #[.int .i64 1] 3)=W:=⟨_,rfl⟩
    have bi:=J (show Below w.heap.size w W by rw [←hW];exact cA _ _ _ _)
    have HP:=J (show ai W w.heap.size 36 #[.string ⟨#[99,104,114]⟩, .int .i64 con, .int .i64 ab,ty,rv]by rw [←hW];exact((ai.new _ _ _).alloc _).alloc _)
    have HZ:=J (show ai W (w.heap.size+1) 49 aL by rw [←hW];exact(am (by simp) _ _).alloc _)
  have p0:=HP.out.c0
  first
   |(first|replace aj:=aj|replace aG:=aG)
    have p9:((w.alloc (.cells #[.string ⟨#[99,104,114]⟩, .int .i64 con, .int .i64 ab,ty,rv] 36)).alloc (.cells aL 49)).cell? ⟨w.heap.size,0,none⟩=some (.string ⟨#[99,104,114]⟩):=((ai.new _ _ _).alloc _).cell 0;have HK:=J (bG [.int n] [1] _ w W (w.heap.size+2) 1 3 #[.int .i64 1] hV (za _) (by decide) bi.out (by rw [←hW];exact am (by simp) _ _) rfl rfl (by decide))
    rw [show aQ [.int n] [1]=true from rfl]at HK
   |skip
  have x0:W.cell? ad=some (.int .i64 1):=(bi.out.cell bJ).trans (by have:=hX 0 _ rfl;rwa [ZV]at this)
  have x1:W.cell? ⟨ad.block,ad.off+1,none⟩=some (.int .i64 n):=(bi.out.cell (p:=⟨ad.block,ad.off+1,none⟩) bJ).trans (by have:=hX 1 _ rfl;rwa [aB ad (by decide)]at this)
  have x2:W.cell? ⟨ad.block,ad.off+2,none⟩=some (.int .u64 0):=(bi.out.cell (p:=⟨ad.block,ad.off+2,none⟩) bJ).trans (by have:=hX 2 _ rfl;rwa [aB ad (by decide)]at this)
  have x3:W.cell? ⟨ad.block,ad.off+3,none⟩=some (.string ⟨#[]⟩):=(bi.out.cell (p:=⟨ad.block,ad.off+3,none⟩) bJ).trans (by have:=hX 3 _ rfl;rwa [aB ad (by decide)]at this)
  have x4:W.cell? ⟨ad.block,ad.off+4,none⟩=some (.slice none 0 0):=(bi.out.cell (p:=⟨ad.block,ad.off+4,none⟩) bJ).trans (by have:=hX 4 _ rfl;rwa [aB ad (by decide)]at this)
  have x5:W.cell? ⟨ad.block,ad.off+5,none⟩=some (.int .i64 0):=(bi.out.cell (p:=⟨ad.block,ad.off+5,none⟩) bJ).trans (by have:=hX 5 _ rfl;rwa [aB ad (by decide)]at this)
  have x6:W.cell? ⟨ad.block,ad.off+6,none⟩=some (.pointer none):=(bi.out.cell (p:=⟨ad.block,ad.off+6,none⟩) bJ).trans (by have:=hX 6 _ rfl;rwa [aB ad (by decide)]at this)
  have gi:=J (show w.cell? ad=some (.int .i64 1)by have:=hX 0 _ rfl;rwa [ZV]at this)
  have cC:=J (show w.cell? ⟨ad.block,ad.off+1,none⟩=some (.int .i64 n)by have:=hX 1 _ rfl;rwa [aB ad (by decide)]at this)
  have g_:=J (show w.cell? ⟨ad.block,ad.off+2,none⟩=some (.int .u64 0)by have:=hX 2 _ rfl;rwa [aB ad (by decide)]at this)
  have xZ:=J (show w.cell? ⟨ad.block,ad.off+3,none⟩=some (.string ⟨#[]⟩)by have:=hX 3 _ rfl;rwa [aB ad (by decide)]at this)
  have YT:=J (show w.cell? ⟨ad.block,ad.off+4,none⟩=some (.slice none 0 0)by have:=hX 4 _ rfl;rwa [aB ad (by decide)]at this)
  have HW5:=J (show w.cell? ⟨ad.block,ad.off+5,none⟩=some (.int .i64 0)by have:=hX 5 _ rfl;rwa [aB ad (by decide)]at this)
  have VO:=J (show w.cell? ⟨ad.block,ad.off+6,none⟩=some (.pointer none)by have:=hX 6 _ rfl;rwa [aB ad (by decide)]at this)
  have HC:=J (fun w=>Ey n w)
  rw [h]at HC;unfold aD at *;simp only [aY,gz,eP,ri,rb,rt]at HC
  first
   |replace bk:=bk
    have HF:=J (fun w=>Ut n (by unfold fT at h;simp [At.isInt,At.i]at h;exact Zq h.1) (by unfold fT at h;simp [At.isInt,At.i]at h;exact Zq h.2) w)
    have HT:=J (fun w=>mP [UInt8.ofNat n.toNat] w)
    generalize [UInt8.ofNat n.toNat]=q at *;unfold ju b_ at *
   |skip
  clear hV hX h;go_enter func64,ntmps64
  (first|replace aP:=aP;go_wp2_with (go_at_call 120;(with_reducible refine(HC.out _).mono ?_);rintro e w4 ⟨rfl,hb⟩;have ce:=J ((bi.out).trans (hb.mono (bi.out).size));have BX:=J (HZ.out.below hb HZ.out.lt);have BP:=J (HP.out.below hb HP.out.lt);have HB:=J ce.out;have p4:=BP.out.cell 0;have y0:=(ce.out.cell (p:=ad) bJ).trans (gi.out);have y1:=(ce.out.cell (p:=⟨ad.block,ad.off+1,none⟩) bJ).trans (cC.out);have y2:=(ce.out.cell (p:=⟨ad.block,ad.off+2,none⟩) bJ).trans (g_.out);have y3:=(ce.out.cell (p:=⟨ad.block,ad.off+3,none⟩) bJ).trans (xZ.out);have y4:=(ce.out.cell (p:=⟨ad.block,ad.off+4,none⟩) bJ).trans (YT.out);have y5:=(ce.out.cell (p:=⟨ad.block,ad.off+5,none⟩) bJ).trans (HW5.out);have y6:=(ce.out.cell (p:=⟨ad.block,ad.off+6,none⟩) bJ).trans (VO.out);obtain⟨c0,c1,c2,c3,c4,c5,c6⟩:=ae BX.out;obtain⟨f0,f1,f2,f3,f4,f5,f6⟩:=ar BX.out;clear hb)|replace bk:=bk;go_wp2_with (first|(go_at_call 120;(with_reducible refine(HC.out _).mono ?_);rintro e w4 ⟨rfl,hb⟩;have ce:=J ((bi.out).trans (hb.mono (bi.out).size));have BX:=J (HZ.out.below hb HZ.out.lt);have BP:=J (HP.out.below hb HP.out.lt);have HB:=J ce.out;have p4:=BP.out.cell 0;have y0:=(ce.out.cell (p:=ad) bJ).trans (gi.out);have y1:=(ce.out.cell (p:=⟨ad.block,ad.off+1,none⟩) bJ).trans (cC.out);have y2:=(ce.out.cell (p:=⟨ad.block,ad.off+2,none⟩) bJ).trans (g_.out);have y3:=(ce.out.cell (p:=⟨ad.block,ad.off+3,none⟩) bJ).trans (xZ.out);have y4:=(ce.out.cell (p:=⟨ad.block,ad.off+4,none⟩) bJ).trans (YT.out);have y5:=(ce.out.cell (p:=⟨ad.block,ad.off+5,none⟩) bJ).trans (HW5.out);have y6:=(ce.out.cell (p:=⟨ad.block,ad.off+6,none⟩) bJ).trans (VO.out);obtain⟨c0,c1,c2,c3,c4,c5,c6⟩:=ae BX.out;obtain⟨f0,f1,f2,f3,f4,f5,f6⟩:=ar BX.out;clear hb)|(go_at_call 121;(with_reducible refine(HF.out _).mono ?_);rintro e w6 ⟨rfl,hb⟩;have lS:=J (ce.out.trans (hb.mono ce.out.size));have BX6:=J (BX.out.below hb BX.out.lt);clear hb BX HB c0 c1 c2 c3 c4 c5 c6 f0 f1 f2 f3 f4 f5 f6)|(go_at_call 110;(with_reducible refine(HT.out _).mono ?_);rintro e w7 ⟨rfl,hb⟩;have HB:=J (lS.out.trans (hb.mono lS.out.size));have BX:=J (BX6.out.below hb BX6.out.lt);obtain⟨c0,c1,c2,c3,c4,c5,c6⟩:=ae BX.out;obtain⟨f0,f1,f2,f3,f4,f5,f6⟩:=ar BX.out;clear hb))|go_wp2_with (first|(go_at_call 57;(with_reducible refine(HK.out).mono ?_);rintro e w1 ⟨rfl,dn,rfl⟩)|(go_at_call 120;(with_reducible refine(HC.out _).mono ?_);rintro e w4 ⟨rfl,hb⟩;have ce:=J ((below_drewN bi.out dn).trans (hb.mono (below_drewN bi.out dn).size));have BX:=J ((HZ.out.drewN dn).below hb (HZ.out.drewN dn).lt);have BP:=J ((HP.out.drewN dn).below hb (HP.out.drewN dn).lt);have HB:=J ce.out;have p4:=BP.out.cell 0;have y0:=(ce.out.cell (p:=ad) bJ).trans (gi.out);have y1:=(ce.out.cell (p:=⟨ad.block,ad.off+1,none⟩) bJ).trans (cC.out);have y2:=(ce.out.cell (p:=⟨ad.block,ad.off+2,none⟩) bJ).trans (g_.out);have y3:=(ce.out.cell (p:=⟨ad.block,ad.off+3,none⟩) bJ).trans (xZ.out);have y4:=(ce.out.cell (p:=⟨ad.block,ad.off+4,none⟩) bJ).trans (YT.out);have y5:=(ce.out.cell (p:=⟨ad.block,ad.off+5,none⟩) bJ).trans (HW5.out);have y6:=(ce.out.cell (p:=⟨ad.block,ad.off+6,none⟩) bJ).trans (VO.out);obtain⟨c0,c1,c2,c3,c4,c5,c6⟩:=ae BX.out;obtain⟨f0,f1,f2,f3,f4,f5,f6⟩:=ar BX.out;clear hb)))
  first
   |replace aG:=aG
    obtain⟨z0,z1,z2,z3,z4,z5,z6⟩:=ae (aF (r:= .raise 2) BX.out)
   |replace bk:=bk
    obtain⟨z0,z1,z2,z3,z4,z5,z6⟩:=ae (aF (r:= .str q) BX.out)
   |obtain⟨z0,z1,z2,z3,z4,z5,z6⟩:=ae (aF (r:= .int n) BX.out)
  unfold aR at z0 z1 z2 z3 z4 z5 z6
  first
   |replace aG:=aG
    simp only [eP,ri,rb,rt]at z0 z1 z2 z3 z4 z5 z6;refine zi (v:= .tuple #[aY (.raise 2), .int .i64 2]) (by simp [results,results64,go_sem,eP,ri,rb,rt,z0,z1,z2,z3,z4,z5,z6]) rfl ⟨rfl,az (r:= .raise 2) HB.out (zl _ 1)⟩
   |replace bk:=bk
    refine zi (v:= .tuple #[aY (.str q), .int .i64 0]) (by simp [results,results64,go_sem,z0,z1,z2,z3,z4,z5,z6]) rfl ⟨rfl,az (r:= .str q) HB.out (zl _ 1)⟩
   |simp only [eP,ri,rb,rt]at z0 z1 z2 z3 z4 z5 z6
    refine zi (v:= .tuple #[aY (.int n), .int .i64 0]) (by simp [results,results64,go_sem,eP,ri,rb,rt,z0,z1,z2,z3,z4,z5,z6]) rfl ⟨rfl,az (r:= .int n) HB.out (zl _ 1)⟩
def Jo a b c d e f g:=(iz a b c d e f g).1
def BY a b c d e f g:=(iz a b c d e f g).2.1
def Jp a b c d e f g:=(iz a b c d e f g).2.2.1
def Jq a b c d e f g:=(iz a b c d e f g).2.2.2
end Go.Proofs.YtcpmiplofbfmfaaGreatDoor
