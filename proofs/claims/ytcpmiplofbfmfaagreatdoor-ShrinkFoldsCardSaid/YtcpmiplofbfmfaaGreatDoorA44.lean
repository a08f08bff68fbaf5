/- Shrink: the reference's primitives of two ints: of others th -/
import Derived.Test.YtcpmiplofbfmfaaGreatDoorA43
set_option linter.all false
set_option maxRecDepth 100000
set_option maxHeartbeats 2000000
namespace Go.Proofs.YtcpmiplofbfmfaaGreatDoor
open Go.Proofs.Tryz
open Go.Lib renaming hid→J
open Go.RowKit LamM CpsM FloM ShrM
theorem ET(M:Nat)(v0 pv v2 v3 v4 v5 v6 v7 v8:Value)(j:Nat)(nm:List UInt8)(con ab:Int)(rs:List Int)(hpt:ao[j]? =some ⟨nm,con,ab,rs⟩)(hc:con=(-1))(hn:nm∈([[100,105,118],[109,111,100],[113,117,111,116],[114,101,109]]:List (List UInt8)))(L:List At)(hl:L.length=2)(hk:aQ L [1,1]=false)(v:Value)(w:World)
 (a9:PV w w.heap.size pv ao) (hM:ai w M 59 #[v0,pv,v2,v3,v4,v5,v6,v7,v8]) (hV:VL w w.heap.size v L)
 (HS: ∀ty rv w1,Below w.heap.size w w1→ai w1 M 59 #[v0,pv,v2,v3,v4,v5,v6,v7,v8]→Calls prog 65 #[.pointer (some ⟨M,0,none⟩), .agg #[.string ⟨nm.toArray⟩, .int .i64 con, .int .i64 ab, .string ty,rv],v] w1 (fun e w'=>e= .returned (.tuple #[aY .no, .int .i64 0])∧ai w' M 59 #[v0,pv,v2,v3,v4,v5,v6,v7, .int .i64 5]∧ap [M] w1 w')):
 Calls prog 17 #[.pointer (some ⟨M,0,none⟩), .int .i64 (j:Int),v] w (fun e w'=>e= .returned (.tuple #[aY .no, .int .i64 0])∧ai w' M 59 #[v0,pv,v2,v3,v4,v5,v6,v7, .int .i64 5]∧ap [M] w w'):=by
 obtain⟨A,c,rfl,lj,gW⟩:=hV.len;obtain⟨PA,qE,rfl,iJ,iK⟩:=a9.len;rw [aN]at *;obtain⟨ty,rv,iH,ol,tb,lT,kX,qe,qf⟩:=a9.at_ hpt;obtain⟨RA,lu,rfl,Ca,hr2⟩:=ol.len;dsimp only at tb lT kX qe qf HS;subst hc;have hj:j<61:=by have:=(zq.1 hpt).1;rw [aN]at this;exact this
 have JJ:(j:Int)<61:=by omega
 have Fw:(0:Int)≤(j:Int):=by omega
 have pH:=(zg w.heap.size w).alloc (za _) (.cells aL 49);have m1:(w.alloc (.cells aL 49)).cell? ⟨M,1,none⟩=some (.slice (some PA) 61 qE):=(hM.alloc _).cell 1;replace tb:=(pH.cell (p:=PA.add (j*5)) (by rw [ak];exact iH)).trans tb
 replace lT:=bc (j:=0) ((pH.cell (p:=PA.add (j*5+1)) (by rw [ak];exact iH)).trans lT)
 replace kX:=bc (j:=1) ((pH.cell (p:=PA.add (j*5+2)) (by rw [ak];exact iH)).trans kX)
 replace qe:=bc (j:=2) ((pH.cell (p:=PA.add (j*5+3)) (by rw [ak];exact iH)).trans qe)
 replace qf:=bc (j:=3) ((pH.cell (p:=PA.add (j*5+4)) (by rw [ak];exact iH)).trans qf)
 obtain⟨W,hW⟩: ∃W,(w.alloc (.cells aL 49)).alloc (.cells #[.string ⟨nm.toArray⟩, .int .i64 (-1), .int .i64 ab, .string ty, .slice RA rs.length lu] 36)=W:=⟨_,rfl⟩;have bi:=J (show Below w.heap.size w W by rw [←hW];exact aA _ _ _)
 have HZ:=J (show ai W w.heap.size 49 aL by rw [←hW];exact(ai.new _ _ _).alloc _)
 have HP:=J (show ai W (w.heap.size+1) 36 #[.string ⟨nm.toArray⟩, .int .i64 (-1), .int .i64 ab, .string ty, .slice RA rs.length lu]by rw [←hW];exact am (by simp) _ _)
 have p0:=HP.out.c0;have p1:=HP.out.c1;have p2:=HP.out.c2;have p3:=HP.out.c3;have p4:=HP.out.c4;have ux:=J (hM.below bi.out hM.lt);have bw:=hM.lt;have fa:w.heap.size≠M:=by omega
 have iM:M≠w.heap.size:=by omega
 have HK:=J (bG L [1,1] _ w (W.alloc (.cells #[.int .i64 1, .int .i64 1] 3)) W.heap.size 2 3 #[.int .i64 1, .int .i64 1] hV (by rw [hl];exact za _) (by decide) (bi.out.alloc bi.out.size _) (ai.new W _ _) rfl rfl (by decide))
 rw [hk,hl]at HK;have vu:=J (bi.out.alloc bi.out.size (.cells #[.int .i64 1, .int .i64 1] 3));have Cv:=J (HZ.out.alloc (.cells #[.int .i64 1, .int .i64 1] 3));have xY:=J (HP.out.alloc (.cells #[.int .i64 1, .int .i64 1] 3));have Cu:=J (ux.out.alloc (.cells #[.int .i64 1, .int .i64 1] 3));rw [hl]at HS;rw [hl];have oq:=J (fun w1 (hb:Below w.heap.size w w1)=>HS ty (.slice RA rs.length lu) w1 hb)
 clear HS a9 hM hV ol hpt lj gW iJ iK Ca hr2 iH hl hk;simp only [zx,zD,Zo]at hn
 rcases hn with rfl|rfl|rfl|rfl
 all_goals
  go_enter func17,ntmps17
  go_wp2_with (first
   |(go_at_call 57;(with_reducible refine(HK.out).mono ?_);rintro e w1 ⟨rfl,dn,dz⟩;have H1:=J (show Below w.heap.size w w1 by rw [dz];exact below_drewN vu.out dn);have jo:=J (show ai w1 w.heap.size 49 aL by rw [dz];exact Cv.out.drewN dn);have dr:=xY.out.drewN dn;rw [←dz]at dr;have dV:=J dr;clear dr;have qg:=J (show ai w1 M 59 #[v0, .slice (some PA) 61 qE,v2,v3,v4,v5,v6,v7,v8]by rw [dz];exact Cu.out.drewN dn);have u0:=dV.out.cell 0;have u1:=dV.out.cell 1;have u2:=dV.out.cell 2;have u3:=dV.out.cell 3;have u4:=dV.out.cell 4;simp at u0 u1 u2 u3 u4;clear dz)
   |(go_at_call 65;(with_reducible refine(oq.out _ H1.out qg.out).mono ?_);rintro e w3 ⟨rfl,gR,dd⟩;have pF:=J gR;have lR:=J dd;have gf:=J (jo.out.only dd (by simp [fa]));obtain⟨c0,c1,c2,c3,c4,c5,c6⟩:=ae gf.out;obtain⟨f0,f1,f2,f3,f4,f5,f6⟩:=ar gf.out;clear gR dd))
  obtain⟨z0,z1,z2,z3,z4,z5,z6⟩:=ae (aF (r:= .no) gf.out);have iL:=J (pF.out.only (w':=aR w3 w.heap.size .no) (bs:=[w.heap.size]) (by unfold aR;exact(((((((ap.refl [w.heap.size] w3).one).one).one).one).one).one).one) (by simp [iM]))
  have hI:=J (show ap [M] w (aR w3 w.heap.size .no)by unfold aR;exact(((((((((ap.of_below (bs:=[M]) H1.out).trans lR.out).setCell (p:=⟨w.heap.size,0,none⟩) (.inr (za _)) _).setCell (p:=⟨w.heap.size,1,none⟩) (.inr (za _)) _).setCell (p:=⟨w.heap.size,2,none⟩) (.inr (za _)) _).setCell (p:=⟨w.heap.size,3,none⟩) (.inr (za _)) _).setCell (p:=⟨w.heap.size,4,none⟩) (.inr (za _)) _).setCell (p:=⟨w.heap.size,5,none⟩) (.inr (za _)) _).setCell (p:=⟨w.heap.size,6,none⟩) (.inr (za _)) _))
  unfold aR at z0 z1 z2 z3 z4 z5 z6 iL hI;simp only [eP,ri,rb,rt]at z0 z1 z2 z3 z4 z5 z6 iL hI;refine zi (v:= .tuple #[aY .no, .int .i64 0]) (by simp [results,results17,go_sem,eP,ri,rb,rt,z0,z1,z2,z3,z4,z5,z6]) rfl ⟨rfl,iL.out,hI.out⟩
theorem PO(M:Nat)(v0 v1 v2 v3 v4 v5 v6 v7 v8:Value)(S:List UInt8)(hn:S∈([[100,105,118],[109,111,100],[113,117,111,116],[114,101,109]]:List (List UInt8)))(con ab:Int)(ty rv v:Value)(x y:At)(w:World)(hM:ai w M 59 #[v0,v1,v2,v3,v4,v5,v6,v7,v8])(hV:VL w w.heap.size v [x,y]):
 Calls prog 65 #[.pointer (some ⟨M,0,none⟩), .agg #[.string ⟨S.toArray⟩, .int .i64 con, .int .i64 ab,ty,rv],v] w (fun e w'=>e= .returned (.tuple #[aY .no, .int .i64 0])∧ai w' M 59 #[v0,v1,v2,v3,v4,v5,v6,v7, .int .i64 5]∧ap [M] w w'):=by
 obtain⟨ad,c,rfl,bJ,hX,hY⟩:=jH hV;obtain⟨W,hW⟩: ∃W,(w.alloc (.cells #[.string ⟨S.toArray⟩, .int .i64 con, .int .i64 ab,ty,rv] 36)).alloc (.cells aL 49)=W:=⟨_,rfl⟩;have bw:=hM.lt;have fa:w.heap.size+1≠M:=by omega
 have iM:M≠w.heap.size+1:=by omega
 have bi:=J (show Below w.heap.size w W by rw [←hW];exact aA _ _ _)
 have LC:=J (ap.of_below (bs:=[M]) bi.out);have HP:=J (show ai W w.heap.size 36 #[.string ⟨S.toArray⟩, .int .i64 con, .int .i64 ab,ty,rv]by rw [←hW];exact(ai.new _ _ _).alloc _)
 have HZ:=J (show ai W (w.heap.size+1) 49 aL by rw [←hW];exact am (by simp) _ _)
 have p0:=HP.out.c0;have HS:=J (gP M v0 v1 v2 v3 v4 v5 v6 v7 v8 W (hM.below bi.out hM.lt));have x0:W.cell? ad=some (.int .i64 (eP (dT x))):=(hX.below bJ bi.out).1;clear hM hV hX hY;simp only [zx,zD,Zo]at hn
 cases x
 all_goals
  simp only [dT,eP]at x0
  rcases hn with rfl|rfl|rfl|rfl
  all_goals
   go_enter func65,ntmps65;go_wp2_with (go_at_call 101;(with_reducible refine(HS.out).mono ?_);rintro e w3 ⟨rfl,gR,dd⟩;have pF:=J gR;have lR:=J dd;have gf:=J (HZ.out.only dd (by simp [fa]));obtain⟨c0,c1,c2,c3,c4,c5,c6⟩:=ae gf.out;obtain⟨f0,f1,f2,f3,f4,f5,f6⟩:=ar gf.out;clear gR dd)
   obtain⟨z0,z1,z2,z3,z4,z5,z6⟩:=ae (aF (r:= .no) gf.out);have iL:=J (pF.out.only (w':=aR w3 (w.heap.size+1) .no) (bs:=[w.heap.size+1]) (by unfold aR;exact(((((((ap.refl [w.heap.size+1] w3).one).one).one).one).one).one).one) (by simp [iM]))
   have hI:=J (show ap [M] w (aR w3 (w.heap.size+1) .no)by unfold aR;exact((((((((LC.out.trans lR.out).setCell (p:=⟨w.heap.size+1,0,none⟩) (.inr (zl _ 1)) _).setCell (p:=⟨w.heap.size+1,1,none⟩) (.inr (zl _ 1)) _).setCell (p:=⟨w.heap.size+1,2,none⟩) (.inr (zl _ 1)) _).setCell (p:=⟨w.heap.size+1,3,none⟩) (.inr (zl _ 1)) _).setCell (p:=⟨w.heap.size+1,4,none⟩) (.inr (zl _ 1)) _).setCell (p:=⟨w.heap.size+1,5,none⟩) (.inr (zl _ 1)) _).setCell (p:=⟨w.heap.size+1,6,none⟩) (.inr (zl _ 1)) _))
   unfold aR at z0 z1 z2 z3 z4 z5 z6 iL hI;simp only [eP,ri,rb,rt]at z0 z1 z2 z3 z4 z5 z6 iL hI;refine zi (v:= .tuple #[aY .no, .int .i64 0]) (by simp [results,results65,go_sem,eP,ri,rb,rt,z0,z1,z2,z3,z4,z5,z6]) rfl ⟨rfl,iL.out,hI.out⟩
set_option maxHeartbeats 2400000
theorem sS(M:Nat)(v0 pv v2 v3 v4 v5 v6 v7 v8:Value)(j:Nat)(nm:List UInt8)(con ab:Int)(rs:List Int)(hpt:ao[j]? =some ⟨nm,con,ab,rs⟩)(hc:con=(-1))(hn:nm∈([[100,105,118],[109,111,100],[113,117,111,116],[114,101,109]]:List (List UInt8)))(x y:At)(hx:gI x)(hy:gI y)(v:Value)(w:World)(a9:PV w w.heap.size pv ao)(hM:ai w M 59 #[v0,pv,v2,v3,v4,v5,v6,v7,v8])(dW:VL w M v [x,y]):Calls prog 17 #[.pointer (some ⟨M,0,none⟩), .int .i64 (j:Int),v] w (dj M v0 pv v2 v3 v4 v5 v6 v7 v8 (aC ⟨nm,con,ab,rs⟩ [x,y]) w):=by
 have hV:=dW.more (Zc hM.lt)
 by_cases hi:x.isInt=true∧y.isInt=true
 ·cases x<;>cases y<;>first|(exfalso;obtain⟨h,k⟩:=hi;first|cases h;done|cases k;done)|skip
  rename_i a b
  have e:aC ⟨nm,con,ab,rs⟩ [.int a, .int b]=fg nm a b:=by
   subst hc;simp only [zx,zD,Zo]at hn
   rcases hn with rfl|rfl|rfl|rfl<;>simp [aC,ft,bH,bB,bR,b0,b1,ShrM.b2,At.isInt,At.isStr,At.isReal,At.i,At.b,At.t]
  rw [e];refine da (YE M v0 pv v2 v3 v4 v5 v6 v7 v8 j nm con ab rs hpt hc hn [.int a, .int b] rfl rfl v _ w a9 hM hV (fun ty rv w1 hb=> ?_)) (B8 _ _ _)
  have hc0:con≠0:=by omega
  simp only [zx,zD,Zo]at hn
  rcases hn with rfl|rfl|rfl|rfl
  ·exact UB _ con hc0 ab a b _ rv v hx hy w1 (hV.below hb)
  ·exact UC _ con hc0 ab a b _ rv v hx hy w1 (hV.below hb)
  ·exact PF _ con hc0 ab a b _ rv v hx hy w1 (hV.below hb)
  ·exact UD _ con hc0 ab a b _ rv v hx hy w1 (hV.below hb)
 ·have e:aC ⟨nm,con,ab,rs⟩ [x,y]= .no:=by
   subst hc;simp only [zx,zD,Zo]at hn
   cases x<;>cases y<;>first|(exfalso;exact hi ⟨rfl,rfl⟩)|(rcases hn with rfl|rfl|rfl|rfl<;>simp [aC,ft,bH,bB,bR,b0,b1,ShrM.b2,At.isInt,At.isStr,At.isReal,At.i,At.b,At.t])
  rw [e];have hk:aQ [x,y] [1,1]=false:=by cases x<;>cases y<;>first|rfl|(exfalso;exact hi ⟨rfl,rfl⟩)
  exact du (ET M v0 pv v2 v3 v4 v5 v6 v7 v8 j nm con ab rs hpt hc hn [x,y] rfl hk v w a9 hM hV (fun ty rv w1 hb gq=>PO M v0 pv v2 v3 v4 v5 v6 v7 v8 nm hn con ab _ rv v x y w1 gq (hV.below hb)))
theorem xE(M:Nat)(v0 pv v2 v3 v4 v5 v6 v7 v8:Value)(j:Nat)(nm:List UInt8)(con ab:Int)(rs:List Int)(hpt:ao[j]? =some ⟨nm,con,ab,rs⟩)(hc:con=(-1))(hn:nm∈([[47],[115,97,109,101]]:List (List UInt8)))(x y:At)(hx:gI x)(hy:gI y)(v:Value)(w:World)(a9:PV w w.heap.size pv ao)(hM:ai w M 59 #[v0,pv,v2,v3,v4,v5,v6,v7,v8])(dW:VL w M v [x,y]):Calls prog 17 #[.pointer (some ⟨M,0,none⟩), .int .i64 (j:Int),v] w (dj M v0 pv v2 v3 v4 v5 v6 v7 v8 (aC ⟨nm,con,ab,rs⟩ [x,y]) w):=by
 have hV:=dW.more (Zc hM.lt)
 by_cases hi:x.isInt=true∧y.isInt=true
 ·cases x<;>cases y<;>first|(exfalso;obtain⟨h,k⟩:=hi;first|cases h;done|cases k;done)|skip
  rename_i a b
  have e:aC ⟨nm,con,ab,rs⟩ [.int a, .int b]= .no:=by
   subst hc;simp only [zx,zD,Zo]at hn
   rcases hn with rfl|rfl<;>simp [aC,ft,bH,bB,bR,b0,b1,ShrM.b2,At.isInt,At.isStr,At.isReal,At.i,At.b,At.t]
  rw [e];exact du (Li M v0 pv v2 v3 v4 v5 v6 v7 v8 j nm con ab rs hpt hc (by simp only [zx,zD,Zo]at hn;rcases hn with rfl|rfl<;>simp) [.int a, .int b] rfl rfl v w a9 hM hV (fun ty rv w1 hb gq=>Le M v0 pv v2 v3 v4 v5 v6 v7 v8 nm (by simp only [zx,zD,Zo]at hn;rcases hn with rfl|rfl<;>simp) con ab (by omega) _ rv [.int a, .int b] v w1 gq (hV.below hb)))
 ·have hk:aQ [x,y] [1,1]=false:=by cases x<;>cases y<;>first|rfl|(exfalso;exact hi ⟨rfl,rfl⟩)
  have e:aC ⟨nm,con,ab,rs⟩ [x,y]=bH nm [x,y]:=by
   subst hc;simp only [zx,zD,Zo]at hn
   cases x<;>cases y<;>first|(exfalso;exact hi ⟨rfl,rfl⟩)|(rcases hn with rfl|rfl<;>simp [aC,ft,bH,bB,bR,b0,b1,ShrM.b2,At.isInt,At.isStr,At.isReal,At.i,At.b,At.t])
  rw [e]
  by_cases hr:x.isReal=true
  ·by_cases hs:y.isReal=true
   ·cases x<;>cases y<;>first|(cases hr;done)|(cases hs;done)|skip
    rename_i a b;show Calls _ _ _ _ (dj M v0 pv v2 v3 v4 v5 v6 v7 v8 (go nm a b) w);exact da (Jv M v0 pv v2 v3 v4 v5 v6 v7 v8 j nm con ab rs hpt hc hn [.real a, .real b] rfl rfl v _ w a9 hM hV (fun ty rv w1 hb=>AE _ nm con ab a b _ rv v hx hy w1 (hV.below hb))) (EQ _ _ _)
   ·have Lq:y.isReal=false:=by simpa using hs
    rw [show bH nm [x,y]= .no by simp [bH,Lq]]
    exact du (xB M v0 pv v2 v3 v4 v5 v6 v7 v8 j nm con ab rs hpt hc hn [x,y] rfl hk v w a9 hM hV (fun ty rv w1 hb gq=>sQ M v0 pv v2 v3 v4 v5 v6 v7 v8 nm con ab _ rv v x y hr Lq w1 gq (hV.below hb)))
  ·have Ct:x.isReal=false:=by simpa using hr
   rw [show bH nm [x,y]= .no by simp [bH,Ct]]
   exact du (xB M v0 pv v2 v3 v4 v5 v6 v7 v8 j nm con ab rs hpt hc hn [x,y] rfl hk v w a9 hM hV (fun ty rv w1 hb gq=>jy M v0 pv v2 v3 v4 v5 v6 v7 v8 nm con ab _ rv v x [y] Ct w1 gq (hV.below hb)))
theorem ja(M:Nat)(v0 pv v2 v3 v4 v5 v6 v7 v8:Value)(j:Nat)(nm:List UInt8)(con ab:Int)(rs:List Int)(hpt:ao[j]? =some ⟨nm,con,ab,rs⟩)(hc:con=(-1))(hn:nm∈([[102,108,111,111,114],[99,101,105,108],[116,114,117,110,99],[114,111,117,110,100],[105,115,78,97,110],[114,101,97,108,84,101,120,116]]:List (List UInt8)))(x:At)(hx:gI x)(v:Value)(w:World)(a9:PV w w.heap.size pv ao)(hM:ai w M 59 #[v0,pv,v2,v3,v4,v5,v6,v7,v8])(dW:VL w M v [x]):Calls prog 17 #[.pointer (some ⟨M,0,none⟩), .int .i64 (j:Int),v] w (dj M v0 pv v2 v3 v4 v5 v6 v7 v8 (aC ⟨nm,con,ab,rs⟩ [x]) w):=by
 have hV:=dW.more (Zc hM.lt)
 have e:aC ⟨nm,con,ab,rs⟩ [x]=bH nm [x]:=by
  subst hc;simp only [zx,zD,Zo]at hn
  rcases hn with rfl|rfl|rfl|rfl|rfl|rfl<;>simp [aC]
 rw [e]
 by_cases hr:x.isReal=true
 ·cases x<;>first|(cases hr;done)|skip
  rename_i b;show Calls _ _ _ _ (dj M v0 pv v2 v3 v4 v5 v6 v7 v8 (kO nm b) w);exact da (Ju M v0 pv v2 v3 v4 v5 v6 v7 v8 j nm con ab rs hpt hc hn [.real b] (by simp) v _ w a9 hM hV (fun ty rv w1 hb=>AH _ nm con ab _ rv v b hx w1 (hV.below hb))) (ER _ _)
 ·have Ct:x.isReal=false:=by simpa using hr
  rw [show bH nm [x]= .no by simp [bH,Ct]]
  exact du (Jx M v0 pv v2 v3 v4 v5 v6 v7 v8 j nm con ab rs hpt hc hn [x] (by simp) v w a9 hM hV (fun ty rv w1 hb gq=>jy M v0 pv v2 v3 v4 v5 v6 v7 v8 nm con ab _ rv v x [] Ct w1 gq (hV.below hb)))
abbrev cM(M:Nat)(v0 pv v2 v3 v4 v5 v6 v7 v8:Value)(j:Nat)(nm:List UInt8)(con ab:Int)(rs:List Int)(x:At)(v:Value)(w:World):Prop:=Calls prog 17 #[.pointer (some ⟨M,0,none⟩), .int .i64 (j:Int),v] w (dj M v0 pv v2 v3 v4 v5 v6 v7 v8 (aC ⟨nm,con,ab,rs⟩ [x]) w)
abbrev cN(M:Nat)(v0 pv v2 v3 v4 v5 v6 v7 v8:Value)(w:World):Prop:=ai w M 59 #[v0,pv,v2,v3,v4,v5,v6,v7,v8]
theorem dY(M:Nat)(v0 pv v2 v3 v4 v5 v6 v7 v8:Value)(j:Nat)(nm:List UInt8)(con ab:Int)(rs:List Int)(hpt:ao[j]? =some ⟨nm,con,ab,rs⟩)(hc:con=(-1)):(∀(hn:nm=[114,101,97,108]) (x:At) (hx:gI x) (v:Value) (w:World) (a9:PV w w.heap.size pv ao) (hM:cN M v0 pv v2 v3 v4 v5 v6 v7 v8 w) (dW:VL w M v [x]),cM M v0 pv v2 v3 v4 v5 v6 v7 v8 j nm con ab rs x v w)∧(∀(hn:nm=[105,110,116,84,101,120,116]) (x:At) (hx:gI x) (v:Value) (w:World) (a9:PV w w.heap.size pv ao) (hM:cN M v0 pv v2 v3 v4 v5 v6 v7 v8 w) (dW:VL w M v [x]),cM M v0 pv v2 v3 v4 v5 v6 v7 v8 j nm con ab rs x v w)∧(∀(hn:nm=[111,114,100]) (x:At) (hx:gI x) (v:Value) (w:World) (a9:PV w w.heap.size pv ao) (hM:cN M v0 pv v2 v3 v4 v5 v6 v7 v8 w) (dW:VL w M v [x]),cM M v0 pv v2 v3 v4 v5 v6 v7 v8 j nm con ab rs x v w)∧(∀(hn:nm=[115,116,114]) (x:At) (hx:gI x) (v:Value) (w:World) (a9:PV w w.heap.size pv ao) (hM:cN M v0 pv v2 v3 v4 v5 v6 v7 v8 w) (dW:VL w M v [x]),cM M v0 pv v2 v3 v4 v5 v6 v7 v8 j nm con ab rs x v w)∧(∀(hn:nm=[99,104,114]) (x:At) (hx:gI x) (v:Value) (w:World) (a9:PV w w.heap.size pv ao) (hM:cN M v0 pv v2 v3 v4 v5 v6 v7 v8 w) (dW:VL w M v [x]),cM M v0 pv v2 v3 v4 v5 v6 v7 v8 j nm con ab rs x v w)∧(∀(hn:nm=[115,105,122,101]) (x:At) (hx:gI x) (v:Value) (w:World) (a9:PV w w.heap.size pv ao) (hM:cN M v0 pv v2 v3 v4 v5 v6 v7 v8 w) (dW:VL w M v [x]),cM M v0 pv v2 v3 v4 v5 v6 v7 v8 j nm con ab rs x v w):=by
 unfold cM cN;refine⟨?_,?_,?_,?_,?_,?_⟩
 all_goals intro hn x hx v w a9 hM dW
 have aj:=J (rfl:0=0)
 rotate_left;have aG:=J (rfl:0=0)
 rotate_left;have aP:=J (rfl:0=0)
 rotate_left;have bk:=J (rfl:0=0)
 rotate_left;have bz:=J (rfl:0=0)
 all_goals
  have hV:=dW.more (Zc hM.lt);have gW:nm∈([[114,101,97,108],[105,110,116,84,101,120,116],[111,114,100],[99,104,114],[115,105,122,101],[115,116,114],[115,117,98,115,116,114,105,110,103]]:List (List UInt8)):=by rw [hn];simp
  have HY:=fun(r:eo) h=>xA M v0 pv v2 v3 v4 v5 v6 v7 v8 j nm con ab rs hpt hc gW [x] (by simp) v r w a9 hM hV h
  have HN:=fun h=>xC M v0 pv v2 v3 v4 v5 v6 v7 v8 j nm con ab rs hpt hc gW [x] (by simp) v w a9 hM hV h
  subst hn;subst hc
  first
   |replace aj:=aj
    cases x with
    |int n=>rw [show aC ⟨_,(-1),ab,rs⟩ [.int n]= .real (aw (Bc n))by simp [aC,ft,bH,bB,bR,b0,b1,ShrM.b2,At.isInt,At.isStr,At.isReal,At.i,At.b,At.t]];exact da (HY _ (fun ty rv w1 hb=>EH _ (-1) ab _ rv v n hx w1 (hV.below hb))) rfl
    |real b=>rw [show aC ⟨_,(-1),ab,rs⟩ [.real b]= .no by simp [aC,ft,bH,bB,bR,b0,b1,ShrM.b2,At.isInt,At.isStr,At.isReal,At.i,At.b,At.t]];exact du (HN (fun ty rv w1 hb gq=>qS M v0 pv v2 v3 v4 v5 v6 v7 v8 (-1) ab _ rv v (.real b) rfl w1 gq (hV.below hb)))
    |str s=>rw [show aC ⟨_,(-1),ab,rs⟩ [.str s]= .no by simp [aC,ft,bH,bB,bR,b0,b1,ShrM.b2,At.isInt,At.isStr,At.isReal,At.i,At.b,At.t]];exact du (HN (fun ty rv w1 hb gq=>qS M v0 pv v2 v3 v4 v5 v6 v7 v8 (-1) ab _ rv v (.str s) rfl w1 gq (hV.below hb)))
   |replace aG:=aG
    cases x with
    |int n=>rw [show aC ⟨_,(-1),ab,rs⟩ [.int n]= .str (qq n)by simp [aC,ft,bH,bB,bR,b0,b1,ShrM.b2,At.isInt,At.isStr,At.isReal,At.i,At.b,At.t]];exact da (HY _ (fun ty rv w1 hb=>xz _ (-1) ab _ rv v n hx w1 (hV.below hb))) rfl
    |real b=>rw [show aC ⟨_,(-1),ab,rs⟩ [.real b]= .no by simp [aC,ft,bH,bB,bR,b0,b1,ShrM.b2,At.isInt,At.isStr,At.isReal,At.i,At.b,At.t]];exact du (HN (fun ty rv w1 hb gq=>mS M v0 pv v2 v3 v4 v5 v6 v7 v8 (-1) ab _ rv v (.real b) rfl w1 gq (hV.below hb)))
    |str s=>rw [show aC ⟨_,(-1),ab,rs⟩ [.str s]= .no by simp [aC,ft,bH,bB,bR,b0,b1,ShrM.b2,At.isInt,At.isStr,At.isReal,At.i,At.b,At.t]];exact du (HN (fun ty rv w1 hb gq=>mS M v0 pv v2 v3 v4 v5 v6 v7 v8 (-1) ab _ rv v (.str s) rfl w1 gq (hV.below hb)))
   |replace aP:=aP
    cases x with
    |int n=>
     cases hcb:fT (.int n)with
     |true=>rw [show aC ⟨_,(-1),ab,rs⟩ [.int n]= .int n by have h1:0≤n∧n≤255:=(by have h:=hcb;simp [fT,At.isInt,At.i]at h;exact⟨Zq h.1,Zq h.2⟩);simp [aC,bB,b0,At.isInt,At.i,h1.1,h1.2]];exact da (HY _ (fun ty rv w1 hb=>Jp _ (-1) ab _ rv v n hcb w1 (hV.below hb))) rfl
     |false=>rw [show aC ⟨_,(-1),ab,rs⟩ [.int n]= .no by have h1:0≤n→255<n:=(fun h=>by have k:=hcb;simp [fT,At.isInt,At.i]at k;have:=of_decide_eq_false (k (zc h));omega);simp [aC,bB,b0,At.isInt,At.isStr,At.i];exact h1];exact du (HN (fun ty rv w1 hb gq=>nM M v0 pv v2 v3 v4 v5 v6 v7 v8 (-1) ab _ rv v (.int n) hcb w1 gq (hV.below hb)))
    |real b=>rw [show aC ⟨_,(-1),ab,rs⟩ [.real b]= .no by simp [aC,ft,bH,bB,bR,b0,b1,ShrM.b2,At.isInt,At.isStr,At.isReal,At.i,At.b,At.t]];exact du (HN (fun ty rv w1 hb gq=>nM M v0 pv v2 v3 v4 v5 v6 v7 v8 (-1) ab _ rv v (.real b) rfl w1 gq (hV.below hb)))
    |str s=>rw [show aC ⟨_,(-1),ab,rs⟩ [.str s]= .no by simp [aC,ft,bH,bB,bR,b0,b1,ShrM.b2,At.isInt,At.isStr,At.isReal,At.i,At.b,At.t]];exact du (HN (fun ty rv w1 hb gq=>nM M v0 pv v2 v3 v4 v5 v6 v7 v8 (-1) ab _ rv v (.str s) rfl w1 gq (hV.below hb)))
   |replace bk:=bk
    cases x with
    |int n=>
     cases hcb:fT (.int n)with
     |true=>rw [show aC ⟨_,(-1),ab,rs⟩ [.int n]= .str [UInt8.ofNat n.toNat]by have h1:0≤n∧n≤255:=(by have h:=hcb;simp [fT,At.isInt,At.i]at h;exact⟨Zq h.1,Zq h.2⟩);simp [aC,bB,b0,At.isInt,At.i,h1.1,h1.2]];exact da (HY _ (fun ty rv w1 hb=>Jq _ (-1) ab _ rv v n hcb w1 (hV.below hb))) rfl
     |false=>rw [show aC ⟨_,(-1),ab,rs⟩ [.int n]= .no by have h1:0≤n→255<n:=(fun h=>by have k:=hcb;simp [fT,At.isInt,At.i]at k;have:=of_decide_eq_false (k (zc h));omega);simp [aC,bB,b0,At.isInt,At.isStr,At.i];exact h1];exact du (HN (fun ty rv w1 hb gq=>nN M v0 pv v2 v3 v4 v5 v6 v7 v8 (-1) ab _ rv v (.int n) hcb w1 gq (hV.below hb)))
    |real b=>rw [show aC ⟨_,(-1),ab,rs⟩ [.real b]= .no by simp [aC,ft,bH,bB,bR,b0,b1,ShrM.b2,At.isInt,At.isStr,At.isReal,At.i,At.b,At.t]];exact du (HN (fun ty rv w1 hb gq=>nN M v0 pv v2 v3 v4 v5 v6 v7 v8 (-1) ab _ rv v (.real b) rfl w1 gq (hV.below hb)))
    |str s=>rw [show aC ⟨_,(-1),ab,rs⟩ [.str s]= .no by simp [aC,ft,bH,bB,bR,b0,b1,ShrM.b2,At.isInt,At.isStr,At.isReal,At.i,At.b,At.t]];exact du (HN (fun ty rv w1 hb gq=>nN M v0 pv v2 v3 v4 v5 v6 v7 v8 (-1) ab _ rv v (.str s) rfl w1 gq (hV.below hb)))
   |replace bz:=bz
    cases x with
    |int n=>
     cases hcb:fT (.int n)with
     |true=>rw [show aC ⟨_,(-1),ab,rs⟩ [.int n]= .int n by have h1:0≤n∧n≤255:=(by have h:=hcb;simp [fT,At.isInt,At.i]at h;exact⟨Zq h.1,Zq h.2⟩);simp [aC,bB,b0,At.isInt,At.i,h1.1,h1.2]];exact da (HY _ (fun ty rv w1 hb=>Jo _ (-1) ab _ rv v n hcb w1 (hV.below hb))) rfl
     |false=>rw [show aC ⟨_,(-1),ab,rs⟩ [.int n]= .raise 2 by have h1:0≤n→255<n:=(fun h=>by have k:=hcb;simp [fT,At.isInt,At.i]at k;have:=of_decide_eq_false (k (zc h));omega);simp [aC,bB,b0,At.isInt,At.i];exact h1];exact da (HY _ (fun ty rv w1 hb=>BY _ (-1) ab _ rv v n hcb w1 (hV.below hb))) rfl
    |real b=>rw [show aC ⟨_,(-1),ab,rs⟩ [.real b]= .no by simp [aC,ft,bH,bB,bR,b0,b1,ShrM.b2,At.isInt,At.isStr,At.isReal,At.i,At.b,At.t]];exact du (HN (fun ty rv w1 hb gq=>sR M v0 pv v2 v3 v4 v5 v6 v7 v8 (-1) ab _ rv v (.real b) rfl w1 gq (hV.below hb)))
    |str s=>rw [show aC ⟨_,(-1),ab,rs⟩ [.str s]= .no by simp [aC,ft,bH,bB,bR,b0,b1,ShrM.b2,At.isInt,At.isStr,At.isReal,At.i,At.b,At.t]];exact du (HN (fun ty rv w1 hb gq=>sR M v0 pv v2 v3 v4 v5 v6 v7 v8 (-1) ab _ rv v (.str s) rfl w1 gq (hV.below hb)))
   |cases x with
    |str s=>rw [show aC ⟨_,(-1),ab,rs⟩ [.str s]= .int (s.length:Int)by simp [aC,ft,bH,bB,bR,b0,b1,ShrM.b2,At.isInt,At.isStr,At.isReal,At.i,At.b,At.t]];exact da (HY _ (fun ty rv w1 hb=>EJ _ (-1) ab _ rv v s hx w1 (hV.below hb))) rfl
    |real b=>rw [show aC ⟨_,(-1),ab,rs⟩ [.real b]= .no by simp [aC,ft,bH,bB,bR,b0,b1,ShrM.b2,At.isInt,At.isStr,At.isReal,At.i,At.b,At.t]];exact du (HN (fun ty rv w1 hb gq=>qT M v0 pv v2 v3 v4 v5 v6 v7 v8 (-1) ab _ rv v (.real b) rfl w1 gq (hV.below hb)))
    |int n=>rw [show aC ⟨_,(-1),ab,rs⟩ [.int n]= .no by simp [aC,ft,bH,bB,bR,b0,b1,ShrM.b2,At.isInt,At.isStr,At.isReal,At.i,At.b,At.t]];exact du (HN (fun ty rv w1 hb gq=>qT M v0 pv v2 v3 v4 v5 v6 v7 v8 (-1) ab _ rv v (.int n) rfl w1 gq (hV.below hb)))
def EU a b c d e f g h i j k l m n o p q:=(dY a b c d e f g h i j k l m n o p q).1
def Jz a b c d e f g h i j k l m n o p q:=(dY a b c d e f g h i j k l m n o p q).2.1
def UG a b c d e f g h i j k l m n o p q:=(dY a b c d e f g h i j k l m n o p q).2.2.1
def UH a b c d e f g h i j k l m n o p q:=(dY a b c d e f g h i j k l m n o p q).2.2.2.1
def UI a b c d e f g h i j k l m n o p q:=(dY a b c d e f g h i j k l m n o p q).2.2.2.2.1
def PP a b c d e f g h i j k l m n o p q:=(dY a b c d e f g h i j k l m n o p q).2.2.2.2.2
theorem UJ(M:Nat)(v0 pv v2 v3 v4 v5 v6 v7 v8:Value)(j:Nat)(nm:List UInt8)(con ab:Int)(rs:List Int)(hpt:ao[j]? =some ⟨nm,con,ab,rs⟩)(hc:con=(-1))(hn:nm=[115,117,98,115,116,114,105,110,103])(x y z:At)(hx:gI x)(hy:gI y)(hz:gI z)(v:Value)(w:World)(a9:PV w w.heap.size pv ao)(hM:ai w M 59 #[v0,pv,v2,v3,v4,v5,v6,v7,v8])(dW:VL w M v [x,y,z]):Calls prog 17 #[.pointer (some ⟨M,0,none⟩), .int .i64 (j:Int),v] w (dj M v0 pv v2 v3 v4 v5 v6 v7 v8 (aC ⟨nm,con,ab,rs⟩ [x,y,z]) w):=by
 have hV:=dW.more (Zc hM.lt);have HY:=fun(r:eo) h=>xA M v0 pv v2 v3 v4 v5 v6 v7 v8 j nm con ab rs hpt hc (by rw [hn];simp) [x,y,z] (by simp) v r w a9 hM hV h
 have HN:=fun h=>xC M v0 pv v2 v3 v4 v5 v6 v7 v8 j nm con ab rs hpt hc (by rw [hn];simp) [x,y,z] (by simp) v w a9 hM hV h
 subst hn;subst hc
 by_cases hj:aQ [x,y,z] [3,1,1]=true
 ·cases x<;>cases y<;>cases z<;>first|(cases hj;done)|skip
  rename_i a b c;rw [show aC ⟨_,(-1),ab,rs⟩ [.str a, .int b, .int c]=GL a b c by simp [aC,ft,bH,bB,bR,b0,b1,ShrM.b2,At.isInt,At.isStr,At.isReal,At.i,At.b,At.t]]
  unfold GL
  by_cases h:0≤b∧0≤c∧b≤(a.length:Int)∧c≤(a.length:Int)-b
  ·rw [zh h];exact da (HY _ (fun ty rv w1 hb=>Jt _ (-1) ab _ rv v a b c hx hy hz h w1 (hV.below hb))) rfl
  ·rw [ze h];exact da (HY _ (fun ty rv w1 hb=>B3 _ (-1) ab _ rv v a b c hx hy hz h w1 (hV.below hb))) rfl
 ·have hj':aQ [x,y,z] [3,1,1]=false:=by simpa using hj
  rw [show aC ⟨_,(-1),ab,rs⟩ [x,y,z]= .no by cases x<;>cases y<;>cases z<;>first|(exfalso;exact hj rfl)|simp [aC,ft,bH,bB,bR,b0,b1,ShrM.b2,At.isInt,At.isStr,At.isReal,At.i,At.b,At.t]]
  exact du (HN (fun ty rv w1 hb gq=>B7 M v0 pv v2 v3 v4 v5 v6 v7 v8 (-1) ab _ rv v x y z hj' w1 gq (hV.below hb)))
abbrev fU(M:Nat)(v0 pv v2 v3 v4 v5 v6 v7 v8:Value)(j:Nat)(nm:List UInt8)(con ab:Int)(rs:List Int)(x y:At)(v:Value)(w:World):Prop:=Calls prog 17 #[.pointer (some ⟨M,0,none⟩), .int .i64 (j:Int),v] w (dj M v0 pv v2 v3 v4 v5 v6 v7 v8 (aC ⟨nm,con,ab,rs⟩ [x,y]) w)
theorem j7(M:Nat)(v0 pv v2 v3 v4 v5 v6 v7 v8:Value)(j:Nat)(nm:List UInt8)(con ab:Int)(rs:List Int)(hpt:ao[j]? =some ⟨nm,con,ab,rs⟩)(hc:con=(-1)):(∀(hn:nm=[94]) (x y:At) (hx:gI x) (hy:gI y) (v:Value) (w:World) (a9:PV w w.heap.size pv ao) (hM:ai w M 59 #[v0,pv,v2,v3,v4,v5,v6,v7,v8]) (dW:VL w M v [x,y]),fU M v0 pv v2 v3 v4 v5 v6 v7 v8 j nm con ab rs x y v w)∧(∀(hn:nm=[115,117,98]) (x y:At) (hx:gI x) (hy:gI y) (v:Value) (w:World) (a9:PV w w.heap.size pv ao) (hM:ai w M 59 #[v0,pv,v2,v3,v4,v5,v6,v7,v8]) (dW:VL w M v [x,y]),fU M v0 pv v2 v3 v4 v5 v6 v7 v8 j nm con ab rs x y v w)∧(∀(hn:nm=[61]) (x y:At) (v:Value) (w:World) (a9:PV w w.heap.size pv ao) (hM:ai w M 59 #[v0,pv,v2,v3,v4,v5,v6,v7,v8]) (dW:VL w M v [x,y]),fU M v0 pv v2 v3 v4 v5 v6 v7 v8 j nm con ab rs x y v w)∧(∀(hn:nm=[60,62]) (x y:At) (v:Value) (w:World) (a9:PV w w.heap.size pv ao) (hM:ai w M 59 #[v0,pv,v2,v3,v4,v5,v6,v7,v8]) (dW:VL w M v [x,y]),fU M v0 pv v2 v3 v4 v5 v6 v7 v8 j nm con ab rs x y v w):=by
 unfold fU;refine⟨?_,?_,?_,?_⟩;intro hn x y hx hy v w a9 hM dW;have aj:=J (rfl:0=0)
 rotate_left;intro hn x y hx hy v w a9 hM dW;have aG:=J (rfl:0=0)
 rotate_left;intro hn x y v w a9 hM dW;have aP:=J (rfl:0=0)
 rotate_left;intro hn x y v w a9 hM dW;have bk:=J (rfl:0=0)
 all_goals
  have hV:=dW.more (Zc hM.lt)
  first
   |replace aP:=aP
    have HB:=fun hk q h=>YF M v0 pv v2 v3 v4 v5 v6 v7 v8 j nm con ab rs hpt hc (by rw [hn];simp) x y hk v q w a9 hM hV h
    have HD:=fun hk q h=>YG M v0 pv v2 v3 v4 v5 v6 v7 v8 j nm con ab rs hpt hc (by rw [hn];simp) x y hk v q w a9 hM hV h
    have HN:=fun hk h=>YH M v0 pv v2 v3 v4 v5 v6 v7 v8 j nm con ab rs hpt hc (by rw [hn];simp) x y hk v w a9 hM dW h
   |replace bk:=bk
    have HB:=fun hk q h=>YI M v0 pv v2 v3 v4 v5 v6 v7 v8 j nm con ab rs hpt hc (by rw [hn];simp) x y hk v q w a9 hM hV h
    have HD:=fun hk q h=>YJ M v0 pv v2 v3 v4 v5 v6 v7 v8 j nm con ab rs hpt hc (by rw [hn];simp) x y hk v q w a9 hM hV h
    have HN:=fun hk h=>YK M v0 pv v2 v3 v4 v5 v6 v7 v8 j nm con ab rs hpt hc (by rw [hn];simp) x y hk v w a9 hM dW h
   |have HY:=fun(r:eo) hk h=>Jw M v0 pv v2 v3 v4 v5 v6 v7 v8 j nm con ab rs hpt hc (by rw [hn];simp) [x,y] rfl hk v r w a9 hM hV h
    have HN:=fun hk h=>Jy M v0 pv v2 v3 v4 v5 v6 v7 v8 j nm con ab rs hpt hc (by rw [hn];simp) [x,y] rfl hk v w a9 hM hV h
    have H2:=fun hk h=>Li M v0 pv v2 v3 v4 v5 v6 v7 v8 j nm con ab rs hpt hc (by rw [hn];simp) [x,y] rfl hk v w a9 hM hV h
  subst hn;subst hc
  first
   |(first|replace aj:=aj|replace aG:=aG)
    by_cases hi:aQ [x,y] [1,1]=true
    ·rw [show aC ⟨_,(-1),ab,rs⟩ [x,y]= .no by cases x<;>cases y<;>first|(cases hi;done)|simp [aC,ft,bH,bB,bR,b0,b1,ShrM.b2,At.isInt,At.isStr,At.isReal,At.i,At.b,At.t]]
     exact du (H2 hi (fun ty rv w1 hb gq=>Le M v0 pv v2 v3 v4 v5 v6 v7 v8 _ (by simp) (-1) ab (by decide) _ rv [x,y] v w1 gq (hV.below hb)))
    have hk:aQ [x,y] [1,1]=false:=by simpa using hi
    first
     |replace aj:=aj
      by_cases hj:aQ [x,y] [3,3]=true
     |by_cases hj:aQ [x,y] [3,1]=true
   |by_cases hi:(x.isInt&&y.isInt)=true
    ·cases x<;>cases y<;>first|(cases hi;done)|skip
     rename_i a b
     first
      |replace aP:=aP
       rw [show aC ⟨_,(-1),ab,rs⟩ [.int a, .int b]=aE (decide (a=b))by simp [aC,ft,bH,bB,bR,b0,b1,ShrM.b2,At.isInt,At.isStr,At.isReal,At.i,At.b,At.t];try (by_cases h:a=b<;>first|(simp [h];done)|(have h':(a==b)=false:=zf.2 h;simp [h,h']))]
      |rw [show aC ⟨_,(-1),ab,rs⟩ [.int a, .int b]=aE (!(decide (a=b)))by simp [aC,ft,bH,bB,bR,b0,b1,ShrM.b2,At.isInt,At.isStr,At.isReal,At.i,At.b,At.t];try (by_cases h:a=b<;>first|(simp [h];done)|(have h':(a==b)=false:=zf.2 h;simp [h,h']))]
     exact da (HD rfl _ (fun w1 hb=>Px _ a b w1)) rfl
    have hk:aQ [x,y] [1,1]=false:=by cases x<;>cases y<;>first|rfl|(exfalso;exact hi rfl)
    by_cases hj:(x.isStr&&y.isStr)=true
  ·cases x<;>cases y<;>first|(cases hj;done)|skip
   rename_i a b
   first
    |replace aj:=aj
     rw [show aC ⟨_,(-1),ab,rs⟩ [.str a, .str b]=GJ a b by simp [aC,ft,bH,bB,bR,b0,b1,ShrM.b2,At.isInt,At.isStr,At.isReal,At.i,At.b,At.t]]
     unfold GJ
     by_cases h:a.length+b.length≤65536
     ·rw [zh h];exact da (HY _ hk (fun ty rv w1 hb=>Jr _ (-1) ab _ rv v a b hx hy h w1 (hV.below hb))) rfl
     ·rw [ze h];exact da (HY _ hk (fun ty rv w1 hb=>BZ _ (-1) ab _ rv v a b hx hy h w1 (hV.below hb))) rfl
    |replace aG:=aG
     rw [show aC ⟨_,(-1),ab,rs⟩ [.str a, .int b]=GK a b by simp [aC,ft,bH,bB,bR,b0,b1,ShrM.b2,At.isInt,At.isStr,At.isReal,At.i,At.b,At.t]]
     unfold GK
     by_cases h:0≤b∧b<(a.length:Int)
     ·rw [zh h];exact da (HY _ hk (fun ty rv w1 hb=>Js _ (-1) ab _ rv v a b hx h w1 (hV.below hb))) rfl
     ·rw [ze h];exact da (HY _ hk (fun ty rv w1 hb=>B2 _ (-1) ab _ rv v a b hx h w1 (hV.below hb))) rfl
    |replace aP:=aP
     rw [show aC ⟨_,(-1),ab,rs⟩ [.str a, .str b]=aE (decide (a=b))by simp [aC,ft,bH,bB,bR,b0,b1,ShrM.b2,At.isInt,At.isStr,At.isReal,At.i,At.b,At.t];try (by_cases h:a=b<;>first|(simp [h];done)|(have h':(a==b)=false:=zf.2 h;simp [h,h']))]
     exact da (HB hk _ (fun w1 hb=>AC _ a b w1)) rfl
    |rw [show aC ⟨_,(-1),ab,rs⟩ [.str a, .str b]=aE (!(decide (a=b)))by simp [aC,ft,bH,bB,bR,b0,b1,ShrM.b2,At.isInt,At.isStr,At.isReal,At.i,At.b,At.t];try (by_cases h:a=b<;>first|(simp [h];done)|(have h':(a==b)=false:=zf.2 h;simp [h,h']))]
     exact da (HB hk _ (fun w1 hb=>AC _ a b w1)) rfl
  first
   |replace aj:=aj
    ·have hj':aQ [x,y] [3,3]=false:=by simpa using hj
     rw [show aC ⟨_,(-1),ab,rs⟩ [x,y]= .no by cases x<;>cases y<;>first|(exfalso;exact hj rfl)|(exfalso;exact hi rfl)|simp [aC,ft,bH,bB,bR,b0,b1,ShrM.b2,At.isInt,At.isStr,At.isReal,At.i,At.b,At.t]]
     exact du (HN hk (fun ty rv w1 hb gq=>B4 M v0 pv v2 v3 v4 v5 v6 v7 v8 (-1) ab _ rv v x y hj' w1 gq (hV.below hb)))
   |replace aG:=aG
    ·have hj':aQ [x,y] [3,1]=false:=by simpa using hj
     rw [show aC ⟨_,(-1),ab,rs⟩ [x,y]= .no by cases x<;>cases y<;>first|(exfalso;exact hj rfl)|(exfalso;exact hi rfl)|simp [aC,ft,bH,bB,bR,b0,b1,ShrM.b2,At.isInt,At.isStr,At.isReal,At.i,At.b,At.t]]
     exact du (HN hk (fun ty rv w1 hb gq=>B6 M v0 pv v2 v3 v4 v5 v6 v7 v8 (-1) ab _ rv v x y hj' w1 gq (hV.below hb)))
   |rw [show aC ⟨_,(-1),ab,rs⟩ [x,y]= .no by cases x<;>cases y<;>first|(exfalso;exact hj rfl)|(exfalso;exact hi rfl)|simp [aC,ft,bH,bB,bR,b0,b1,ShrM.b2,At.isInt,At.isStr,At.isReal,At.i,At.b,At.t]]
    exact adp (HN hk (fun w1 hb gq=>UF M v0 pv v2 v3 v4 v5 v6 v7 v8 x y (by simpa using hi) (by simpa using hj) w1 gq))
def UK a b c d e f g h i j k l m n o p q:=(j7 a b c d e f g h i j k l m n o p q).1
def UL a b c d e f g h i j k l m n o p q:=(j7 a b c d e f g h i j k l m n o p q).2.1
def YM a b c d e f g h i j k l m n o p q:=(j7 a b c d e f g h i j k l m n o p q).2.2.1
def YN a b c d e f g h i j k l m n o p q:=(j7 a b c d e f g h i j k l m n o p q).2.2.2
end Go.Proofs.YtcpmiplofbfmfaaGreatDoor
