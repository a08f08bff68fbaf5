/- Shrink: the reference's primitives: of one int, of reals, of -/
import Derived.Test.YtcpmiplofbfmfaaGreatDoorA41
set_option linter.all false
set_option maxRecDepth 100000
set_option maxHeartbeats 16000000
namespace Go.Proofs.YtcpmiplofbfmfaaGreatDoor
open Go.Proofs.Tryz
open Go.Lib renaming hid→J
open Go.RowKit LamM CpsM FloM ShrM
abbrev jm(M:Nat)(v0 pv v2 v3 v4 v5 v6 v7 v8:Value)(nm:List UInt8)(con ab:Int)(v:Value)(w:World):Prop:= ∀ty rv w1,Below w.heap.size w w1→ai w1 M 59 #[v0,pv,v2,v3,v4,v5,v6,v7,v8]→Calls prog 60 #[.pointer (some ⟨M,0,none⟩), .agg #[.string ⟨nm.toArray⟩, .int .i64 con, .int .i64 ab, .string ty,rv],v] w1 (fun e w'=>e= .returned (.tuple #[aY .no, .int .i64 0])∧ai w' M 59 #[v0,pv,v2,v3,v4,v5,v6,v7, .int .i64 5]∧ap [M] w1 w')
abbrev mh(M:Nat)(v0 pv v2 v3 v4 v5 v6 v7 v8:Value)(nm:List UInt8)(con ab:Int)(v:Value)(w:World):Prop:= ∀ty rv w1,Below w.heap.size w w1→ai w1 M 59 #[v0,pv,v2,v3,v4,v5,v6,v7,v8]→Calls prog 59 #[.pointer (some ⟨M,0,none⟩), .agg #[.string ⟨nm.toArray⟩, .int .i64 con, .int .i64 ab, .string ty,rv],v] w1 (fun e w'=>e= .returned (.tuple #[aY .no, .int .i64 0])∧ai w' M 59 #[v0,pv,v2,v3,v4,v5,v6,v7, .int .i64 5]∧ap [M] w1 w')
abbrev fm(M:Nat)(v0 pv v2 v3 v4 v5 v6 v7:Value)(j:Nat)(v:Value)(w:World):Prop:=Calls prog 17 #[.pointer (some ⟨M,0,none⟩), .int .i64 (j:Int),v] w (fun e w'=>e= .returned (.tuple #[aY .no, .int .i64 0])∧ai w' M 59 #[v0,pv,v2,v3,v4,v5,v6,v7, .int .i64 5]∧ap [M] w w')
abbrev mj(M:Nat)(nm:List UInt8)(con ab:Int)(v:Value)(r:eo)(w:World):Prop:= ∀ty rv w1,Below w.heap.size w w1→Calls prog 60 #[.pointer (some ⟨M,0,none⟩), .agg #[.string ⟨nm.toArray⟩, .int .i64 con, .int .i64 ab, .string ty,rv],v] w1 (aD r w1)
abbrev jn(M j:Nat)(v:Value)(r:eo)(w:World):Prop:=Calls prog 17 #[.pointer (some ⟨M,0,none⟩), .int .i64 (j:Int),v] w (aD r w)
abbrev cY(M:Nat)(v0 pv v2 v3 v4 v5 v6 v7 v8:Value)(w:World):Prop:=ai w M 59 #[v0,pv,v2,v3,v4,v5,v6,v7,v8]
theorem eT(M:Nat)(v0 pv v2 v3 v4 v5 v6 v7 v8:Value)(j:Nat)(nm:List UInt8)(con ab:Int)(rs:List Int)(hpt:ao[j]? =some ⟨nm,con,ab,rs⟩):(∀(hc:con=0) (L:List At) (hl:L.length≠2) (v:Value) (r:eo) (w:World) (a9:PV w w.heap.size pv ao) (hM:cY M v0 pv v2 v3 v4 v5 v6 v7 v8 w) (hV:VL w w.heap.size v L) (HS: ∀ty rv w1,Below w.heap.size w w1→Calls prog 59 #[.pointer (some ⟨M,0,none⟩), .agg #[.string ⟨nm.toArray⟩, .int .i64 con, .int .i64 ab, .string ty,rv],v] w1 (aD r w1)),jn M j v r w)∧(∀(hc:con=0) (L:List At) (hl:L.length≠2) (v:Value) (w:World) (a9:PV w w.heap.size pv ao) (hM:cY M v0 pv v2 v3 v4 v5 v6 v7 v8 w) (hV:VL w w.heap.size v L) (HS:mh M v0 pv v2 v3 v4 v5 v6 v7 v8 nm con ab v w),fm M v0 pv v2 v3 v4 v5 v6 v7 j v w)∧(∀(hc:con=0) (L:List At) (hl:L.length=2) (hk:aQ L [1,1]=false) (v:Value) (w:World) (a9:PV w w.heap.size pv ao) (hM:cY M v0 pv v2 v3 v4 v5 v6 v7 v8 w) (hV:VL w w.heap.size v L) (HS:mh M v0 pv v2 v3 v4 v5 v6 v7 v8 nm con ab v w),fm M v0 pv v2 v3 v4 v5 v6 v7 j v w)∧(∀(hc:con=1) (L:List At) (hl:L.length≠2) (v:Value) (r:eo) (w:World) (a9:PV w w.heap.size pv ao) (hM:cY M v0 pv v2 v3 v4 v5 v6 v7 v8 w) (hV:VL w w.heap.size v L) (HS:mj M nm con ab v r w),jn M j v r w)∧(∀(hc:con=1) (L:List At) (hl:L.length≠2) (v:Value) (w:World) (a9:PV w w.heap.size pv ao) (hM:cY M v0 pv v2 v3 v4 v5 v6 v7 v8 w) (hV:VL w w.heap.size v L) (HS:jm M v0 pv v2 v3 v4 v5 v6 v7 v8 nm con ab v w),fm M v0 pv v2 v3 v4 v5 v6 v7 j v w)∧(∀(hc:con=1) (L:List At) (hl:L.length=2) (hk:aQ L [1,1]=false) (v:Value) (r:eo) (w:World) (a9:PV w w.heap.size pv ao) (hM:cY M v0 pv v2 v3 v4 v5 v6 v7 v8 w) (hV:VL w w.heap.size v L) (HS:mj M nm con ab v r w),jn M j v r w)∧(∀(hc:con=1) (L:List At) (hl:L.length=2) (hk:aQ L [1,1]=false) (v:Value) (w:World) (a9:PV w w.heap.size pv ao) (hM:cY M v0 pv v2 v3 v4 v5 v6 v7 v8 w) (hV:VL w w.heap.size v L) (HS:jm M v0 pv v2 v3 v4 v5 v6 v7 v8 nm con ab v w),fm M v0 pv v2 v3 v4 v5 v6 v7 j v w)∧(∀(hc:con=1) (L:List At) (hl:L.length=2) (hk:aQ L [1,1]=true) (v:Value) (w:World) (a9:PV w w.heap.size pv ao) (hM:cY M v0 pv v2 v3 v4 v5 v6 v7 v8 w) (hV:VL w w.heap.size v L) (HS:jm M v0 pv v2 v3 v4 v5 v6 v7 v8 nm con ab v w),fm M v0 pv v2 v3 v4 v5 v6 v7 j v w):=by
 unfold jm mh fm mj jn cY;refine⟨?_,?_,?_,?_,?_,?_,?_,?_⟩;intro hc L hl v r w a9 hM hV HS;have aj:=J (rfl:0=0)
 rotate_left;intro hc L hl v w a9 hM hV HS;have aG:=J (rfl:0=0)
 rotate_left;intro hc L hl hk v w a9 hM hV HS;have aP:=J (rfl:0=0)
 rotate_left;intro hc L hl v r w a9 hM hV HS;have bk:=J (rfl:0=0)
 rotate_left;intro hc L hl v w a9 hM hV HS;have bz:=J (rfl:0=0)
 rotate_left;intro hc L hl hk v r w a9 hM hV HS;have cE:=J (rfl:0=0)
 rotate_left;intro hc L hl hk v w a9 hM hV HS;have dU:=J (rfl:0=0)
 rotate_left;intro hc L hl hk v w a9 hM hV HS;have gu:=J (rfl:0=0)
 all_goals
  obtain⟨A,c,rfl,lj,gW⟩:=hV.len;obtain⟨PA,qE,rfl,iJ,iK⟩:=a9.len;rw [aN]at *;obtain⟨ty,rv,iH,ol,tb,lT,kX,qe,qf⟩:=a9.at_ hpt;obtain⟨RA,lu,rfl,Ca,hr2⟩:=ol.len;dsimp only at tb lT kX qe qf HS;subst hc;have hj:j<61:=by have:=(zq.1 hpt).1;rw [aN]at this;exact this
  have JJ:(j:Int)<61:=by omega
  have Fw:(0:Int)≤(j:Int):=by omega
  have pH:=(zg w.heap.size w).alloc (za _) (.cells aL 49);have m1:(w.alloc (.cells aL 49)).cell? ⟨M,1,none⟩=some (.slice (some PA) 61 qE):=(hM.alloc _).cell 1;replace tb:=(pH.cell (p:=PA.add (j*5)) (by rw [ak];exact iH)).trans tb
  replace lT:=bc (j:=0) ((pH.cell (p:=PA.add (j*5+1)) (by rw [ak];exact iH)).trans lT)
  replace kX:=bc (j:=1) ((pH.cell (p:=PA.add (j*5+2)) (by rw [ak];exact iH)).trans kX)
  replace qe:=bc (j:=2) ((pH.cell (p:=PA.add (j*5+3)) (by rw [ak];exact iH)).trans qe)
  replace qf:=bc (j:=3) ((pH.cell (p:=PA.add (j*5+4)) (by rw [ak];exact iH)).trans qf)
  first
   |(first|replace aj:=aj|replace aG:=aG|replace aP:=aP)
    obtain⟨W,hW⟩: ∃W,(w.alloc (.cells aL 49)).alloc (.cells #[.string ⟨nm.toArray⟩, .int .i64 0, .int .i64 ab, .string ty, .slice RA rs.length lu] 36)=W:=⟨_,rfl⟩
   |obtain⟨W,hW⟩: ∃W,(w.alloc (.cells aL 49)).alloc (.cells #[.string ⟨nm.toArray⟩, .int .i64 1, .int .i64 ab, .string ty, .slice RA rs.length lu] 36)=W:=⟨_,rfl⟩
  have bi:=J (show Below w.heap.size w W by rw [←hW];exact aA _ _ _)
  have HZ:=J (show ai W w.heap.size 49 aL by rw [←hW];exact(ai.new _ _ _).alloc _)
  first
   |(first|replace aj:=aj|replace aG:=aG|replace aP:=aP)
    have HP:=J (show ai W (w.heap.size+1) 36 #[.string ⟨nm.toArray⟩, .int .i64 0, .int .i64 ab, .string ty, .slice RA rs.length lu]by rw [←hW];exact am (by simp) _ _)
   |have HP:=J (show ai W (w.heap.size+1) 36 #[.string ⟨nm.toArray⟩, .int .i64 1, .int .i64 ab, .string ty, .slice RA rs.length lu]by rw [←hW];exact am (by simp) _ _)
  have p0:=HP.out.c0;have p1:=HP.out.c1;have p2:=HP.out.c2;have p3:=HP.out.c3;have p4:=HP.out.c4;have ux:=J (hM.below bi.out hM.lt);have bw:=hM.lt;have fa:w.heap.size≠M:=by omega
  have iM:M≠w.heap.size:=by omega
  first
   |(first|replace aj:=aj|replace aG:=aG|replace bk:=bk|replace bz:=bz)
    have l0:((L.length:Int)==2)=false:=ag (by omega)
    have l1:(L.length==2)=false:=zf.2 hl;have H1:=J bi.out;have jo:=J HZ.out;have qg:=J ux.out;obtain⟨w1,dz⟩: ∃w1,W=w1:=⟨_,rfl⟩;subst dz
   |have HK:=J (bG L [1,1] _ w (W.alloc (.cells #[.int .i64 1, .int .i64 1] 3)) W.heap.size 2 3 #[.int .i64 1, .int .i64 1] hV (by rw [hl];exact za _) (by decide) (bi.out.alloc bi.out.size _) (ai.new W _ _) rfl rfl (by decide))
    rw [hk,hl]at HK;have vu:=J (bi.out.alloc bi.out.size (.cells #[.int .i64 1, .int .i64 1] 3));have Cv:=J (HZ.out.alloc (.cells #[.int .i64 1, .int .i64 1] 3));have xY:=J (HP.out.alloc (.cells #[.int .i64 1, .int .i64 1] 3));have Cu:=J (ux.out.alloc (.cells #[.int .i64 1, .int .i64 1] 3));rw [hl]at HS;rw [hl]
  have oq:=J (fun w1 (hb:Below w.heap.size w w1)=>HS ty (.slice RA rs.length lu) w1 hb)
  first
   |(first|replace aj:=aj|replace aG:=aG|replace bk:=bk|replace bz:=bz)
    clear HS a9 hM hV ol hpt lj gW iJ iK Ca hr2 iH hl
   |clear HS a9 hM hV ol hpt lj gW iJ iK Ca hr2 iH hl hk
  go_enter func17,ntmps17;go_wp2_with ((first|replace aj:=aj;(first|(go_at_call 59;(with_reducible refine(oq.out _ H1.out).mono ?_);rintro e w5 ⟨rfl,hb⟩;have HB:=J (H1.out.trans (hb.mono H1.out.size));have BX:=J (jo.out.below hb jo.out.lt);obtain⟨c0,c1,c2,c3,c4,c5,c6⟩:=ae BX.out;obtain⟨f0,f1,f2,f3,f4,f5,f6⟩:=ar BX.out;clear hb))|replace aG:=aG;(first|(go_at_call 59;(with_reducible refine(oq.out _ H1.out qg.out).mono ?_);rintro e w3 ⟨rfl,gR,dd⟩;have pF:=J gR;have lR:=J dd;have gf:=J (jo.out.only dd (by simp [fa]));obtain⟨c0,c1,c2,c3,c4,c5,c6⟩:=ae gf.out;obtain⟨f0,f1,f2,f3,f4,f5,f6⟩:=ar gf.out;clear gR dd))|replace aP:=aP;(first|(go_at_call 57;(with_reducible refine(HK.out).mono ?_);rintro e w1 ⟨rfl,dn,dz⟩;have H1:=J (show Below w.heap.size w w1 by rw [dz];exact below_drewN vu.out dn);have jo:=J (show ai w1 w.heap.size 49 aL by rw [dz];exact Cv.out.drewN dn);have dr:=xY.out.drewN dn;rw [←dz]at dr;have dV:=J dr;clear dr;have qg:=J (show ai w1 M 59 #[v0, .slice (some PA) 61 qE,v2,v3,v4,v5,v6,v7,v8]by rw [dz];exact Cu.out.drewN dn);have u0:=dV.out.cell 0;have u1:=dV.out.cell 1;have u2:=dV.out.cell 2;have u3:=dV.out.cell 3;have u4:=dV.out.cell 4;simp at u0 u1 u2 u3 u4;clear dz)|(go_at_call 59;(with_reducible refine(oq.out _ H1.out qg.out).mono ?_);rintro e w3 ⟨rfl,gR,dd⟩;have pF:=J gR;have lR:=J dd;have gf:=J (jo.out.only dd (by simp [fa]));obtain⟨c0,c1,c2,c3,c4,c5,c6⟩:=ae gf.out;obtain⟨f0,f1,f2,f3,f4,f5,f6⟩:=ar gf.out;clear gR dd))|replace bk:=bk;(first|(go_at_call 60;(with_reducible refine(oq.out _ H1.out).mono ?_);rintro e w5 ⟨rfl,hb⟩;have HB:=J (H1.out.trans (hb.mono H1.out.size));have BX:=J (jo.out.below hb jo.out.lt);obtain⟨c0,c1,c2,c3,c4,c5,c6⟩:=ae BX.out;obtain⟨f0,f1,f2,f3,f4,f5,f6⟩:=ar BX.out;clear hb))|replace bz:=bz;(first|(go_at_call 60;(with_reducible refine(oq.out _ H1.out qg.out).mono ?_);rintro e w3 ⟨rfl,gR,dd⟩;have pF:=J gR;have lR:=J dd;have gf:=J (jo.out.only dd (by simp [fa]));obtain⟨c0,c1,c2,c3,c4,c5,c6⟩:=ae gf.out;obtain⟨f0,f1,f2,f3,f4,f5,f6⟩:=ar gf.out;clear gR dd))|replace cE:=cE;(first|(go_at_call 57;(with_reducible refine(HK.out).mono ?_);rintro e w1 ⟨rfl,dn,dz⟩;have H1:=J (show Below w.heap.size w w1 by rw [dz];exact below_drewN vu.out dn);have jo:=J (show ai w1 w.heap.size 49 aL by rw [dz];exact Cv.out.drewN dn);have dr:=xY.out.drewN dn;rw [←dz]at dr;have dV:=J dr;clear dr;have qg:=J (show ai w1 M 59 #[v0, .slice (some PA) 61 qE,v2,v3,v4,v5,v6,v7,v8]by rw [dz];exact Cu.out.drewN dn);have u0:=dV.out.cell 0;have u1:=dV.out.cell 1;have u2:=dV.out.cell 2;have u3:=dV.out.cell 3;have u4:=dV.out.cell 4;simp at u0 u1 u2 u3 u4;clear dz)|(go_at_call 60;(with_reducible refine(oq.out _ H1.out).mono ?_);rintro e w5 ⟨rfl,hb⟩;have HB:=J (H1.out.trans (hb.mono H1.out.size));have BX:=J (jo.out.below hb jo.out.lt);obtain⟨c0,c1,c2,c3,c4,c5,c6⟩:=ae BX.out;obtain⟨f0,f1,f2,f3,f4,f5,f6⟩:=ar BX.out;clear hb))|(first|replace dU:=dU|replace gu:=gu);(first|(go_at_call 57;(with_reducible refine(HK.out).mono ?_);rintro e w1 ⟨rfl,dn,dz⟩;have H1:=J (show Below w.heap.size w w1 by rw [dz];exact below_drewN vu.out dn);have jo:=J (show ai w1 w.heap.size 49 aL by rw [dz];exact Cv.out.drewN dn);have dr:=xY.out.drewN dn;rw [←dz]at dr;have dV:=J dr;clear dr;have qg:=J (show ai w1 M 59 #[v0, .slice (some PA) 61 qE,v2,v3,v4,v5,v6,v7,v8]by rw [dz];exact Cu.out.drewN dn);have u0:=dV.out.cell 0;have u1:=dV.out.cell 1;have u2:=dV.out.cell 2;have u3:=dV.out.cell 3;have u4:=dV.out.cell 4;simp at u0 u1 u2 u3 u4;clear dz)|(go_at_call 60;(with_reducible refine(oq.out _ H1.out qg.out).mono ?_);rintro e w3 ⟨rfl,gR,dd⟩;have pF:=J gR;have lR:=J dd;have gf:=J (jo.out.only dd (by simp [fa]));obtain⟨c0,c1,c2,c3,c4,c5,c6⟩:=ae gf.out;obtain⟨f0,f1,f2,f3,f4,f5,f6⟩:=ar gf.out;clear gR dd))))
  first
   |(first|replace aj:=aj|replace bk:=bk|replace cE:=cE)
    obtain⟨z0,z1,z2,z3,z4,z5,z6⟩:=ae (aF (r:=r) BX.out);unfold aR at z0 z1 z2 z3 z4 z5 z6;refine zi (v:= .tuple #[aY r, .int .i64 (rc r)]) (by simp [results,results17,go_sem,z0,z1,z2,z3,z4,z5,z6]) rfl ⟨rfl,az (r:=r) HB.out (za _)⟩
   |obtain⟨z0,z1,z2,z3,z4,z5,z6⟩:=ae (aF (r:= .no) gf.out)
    have iL:=J (pF.out.only (w':=aR w3 w.heap.size .no) (bs:=[w.heap.size]) (by unfold aR;exact(((((((ap.refl [w.heap.size] w3).one).one).one).one).one).one).one) (by simp [iM]))
    have hI:=J (show ap [M] w (aR w3 w.heap.size .no)by unfold aR;exact(((((((((ap.of_below (bs:=[M]) H1.out).trans lR.out).setCell (p:=⟨w.heap.size,0,none⟩) (.inr (za _)) _).setCell (p:=⟨w.heap.size,1,none⟩) (.inr (za _)) _).setCell (p:=⟨w.heap.size,2,none⟩) (.inr (za _)) _).setCell (p:=⟨w.heap.size,3,none⟩) (.inr (za _)) _).setCell (p:=⟨w.heap.size,4,none⟩) (.inr (za _)) _).setCell (p:=⟨w.heap.size,5,none⟩) (.inr (za _)) _).setCell (p:=⟨w.heap.size,6,none⟩) (.inr (za _)) _))
    unfold aR at z0 z1 z2 z3 z4 z5 z6 iL hI;simp only [eP,ri,rb,rt]at z0 z1 z2 z3 z4 z5 z6 iL hI;refine zi (v:= .tuple #[aY .no, .int .i64 0]) (by simp [results,results17,go_sem,eP,ri,rb,rt,z0,z1,z2,z3,z4,z5,z6]) rfl ⟨rfl,iL.out,hI.out⟩
def Lg a b c d e f g h i j k l m n o p:=(eT a b c d e f g h i j k l m n o p).1
def Lh a b c d e f g h i j k l m n o p:=(eT a b c d e f g h i j k l m n o p).2.1
def YC a b c d e f g h i j k l m n o p:=(eT a b c d e f g h i j k l m n o p).2.2.1
def PJ a b c d e f g h i j k l m n o p:=(eT a b c d e f g h i j k l m n o p).2.2.2.1
def PK a b c d e f g h i j k l m n o p:=(eT a b c d e f g h i j k l m n o p).2.2.2.2.1
def PL a b c d e f g h i j k l m n o p:=(eT a b c d e f g h i j k l m n o p).2.2.2.2.2.1
def AG a b c d e f g h i j k l m n o p:=(eT a b c d e f g h i j k l m n o p).2.2.2.2.2.2.1
def PM a b c d e f g h i j k l m n o p:=(eT a b c d e f g h i j k l m n o p).2.2.2.2.2.2.2
set_option maxHeartbeats 10000000
abbrev fA(M:Nat)(v0 pv v2 v3 v4 v5 v6 v7 v8:Value)(nm:List UInt8)(con ab:Int)(v:Value)(w:World):Prop:= ∀ty rv w1,Below w.heap.size w w1→ai w1 M 59 #[v0,pv,v2,v3,v4,v5,v6,v7,v8]→Calls prog 61 #[.pointer (some ⟨M,0,none⟩), .agg #[.string ⟨nm.toArray⟩, .int .i64 con, .int .i64 ab, .string ty,rv],v] w1 (fun e w'=>e= .returned (.tuple #[aY .no, .int .i64 0])∧ai w' M 59 #[v0,pv,v2,v3,v4,v5,v6,v7, .int .i64 5]∧ap [M] w1 w')
abbrev fB(M:Nat)(v0 pv v2 v3 v4 v5 v6 v7:Value)(j:Nat)(v:Value)(w:World):Prop:=Calls prog 17 #[.pointer (some ⟨M,0,none⟩), .int .i64 (j:Int),v] w (fun e w'=>e= .returned (.tuple #[aY .no, .int .i64 0])∧ai w' M 59 #[v0,pv,v2,v3,v4,v5,v6,v7, .int .i64 5]∧ap [M] w w')
abbrev iB(M:Nat)(nm:List UInt8)(con ab:Int)(v:Value)(r:eo)(w:World):Prop:= ∀ty rv w1,Below w.heap.size w w1→Calls prog 61 #[.pointer (some ⟨M,0,none⟩), .agg #[.string ⟨nm.toArray⟩, .int .i64 con, .int .i64 ab, .string ty,rv],v] w1 (aD r w1)
abbrev iC(M j:Nat)(v:Value)(r:eo)(w:World):Prop:=Calls prog 17 #[.pointer (some ⟨M,0,none⟩), .int .i64 (j:Int),v] w (aD r w)
abbrev di(M:Nat)(v0 pv v2 v3 v4 v5 v6 v7 v8:Value)(w:World):Prop:=ai w M 59 #[v0,pv,v2,v3,v4,v5,v6,v7,v8]
theorem fh(M:Nat)(v0 pv v2 v3 v4 v5 v6 v7 v8:Value)(j:Nat)(nm:List UInt8)(con ab:Int)(rs:List Int)(hpt:ao[j]? =some ⟨nm,con,ab,rs⟩):(∀(hc:con=2) (L:List At) (hl:L.length=2) (hk:aQ L [1,1]=false) (v:Value) (w:World) (a9:PV w w.heap.size pv ao) (hM:di M v0 pv v2 v3 v4 v5 v6 v7 v8 w) (hV:VL w w.heap.size v L) (HS:fA M v0 pv v2 v3 v4 v5 v6 v7 v8 nm con ab v w),fB M v0 pv v2 v3 v4 v5 v6 v7 j v w)∧(∀(hc:con=2) (L:List At) (hl:L.length=2) (hk:aQ L [1,1]=true) (v:Value) (r:eo) (w:World) (a9:PV w w.heap.size pv ao) (hM:di M v0 pv v2 v3 v4 v5 v6 v7 v8 w) (hV:VL w w.heap.size v L) (HS:iB M nm con ab v r w),iC M j v r w)∧(∀(hc:con=3) (L:List At) (hl:L.length=2) (hk:aQ L [1,1]=false) (v:Value) (r:eo) (w:World) (a9:PV w w.heap.size pv ao) (hM:di M v0 pv v2 v3 v4 v5 v6 v7 v8 w) (hV:VL w w.heap.size v L) (HS:iB M nm con ab v r w),iC M j v r w)∧(∀(hc:con=3) (L:List At) (hl:L.length=2) (hk:aQ L [1,1]=false) (v:Value) (w:World) (a9:PV w w.heap.size pv ao) (hM:di M v0 pv v2 v3 v4 v5 v6 v7 v8 w) (hV:VL w w.heap.size v L) (HS:fA M v0 pv v2 v3 v4 v5 v6 v7 v8 nm con ab v w),fB M v0 pv v2 v3 v4 v5 v6 v7 j v w)∧(∀(hc:con=3) (L:List At) (hl:L.length=2) (hk:aQ L [1,1]=true) (v:Value) (w:World) (a9:PV w w.heap.size pv ao) (hM:di M v0 pv v2 v3 v4 v5 v6 v7 v8 w) (hV:VL w w.heap.size v L) (HS:fA M v0 pv v2 v3 v4 v5 v6 v7 v8 nm con ab v w),fB M v0 pv v2 v3 v4 v5 v6 v7 j v w):=by
 unfold fA fB iB iC di;refine⟨?_,?_,?_,?_,?_⟩;intro hc L hl hk v w a9 hM hV HS;have aj:=J (rfl:0=0)
 rotate_left;intro hc L hl hk v r w a9 hM hV HS;have aG:=J (rfl:0=0)
 rotate_left;intro hc L hl hk v r w a9 hM hV HS;have aP:=J (rfl:0=0)
 rotate_left;intro hc L hl hk v w a9 hM hV HS;have bk:=J (rfl:0=0)
 rotate_left;intro hc L hl hk v w a9 hM hV HS;have bz:=J (rfl:0=0)
 all_goals
  obtain⟨A,c,rfl,lj,gW⟩:=hV.len;obtain⟨PA,qE,rfl,iJ,iK⟩:=a9.len;rw [aN]at *;obtain⟨ty,rv,iH,ol,tb,lT,kX,qe,qf⟩:=a9.at_ hpt;obtain⟨RA,lu,rfl,Ca,hr2⟩:=ol.len;dsimp only at tb lT kX qe qf HS;subst hc;have hj:j<61:=by have:=(zq.1 hpt).1;rw [aN]at this;exact this
  have JJ:(j:Int)<61:=by omega
  have Fw:(0:Int)≤(j:Int):=by omega
  have pH:=(zg w.heap.size w).alloc (za _) (.cells aL 49);have m1:(w.alloc (.cells aL 49)).cell? ⟨M,1,none⟩=some (.slice (some PA) 61 qE):=(hM.alloc _).cell 1;replace tb:=(pH.cell (p:=PA.add (j*5)) (by rw [ak];exact iH)).trans tb
  replace lT:=bc (j:=0) ((pH.cell (p:=PA.add (j*5+1)) (by rw [ak];exact iH)).trans lT)
  replace kX:=bc (j:=1) ((pH.cell (p:=PA.add (j*5+2)) (by rw [ak];exact iH)).trans kX)
  replace qe:=bc (j:=2) ((pH.cell (p:=PA.add (j*5+3)) (by rw [ak];exact iH)).trans qe)
  replace qf:=bc (j:=3) ((pH.cell (p:=PA.add (j*5+4)) (by rw [ak];exact iH)).trans qf)
  first
   |(first|replace aj:=aj|replace aG:=aG)
    obtain⟨W,hW⟩: ∃W,(w.alloc (.cells aL 49)).alloc (.cells #[.string ⟨nm.toArray⟩, .int .i64 2, .int .i64 ab, .string ty, .slice RA rs.length lu] 36)=W:=⟨_,rfl⟩
   |obtain⟨W,hW⟩: ∃W,(w.alloc (.cells aL 49)).alloc (.cells #[.string ⟨nm.toArray⟩, .int .i64 3, .int .i64 ab, .string ty, .slice RA rs.length lu] 36)=W:=⟨_,rfl⟩
  have bi:=J (show Below w.heap.size w W by rw [←hW];exact aA _ _ _)
  have HZ:=J (show ai W w.heap.size 49 aL by rw [←hW];exact(ai.new _ _ _).alloc _)
  first
   |(first|replace aj:=aj|replace aG:=aG)
    have HP:=J (show ai W (w.heap.size+1) 36 #[.string ⟨nm.toArray⟩, .int .i64 2, .int .i64 ab, .string ty, .slice RA rs.length lu]by rw [←hW];exact am (by simp) _ _)
   |have HP:=J (show ai W (w.heap.size+1) 36 #[.string ⟨nm.toArray⟩, .int .i64 3, .int .i64 ab, .string ty, .slice RA rs.length lu]by rw [←hW];exact am (by simp) _ _)
  have p0:=HP.out.c0;have p1:=HP.out.c1;have p2:=HP.out.c2;have p3:=HP.out.c3;have p4:=HP.out.c4;have ux:=J (hM.below bi.out hM.lt);have bw:=hM.lt;have fa:w.heap.size≠M:=by omega
  have iM:M≠w.heap.size:=by omega
  have HK:=J (bG L [1,1] _ w (W.alloc (.cells #[.int .i64 1, .int .i64 1] 3)) W.heap.size 2 3 #[.int .i64 1, .int .i64 1] hV (by rw [hl];exact za _) (by decide) (bi.out.alloc bi.out.size _) (ai.new W _ _) rfl rfl (by decide))
  rw [hk,hl]at HK;have vu:=J (bi.out.alloc bi.out.size (.cells #[.int .i64 1, .int .i64 1] 3));have Cv:=J (HZ.out.alloc (.cells #[.int .i64 1, .int .i64 1] 3));have xY:=J (HP.out.alloc (.cells #[.int .i64 1, .int .i64 1] 3));have Cu:=J (ux.out.alloc (.cells #[.int .i64 1, .int .i64 1] 3));rw [hl]at HS;rw [hl];have oq:=J (fun w1 (hb:Below w.heap.size w w1)=>HS ty (.slice RA rs.length lu) w1 hb)
  clear HS a9 hM hV ol hpt lj gW iJ iK Ca hr2 iH hl hk;go_enter func17,ntmps17;go_wp2_with (first|(go_at_call 57;(with_reducible refine(HK.out).mono ?_);rintro e w1 ⟨rfl,dn,dz⟩;have H1:=J (show Below w.heap.size w w1 by rw [dz];exact below_drewN vu.out dn);have jo:=J (show ai w1 w.heap.size 49 aL by rw [dz];exact Cv.out.drewN dn);have dr:=xY.out.drewN dn;rw [←dz]at dr;have dV:=J dr;clear dr;have qg:=J (show ai w1 M 59 #[v0, .slice (some PA) 61 qE,v2,v3,v4,v5,v6,v7,v8]by rw [dz];exact Cu.out.drewN dn);have u0:=dV.out.cell 0;have u1:=dV.out.cell 1;have u2:=dV.out.cell 2;have u3:=dV.out.cell 3;have u4:=dV.out.cell 4;simp at u0 u1 u2 u3 u4;clear dz)|(go_at_call 61;(first|(first|replace aG:=aG|replace aP:=aP);((with_reducible refine(oq.out _ H1.out).mono ?_);rintro e w5 ⟨rfl,hb⟩;have HB:=J (H1.out.trans (hb.mono H1.out.size));have BX:=J (jo.out.below hb jo.out.lt);obtain⟨c0,c1,c2,c3,c4,c5,c6⟩:=ae BX.out;obtain⟨f0,f1,f2,f3,f4,f5,f6⟩:=ar BX.out;clear hb)|(first|replace aj:=aj|replace bk:=bk|replace bz:=bz);(with_reducible refine(oq.out _ H1.out qg.out).mono ?_);rintro e w3 ⟨rfl,gR,dd⟩;have pF:=J gR;have lR:=J dd;have gf:=J (jo.out.only dd (by simp [fa]));obtain⟨c0,c1,c2,c3,c4,c5,c6⟩:=ae gf.out;obtain⟨f0,f1,f2,f3,f4,f5,f6⟩:=ar gf.out;clear gR dd)))
  first
   |(first|replace aG:=aG|replace aP:=aP)
    obtain⟨z0,z1,z2,z3,z4,z5,z6⟩:=ae (aF (r:=r) BX.out);unfold aR at z0 z1 z2 z3 z4 z5 z6;refine zi (v:= .tuple #[aY r, .int .i64 (rc r)]) (by simp [results,results17,go_sem,z0,z1,z2,z3,z4,z5,z6]) rfl ⟨rfl,az (r:=r) HB.out (za _)⟩
   |obtain⟨z0,z1,z2,z3,z4,z5,z6⟩:=ae (aF (r:= .no) gf.out)
    have iL:=J (pF.out.only (w':=aR w3 w.heap.size .no) (bs:=[w.heap.size]) (by unfold aR;exact(((((((ap.refl [w.heap.size] w3).one).one).one).one).one).one).one) (by simp [iM]))
    have hI:=J (show ap [M] w (aR w3 w.heap.size .no)by unfold aR;exact(((((((((ap.of_below (bs:=[M]) H1.out).trans lR.out).setCell (p:=⟨w.heap.size,0,none⟩) (.inr (za _)) _).setCell (p:=⟨w.heap.size,1,none⟩) (.inr (za _)) _).setCell (p:=⟨w.heap.size,2,none⟩) (.inr (za _)) _).setCell (p:=⟨w.heap.size,3,none⟩) (.inr (za _)) _).setCell (p:=⟨w.heap.size,4,none⟩) (.inr (za _)) _).setCell (p:=⟨w.heap.size,5,none⟩) (.inr (za _)) _).setCell (p:=⟨w.heap.size,6,none⟩) (.inr (za _)) _))
    unfold aR at z0 z1 z2 z3 z4 z5 z6 iL hI;simp only [eP,ri,rb,rt]at z0 z1 z2 z3 z4 z5 z6 iL hI;refine zi (v:= .tuple #[aY .no, .int .i64 0]) (by simp [results,results17,go_sem,eP,ri,rb,rt,z0,z1,z2,z3,z4,z5,z6]) rfl ⟨rfl,iL.out,hI.out⟩
def EL a b c d e f g h i j k l m n o p:=(fh a b c d e f g h i j k l m n o p).1
def EM a b c d e f g h i j k l m n o p:=(fh a b c d e f g h i j k l m n o p).2.1
def EN a b c d e f g h i j k l m n o p:=(fh a b c d e f g h i j k l m n o p).2.2.1
def EO a b c d e f g h i j k l m n o p:=(fh a b c d e f g h i j k l m n o p).2.2.2.1
def EP a b c d e f g h i j k l m n o p:=(fh a b c d e f g h i j k l m n o p).2.2.2.2
set_option maxHeartbeats 16000000
abbrev i5(M:Nat)(v0 pv v2 v3 v4 v5 v6 v7 v8:Value)(nm:List UInt8)(con ab:Int)(v:Value)(w:World):Prop:= ∀ty rv w1,Below w.heap.size w w1→ai w1 M 59 #[v0,pv,v2,v3,v4,v5,v6,v7,v8]→Calls prog 64 #[.pointer (some ⟨M,0,none⟩), .agg #[.string ⟨nm.toArray⟩, .int .i64 con, .int .i64 ab, .string ty,rv],v] w1 (fun e w'=>e= .returned (.tuple #[aY .no, .int .i64 0])∧ai w' M 59 #[v0,pv,v2,v3,v4,v5,v6,v7, .int .i64 5]∧ap [M] w1 w')
abbrev i6(M:Nat)(v0 pv v2 v3 v4 v5 v6 v7 v8:Value)(nm:List UInt8)(con ab:Int)(v:Value)(w:World):Prop:= ∀ty rv w1,Below w.heap.size w w1→ai w1 M 59 #[v0,pv,v2,v3,v4,v5,v6,v7,v8]→Calls prog 60 #[.pointer (some ⟨M,0,none⟩), .agg #[.string ⟨nm.toArray⟩, .int .i64 con, .int .i64 ab, .string ty,rv],v] w1 (fun e w'=>e= .returned (.tuple #[aY .no, .int .i64 0])∧ai w' M 59 #[v0,pv,v2,v3,v4,v5,v6,v7, .int .i64 5]∧ap [M] w1 w')
abbrev eJ(M:Nat)(v0 pv v2 v3 v4 v5 v6 v7:Value)(j:Nat)(v:Value)(w:World):Prop:=Calls prog 17 #[.pointer (some ⟨M,0,none⟩), .int .i64 (j:Int),v] w (fun e w'=>e= .returned (.tuple #[aY .no, .int .i64 0])∧ai w' M 59 #[v0,pv,v2,v3,v4,v5,v6,v7, .int .i64 5]∧ap [M] w w')
abbrev i7(M:Nat)(nm:List UInt8)(con ab:Int)(v:Value)(r:eo)(w:World):Prop:= ∀ty rv w1,Below w.heap.size w w1→Calls prog 64 #[.pointer (some ⟨M,0,none⟩), .agg #[.string ⟨nm.toArray⟩, .int .i64 con, .int .i64 ab, .string ty,rv],v] w1 (aD r w1)
abbrev i8(M:Nat)(nm:List UInt8)(con ab:Int)(v:Value)(r:eo)(w:World):Prop:= ∀ty rv w1,Below w.heap.size w w1→Calls prog 60 #[.pointer (some ⟨M,0,none⟩), .agg #[.string ⟨nm.toArray⟩, .int .i64 con, .int .i64 ab, .string ty,rv],v] w1 (aD r w1)
abbrev i9(nm:List UInt8):Prop:=nm∈([[114,101,97,108],[105,110,116,84,101,120,116],[111,114,100],[99,104,114],[115,105,122,101],[115,116,114],[115,117,98,115,116,114,105,110,103]]:List (List UInt8))
abbrev i_(nm:List UInt8):Prop:=nm∈([[102,108,111,111,114],[99,101,105,108],[116,114,117,110,99],[114,111,117,110,100],[105,115,78,97,110],[114,101,97,108,84,101,120,116]]:List (List UInt8))
abbrev eK(M j:Nat)(v:Value)(r:eo)(w:World):Prop:=Calls prog 17 #[.pointer (some ⟨M,0,none⟩), .int .i64 (j:Int),v] w (aD r w)
abbrev cd(M:Nat)(v0 pv v2 v3 v4 v5 v6 v7 v8:Value)(w:World):Prop:=ai w M 59 #[v0,pv,v2,v3,v4,v5,v6,v7,v8]
theorem c_(M:Nat)(v0 pv v2 v3 v4 v5 v6 v7 v8:Value)(j:Nat)(nm:List UInt8)(con ab:Int)(rs:List Int)(hpt:ao[j]? =some ⟨nm,con,ab,rs⟩)(hc:con=(-1)):(∀(hn:i_ nm) (L:List At) (hl:L.length≠2) (v:Value) (r:eo) (w:World) (a9:PV w w.heap.size pv ao) (hM:cd M v0 pv v2 v3 v4 v5 v6 v7 v8 w) (hV:VL w w.heap.size v L) (HS:i8 M nm con ab v r w),eK M j v r w)∧(∀(hn:nm∈([[47],[115,97,109,101]]:List (List UInt8))) (L:List At) (hl:L.length=2) (hk:aQ L [1,1]=false) (v:Value) (r:eo) (w:World) (a9:PV w w.heap.size pv ao) (hM:cd M v0 pv v2 v3 v4 v5 v6 v7 v8 w) (hV:VL w w.heap.size v L) (HS:i8 M nm con ab v r w),eK M j v r w)∧(∀(hn:i9 nm) (L:List At) (hl:L.length≠2) (v:Value) (r:eo) (w:World) (a9:PV w w.heap.size pv ao) (hM:cd M v0 pv v2 v3 v4 v5 v6 v7 v8 w) (hV:VL w w.heap.size v L) (HS:i7 M nm con ab v r w),eK M j v r w)∧(∀(hn:nm∈([[94],[115,117,98]]:List (List UInt8))) (L:List At) (hl:L.length=2) (hk:aQ L [1,1]=false) (v:Value) (r:eo) (w:World) (a9:PV w w.heap.size pv ao) (hM:cd M v0 pv v2 v3 v4 v5 v6 v7 v8 w) (hV:VL w w.heap.size v L) (HS:i7 M nm con ab v r w),eK M j v r w)∧(∀(hn:i_ nm) (L:List At) (hl:L.length≠2) (v:Value) (w:World) (a9:PV w w.heap.size pv ao) (hM:cd M v0 pv v2 v3 v4 v5 v6 v7 v8 w) (hV:VL w w.heap.size v L) (HS:i6 M v0 pv v2 v3 v4 v5 v6 v7 v8 nm con ab v w),eJ M v0 pv v2 v3 v4 v5 v6 v7 j v w)∧(∀(hn:nm∈([[47],[115,97,109,101]]:List (List UInt8))) (L:List At) (hl:L.length=2) (hk:aQ L [1,1]=false) (v:Value) (w:World) (a9:PV w w.heap.size pv ao) (hM:cd M v0 pv v2 v3 v4 v5 v6 v7 v8 w) (hV:VL w w.heap.size v L) (HS:i6 M v0 pv v2 v3 v4 v5 v6 v7 v8 nm con ab v w),eJ M v0 pv v2 v3 v4 v5 v6 v7 j v w)∧(∀(hn:i9 nm) (L:List At) (hl:L.length≠2) (v:Value) (w:World) (a9:PV w w.heap.size pv ao) (hM:cd M v0 pv v2 v3 v4 v5 v6 v7 v8 w) (hV:VL w w.heap.size v L) (HS:i5 M v0 pv v2 v3 v4 v5 v6 v7 v8 nm con ab v w),eJ M v0 pv v2 v3 v4 v5 v6 v7 j v w)∧(∀(hn:nm∈([[94],[115,117,98]]:List (List UInt8))) (L:List At) (hl:L.length=2) (hk:aQ L [1,1]=false) (v:Value) (w:World) (a9:PV w w.heap.size pv ao) (hM:cd M v0 pv v2 v3 v4 v5 v6 v7 v8 w) (hV:VL w w.heap.size v L) (HS:i5 M v0 pv v2 v3 v4 v5 v6 v7 v8 nm con ab v w),eJ M v0 pv v2 v3 v4 v5 v6 v7 j v w):=by
 unfold i5 i6 eJ i7 i8 i9 i_ eK cd;refine⟨?_,?_,?_,?_,?_,?_,?_,?_⟩;intro hn L hl v r w a9 hM hV HS;have aj:=J (rfl:0=0)
 rotate_left;intro hn L hl hk v r w a9 hM hV HS;have aG:=J (rfl:0=0)
 rotate_left;intro hn L hl v r w a9 hM hV HS;have aP:=J (rfl:0=0)
 rotate_left;intro hn L hl hk v r w a9 hM hV HS;have bk:=J (rfl:0=0)
 rotate_left;intro hn L hl v w a9 hM hV HS;have bz:=J (rfl:0=0)
 rotate_left;intro hn L hl hk v w a9 hM hV HS;have cE:=J (rfl:0=0)
 rotate_left;intro hn L hl v w a9 hM hV HS;have dU:=J (rfl:0=0)
 rotate_left;intro hn L hl hk v w a9 hM hV HS;have gu:=J (rfl:0=0)
 all_goals
  obtain⟨A,c,rfl,lj,gW⟩:=hV.len;obtain⟨PA,qE,rfl,iJ,iK⟩:=a9.len;rw [aN]at *;obtain⟨ty,rv,iH,ol,tb,lT,kX,qe,qf⟩:=a9.at_ hpt;obtain⟨RA,lu,rfl,Ca,hr2⟩:=ol.len;dsimp only at tb lT kX qe qf HS;subst hc;have hj:j<61:=by have:=(zq.1 hpt).1;rw [aN]at this;exact this
  have JJ:(j:Int)<61:=by omega
  have Fw:(0:Int)≤(j:Int):=by omega
  have pH:=(zg w.heap.size w).alloc (za _) (.cells aL 49);have m1:(w.alloc (.cells aL 49)).cell? ⟨M,1,none⟩=some (.slice (some PA) 61 qE):=(hM.alloc _).cell 1;replace tb:=(pH.cell (p:=PA.add (j*5)) (by rw [ak];exact iH)).trans tb
  replace lT:=bc (j:=0) ((pH.cell (p:=PA.add (j*5+1)) (by rw [ak];exact iH)).trans lT)
  replace kX:=bc (j:=1) ((pH.cell (p:=PA.add (j*5+2)) (by rw [ak];exact iH)).trans kX)
  replace qe:=bc (j:=2) ((pH.cell (p:=PA.add (j*5+3)) (by rw [ak];exact iH)).trans qe)
  replace qf:=bc (j:=3) ((pH.cell (p:=PA.add (j*5+4)) (by rw [ak];exact iH)).trans qf)
  obtain⟨W,hW⟩: ∃W,(w.alloc (.cells aL 49)).alloc (.cells #[.string ⟨nm.toArray⟩, .int .i64 (-1), .int .i64 ab, .string ty, .slice RA rs.length lu] 36)=W:=⟨_,rfl⟩;have bi:=J (show Below w.heap.size w W by rw [←hW];exact aA _ _ _)
  have HZ:=J (show ai W w.heap.size 49 aL by rw [←hW];exact(ai.new _ _ _).alloc _)
  have HP:=J (show ai W (w.heap.size+1) 36 #[.string ⟨nm.toArray⟩, .int .i64 (-1), .int .i64 ab, .string ty, .slice RA rs.length lu]by rw [←hW];exact am (by simp) _ _)
  have p0:=HP.out.c0;have p1:=HP.out.c1;have p2:=HP.out.c2;have p3:=HP.out.c3;have p4:=HP.out.c4;have ux:=J (hM.below bi.out hM.lt);have bw:=hM.lt;have fa:w.heap.size≠M:=by omega
  have iM:M≠w.heap.size:=by omega
  first
   |(first|replace aj:=aj|replace aP:=aP|replace bz:=bz|replace dU:=dU)
    have l0:((L.length:Int)==2)=false:=ag (by omega)
    have l1:(L.length==2)=false:=zf.2 hl;have H1:=J bi.out;have jo:=J HZ.out;have qg:=J ux.out;obtain⟨w1,dz⟩: ∃w1,W=w1:=⟨_,rfl⟩;subst dz
   |have HK:=J (bG L [1,1] _ w (W.alloc (.cells #[.int .i64 1, .int .i64 1] 3)) W.heap.size 2 3 #[.int .i64 1, .int .i64 1] hV (by rw [hl];exact za _) (by decide) (bi.out.alloc bi.out.size _) (ai.new W _ _) rfl rfl (by decide))
    rw [hk,hl]at HK;have vu:=J (bi.out.alloc bi.out.size (.cells #[.int .i64 1, .int .i64 1] 3));have Cv:=J (HZ.out.alloc (.cells #[.int .i64 1, .int .i64 1] 3));have xY:=J (HP.out.alloc (.cells #[.int .i64 1, .int .i64 1] 3));have Cu:=J (ux.out.alloc (.cells #[.int .i64 1, .int .i64 1] 3));rw [hl]at HS;rw [hl]
  have oq:=J (fun w1 (hb:Below w.heap.size w w1)=>HS ty (.slice RA rs.length lu) w1 hb)
  first
   |(first|replace aj:=aj|replace aP:=aP|replace bz:=bz|replace dU:=dU)
    clear HS a9 hM hV ol hpt lj gW iJ iK Ca hr2 iH hl
   |clear HS a9 hM hV ol hpt lj gW iJ iK Ca hr2 iH hl hk
  simp only [zx,zD,Zo]at hn
  first
   |(first|replace aj:=aj|replace bz:=bz)
    (rcases hn with rfl|rfl|rfl|rfl|rfl|rfl)
   |(first|replace aP:=aP|replace dU:=dU)
    (rcases hn with rfl|rfl|rfl|rfl|rfl|rfl|rfl)
   |rcases hn with rfl|rfl
  all_goals
   go_enter func17,ntmps17;go_wp2_with ((first|replace aj:=aj;(first|(go_at_call 60;(with_reducible refine(oq.out _ H1.out).mono ?_);rintro e w5 ⟨rfl,hb⟩;have HB:=J (H1.out.trans (hb.mono H1.out.size));have BX:=J (jo.out.below hb jo.out.lt);obtain⟨c0,c1,c2,c3,c4,c5,c6⟩:=ae BX.out;obtain⟨f0,f1,f2,f3,f4,f5,f6⟩:=ar BX.out;clear hb))|replace aG:=aG;(first|(go_at_call 57;(with_reducible refine(HK.out).mono ?_);rintro e w1 ⟨rfl,dn,dz⟩;have H1:=J (show Below w.heap.size w w1 by rw [dz];exact below_drewN vu.out dn);have jo:=J (show ai w1 w.heap.size 49 aL by rw [dz];exact Cv.out.drewN dn);have dr:=xY.out.drewN dn;rw [←dz]at dr;have dV:=J dr;clear dr;have qg:=J (show ai w1 M 59 #[v0, .slice (some PA) 61 qE,v2,v3,v4,v5,v6,v7,v8]by rw [dz];exact Cu.out.drewN dn);have u0:=dV.out.cell 0;have u1:=dV.out.cell 1;have u2:=dV.out.cell 2;have u3:=dV.out.cell 3;have u4:=dV.out.cell 4;simp at u0 u1 u2 u3 u4;clear dz)|(go_at_call 60;(with_reducible refine(oq.out _ H1.out).mono ?_);rintro e w5 ⟨rfl,hb⟩;have HB:=J (H1.out.trans (hb.mono H1.out.size));have BX:=J (jo.out.below hb jo.out.lt);obtain⟨c0,c1,c2,c3,c4,c5,c6⟩:=ae BX.out;obtain⟨f0,f1,f2,f3,f4,f5,f6⟩:=ar BX.out;clear hb))|replace aP:=aP;(first|(go_at_call 64;(with_reducible refine(oq.out _ H1.out).mono ?_);rintro e w5 ⟨rfl,hb⟩;have HB:=J (H1.out.trans (hb.mono H1.out.size));have BX:=J (jo.out.below hb jo.out.lt);obtain⟨c0,c1,c2,c3,c4,c5,c6⟩:=ae BX.out;obtain⟨f0,f1,f2,f3,f4,f5,f6⟩:=ar BX.out;clear hb))|replace bk:=bk;(first|(go_at_call 57;(with_reducible refine(HK.out).mono ?_);rintro e w1 ⟨rfl,dn,dz⟩;have H1:=J (show Below w.heap.size w w1 by rw [dz];exact below_drewN vu.out dn);have jo:=J (show ai w1 w.heap.size 49 aL by rw [dz];exact Cv.out.drewN dn);have dr:=xY.out.drewN dn;rw [←dz]at dr;have dV:=J dr;clear dr;have qg:=J (show ai w1 M 59 #[v0, .slice (some PA) 61 qE,v2,v3,v4,v5,v6,v7,v8]by rw [dz];exact Cu.out.drewN dn);have u0:=dV.out.cell 0;have u1:=dV.out.cell 1;have u2:=dV.out.cell 2;have u3:=dV.out.cell 3;have u4:=dV.out.cell 4;simp at u0 u1 u2 u3 u4;clear dz)|(go_at_call 64;(with_reducible refine(oq.out _ H1.out).mono ?_);rintro e w5 ⟨rfl,hb⟩;have HB:=J (H1.out.trans (hb.mono H1.out.size));have BX:=J (jo.out.below hb jo.out.lt);obtain⟨c0,c1,c2,c3,c4,c5,c6⟩:=ae BX.out;obtain⟨f0,f1,f2,f3,f4,f5,f6⟩:=ar BX.out;clear hb))|replace bz:=bz;(first|(go_at_call 60;(with_reducible refine(oq.out _ H1.out qg.out).mono ?_);rintro e w3 ⟨rfl,gR,dd⟩;have pF:=J gR;have lR:=J dd;have gf:=J (jo.out.only dd (by simp [fa]));obtain⟨c0,c1,c2,c3,c4,c5,c6⟩:=ae gf.out;obtain⟨f0,f1,f2,f3,f4,f5,f6⟩:=ar gf.out;clear gR dd))|replace cE:=cE;(first|(go_at_call 57;(with_reducible refine(HK.out).mono ?_);rintro e w1 ⟨rfl,dn,dz⟩;have H1:=J (show Below w.heap.size w w1 by rw [dz];exact below_drewN vu.out dn);have jo:=J (show ai w1 w.heap.size 49 aL by rw [dz];exact Cv.out.drewN dn);have dr:=xY.out.drewN dn;rw [←dz]at dr;have dV:=J dr;clear dr;have qg:=J (show ai w1 M 59 #[v0, .slice (some PA) 61 qE,v2,v3,v4,v5,v6,v7,v8]by rw [dz];exact Cu.out.drewN dn);have u0:=dV.out.cell 0;have u1:=dV.out.cell 1;have u2:=dV.out.cell 2;have u3:=dV.out.cell 3;have u4:=dV.out.cell 4;simp at u0 u1 u2 u3 u4;clear dz)|(go_at_call 60;(with_reducible refine(oq.out _ H1.out qg.out).mono ?_);rintro e w3 ⟨rfl,gR,dd⟩;have pF:=J gR;have lR:=J dd;have gf:=J (jo.out.only dd (by simp [fa]));obtain⟨c0,c1,c2,c3,c4,c5,c6⟩:=ae gf.out;obtain⟨f0,f1,f2,f3,f4,f5,f6⟩:=ar gf.out;clear gR dd))|replace dU:=dU;(first|(go_at_call 64;(with_reducible refine(oq.out _ H1.out qg.out).mono ?_);rintro e w3 ⟨rfl,gR,dd⟩;have pF:=J gR;have lR:=J dd;have gf:=J (jo.out.only dd (by simp [fa]));obtain⟨c0,c1,c2,c3,c4,c5,c6⟩:=ae gf.out;obtain⟨f0,f1,f2,f3,f4,f5,f6⟩:=ar gf.out;clear gR dd))|replace gu:=gu;(first|(go_at_call 57;(with_reducible refine(HK.out).mono ?_);rintro e w1 ⟨rfl,dn,dz⟩;have H1:=J (show Below w.heap.size w w1 by rw [dz];exact below_drewN vu.out dn);have jo:=J (show ai w1 w.heap.size 49 aL by rw [dz];exact Cv.out.drewN dn);have dr:=xY.out.drewN dn;rw [←dz]at dr;have dV:=J dr;clear dr;have qg:=J (show ai w1 M 59 #[v0, .slice (some PA) 61 qE,v2,v3,v4,v5,v6,v7,v8]by rw [dz];exact Cu.out.drewN dn);have u0:=dV.out.cell 0;have u1:=dV.out.cell 1;have u2:=dV.out.cell 2;have u3:=dV.out.cell 3;have u4:=dV.out.cell 4;simp at u0 u1 u2 u3 u4;clear dz)|(go_at_call 64;(with_reducible refine(oq.out _ H1.out qg.out).mono ?_);rintro e w3 ⟨rfl,gR,dd⟩;have pF:=J gR;have lR:=J dd;have gf:=J (jo.out.only dd (by simp [fa]));obtain⟨c0,c1,c2,c3,c4,c5,c6⟩:=ae gf.out;obtain⟨f0,f1,f2,f3,f4,f5,f6⟩:=ar gf.out;clear gR dd))))
   first
    |(first|replace aj:=aj|replace aG:=aG|replace aP:=aP|replace bk:=bk)
     obtain⟨z0,z1,z2,z3,z4,z5,z6⟩:=ae (aF (r:=r) BX.out);unfold aR at z0 z1 z2 z3 z4 z5 z6;refine zi (v:= .tuple #[aY r, .int .i64 (rc r)]) (by simp [results,results17,go_sem,z0,z1,z2,z3,z4,z5,z6]) rfl ⟨rfl,az (r:=r) HB.out (za _)⟩
    |obtain⟨z0,z1,z2,z3,z4,z5,z6⟩:=ae (aF (r:= .no) gf.out)
     have iL:=J (pF.out.only (w':=aR w3 w.heap.size .no) (bs:=[w.heap.size]) (by unfold aR;exact(((((((ap.refl [w.heap.size] w3).one).one).one).one).one).one).one) (by simp [iM]))
     have hI:=J (show ap [M] w (aR w3 w.heap.size .no)by unfold aR;exact(((((((((ap.of_below (bs:=[M]) H1.out).trans lR.out).setCell (p:=⟨w.heap.size,0,none⟩) (.inr (za _)) _).setCell (p:=⟨w.heap.size,1,none⟩) (.inr (za _)) _).setCell (p:=⟨w.heap.size,2,none⟩) (.inr (za _)) _).setCell (p:=⟨w.heap.size,3,none⟩) (.inr (za _)) _).setCell (p:=⟨w.heap.size,4,none⟩) (.inr (za _)) _).setCell (p:=⟨w.heap.size,5,none⟩) (.inr (za _)) _).setCell (p:=⟨w.heap.size,6,none⟩) (.inr (za _)) _))
     unfold aR at z0 z1 z2 z3 z4 z5 z6 iL hI;simp only [eP,ri,rb,rt]at z0 z1 z2 z3 z4 z5 z6 iL hI;refine zi (v:= .tuple #[aY .no, .int .i64 0]) (by simp [results,results17,go_sem,eP,ri,rb,rt,z0,z1,z2,z3,z4,z5,z6]) rfl ⟨rfl,iL.out,hI.out⟩
def Ju a b c d e f g h i j k l m n o p q:=(c_ a b c d e f g h i j k l m n o p q).1
def Jv a b c d e f g h i j k l m n o p q:=(c_ a b c d e f g h i j k l m n o p q).2.1
def xA a b c d e f g h i j k l m n o p q:=(c_ a b c d e f g h i j k l m n o p q).2.2.1
def Jw a b c d e f g h i j k l m n o p q:=(c_ a b c d e f g h i j k l m n o p q).2.2.2.1
def Jx a b c d e f g h i j k l m n o p q:=(c_ a b c d e f g h i j k l m n o p q).2.2.2.2.1
def xB a b c d e f g h i j k l m n o p q:=(c_ a b c d e f g h i j k l m n o p q).2.2.2.2.2.1
def xC a b c d e f g h i j k l m n o p q:=(c_ a b c d e f g h i j k l m n o p q).2.2.2.2.2.2.1
def Jy a b c d e f g h i j k l m n o p q:=(c_ a b c d e f g h i j k l m n o p q).2.2.2.2.2.2.2
end Go.Proofs.YtcpmiplofbfmfaaGreatDoor
