/- Shrink: the reference's primitives: of two ints. -/
import Derived.Test.YtcpmiplofbfmfaaGreatDoorA42
set_option linter.all false
set_option maxRecDepth 100000
set_option maxHeartbeats 6000000
namespace Go.Proofs.YtcpmiplofbfmfaaGreatDoor
open Go.Proofs.Tryz
open Go.Lib renaming hid→J
open Go.RowKit LamM CpsM FloM ShrM
abbrev ml(M:Nat)(nm:List UInt8)(con ab:Int)(v:Value)(r:eo)(w:World):Prop:= ∀ty rv w1,Below w.heap.size w w1→Calls prog 58 #[.pointer (some ⟨M,0,none⟩), .agg #[.string ⟨nm.toArray⟩, .int .i64 con, .int .i64 ab, .string ty,rv],v] w1 (aD r w1)
abbrev mm(M j:Nat)(v:Value)(r:eo)(w:World):Prop:=Calls prog 17 #[.pointer (some ⟨M,0,none⟩), .int .i64 (j:Int),v] w (aD r w)
theorem pm(M:Nat)(v0 pv v2 v3 v4 v5 v6 v7 v8:Value)(j:Nat)(nm:List UInt8)(con ab:Int)(rs:List Int)(hpt:ao[j]? =some ⟨nm,con,ab,rs⟩):(∀(hc:con=0) (lj:nm≠[61]) (gW:nm≠[60,62]) (hn3:nm≠[97,114,114,97,121]) (L:List At) (hl:L.length=2) (hk:aQ L [1,1]=true) (v:Value) (r:eo) (w:World) (a9:PV w w.heap.size pv ao) (hM:ai w M 59 #[v0,pv,v2,v3,v4,v5,v6,v7,v8]) (hV:VL w w.heap.size v L) (HS:ml M nm con ab v r w),mm M j v r w)∧(∀(hc:con=(-1)) (hn:nm∈([[100,105,118],[109,111,100],[113,117,111,116],[114,101,109]]:List (List UInt8))) (L:List At) (hl:L.length=2) (hk:aQ L [1,1]=true) (v:Value) (r:eo) (w:World) (a9:PV w w.heap.size pv ao) (hM:ai w M 59 #[v0,pv,v2,v3,v4,v5,v6,v7,v8]) (hV:VL w w.heap.size v L) (HS:ml M nm con ab v r w),mm M j v r w)∧(∀(hc:con=(-1)) (hn:nm∈([[47],[115,97,109,101],[94],[115,117,98]]:List (List UInt8))) (L:List At) (hl:L.length=2) (hk:aQ L [1,1]=true) (v:Value) (w:World) (a9:PV w w.heap.size pv ao) (hM:ai w M 59 #[v0,pv,v2,v3,v4,v5,v6,v7,v8]) (hV:VL w w.heap.size v L) (HS: ∀ty rv w1,Below w.heap.size w w1→ai w1 M 59 #[v0,pv,v2,v3,v4,v5,v6,v7,v8]→Calls prog 58 #[.pointer (some ⟨M,0,none⟩), .agg #[.string ⟨nm.toArray⟩, .int .i64 con, .int .i64 ab, .string ty,rv],v] w1 (fun e w'=>e= .returned (.tuple #[aY .no, .int .i64 0])∧ai w' M 59 #[v0,pv,v2,v3,v4,v5,v6,v7, .int .i64 5]∧ap [M] w1 w')),Calls prog 17 #[.pointer (some ⟨M,0,none⟩), .int .i64 (j:Int),v] w (fun e w'=>e= .returned (.tuple #[aY .no, .int .i64 0])∧ai w' M 59 #[v0,pv,v2,v3,v4,v5,v6,v7, .int .i64 5]∧ap [M] w w')):=by
 unfold ml mm;refine⟨?_,?_,?_⟩;intro hc lj gW hn3 L hl hk v r w a9 hM hV HS;have aj:=J (rfl:0=0)
 rotate_left;intro hc hn L hl hk v r w a9 hM hV HS;have aG:=J (rfl:0=0)
 rotate_left;intro hc hn L hl hk v w a9 hM hV HS
 all_goals
  first
   |replace aj:=aj
    obtain⟨A,c,rfl,_,_⟩:=hV.len
   |obtain⟨A,c,rfl,lj,gW⟩:=hV.len
  obtain⟨PA,qE,rfl,iJ,iK⟩:=a9.len;rw [aN]at *;obtain⟨ty,rv,iH,ol,tb,lT,kX,qe,qf⟩:=a9.at_ hpt;obtain⟨RA,lu,rfl,Ca,hr2⟩:=ol.len;dsimp only at tb lT kX qe qf HS;subst hc;have hj:j<61:=by have:=(zq.1 hpt).1;rw [aN]at this;exact this
  have JJ:(j:Int)<61:=by omega
  have Fw:(0:Int)≤(j:Int):=by omega
  have pH:=(zg w.heap.size w).alloc (za _) (.cells aL 49);have m1:(w.alloc (.cells aL 49)).cell? ⟨M,1,none⟩=some (.slice (some PA) 61 qE):=(hM.alloc _).cell 1;replace tb:=(pH.cell (p:=PA.add (j*5)) (by rw [ak];exact iH)).trans tb
  replace lT:=bc (j:=0) ((pH.cell (p:=PA.add (j*5+1)) (by rw [ak];exact iH)).trans lT)
  replace kX:=bc (j:=1) ((pH.cell (p:=PA.add (j*5+2)) (by rw [ak];exact iH)).trans kX)
  replace qe:=bc (j:=2) ((pH.cell (p:=PA.add (j*5+3)) (by rw [ak];exact iH)).trans qe)
  replace qf:=bc (j:=3) ((pH.cell (p:=PA.add (j*5+4)) (by rw [ak];exact iH)).trans qf)
  first
   |replace aj:=aj
    obtain⟨W,hW⟩: ∃W,(w.alloc (.cells aL 49)).alloc (.cells #[.string ⟨nm.toArray⟩, .int .i64 0, .int .i64 ab, .string ty, .slice RA rs.length lu] 36)=W:=⟨_,rfl⟩
   |obtain⟨W,hW⟩: ∃W,(w.alloc (.cells aL 49)).alloc (.cells #[.string ⟨nm.toArray⟩, .int .i64 (-1), .int .i64 ab, .string ty, .slice RA rs.length lu] 36)=W:=⟨_,rfl⟩
  have bi:=J (show Below w.heap.size w W by rw [←hW];exact aA _ _ _)
  have HZ:=J (show ai W w.heap.size 49 aL by rw [←hW];exact(ai.new _ _ _).alloc _)
  first
   |replace aj:=aj
    have HP:=J (show ai W (w.heap.size+1) 36 #[.string ⟨nm.toArray⟩, .int .i64 0, .int .i64 ab, .string ty, .slice RA rs.length lu]by rw [←hW];exact am (by simp) _ _)
   |have HP:=J (show ai W (w.heap.size+1) 36 #[.string ⟨nm.toArray⟩, .int .i64 (-1), .int .i64 ab, .string ty, .slice RA rs.length lu]by rw [←hW];exact am (by simp) _ _)
  have p0:=HP.out.c0;have p1:=HP.out.c1;have p2:=HP.out.c2;have p3:=HP.out.c3;have p4:=HP.out.c4;have ux:=J (hM.below bi.out hM.lt);have bw:=hM.lt;have fa:w.heap.size≠M:=by omega
  have iM:M≠w.heap.size:=by omega
  have HK:=J (bG L [1,1] _ w (W.alloc (.cells #[.int .i64 1, .int .i64 1] 3)) W.heap.size 2 3 #[.int .i64 1, .int .i64 1] hV (by rw [hl];exact za _) (by decide) (bi.out.alloc bi.out.size _) (ai.new W _ _) rfl rfl (by decide))
  rw [hk,hl]at HK;have vu:=J (bi.out.alloc bi.out.size (.cells #[.int .i64 1, .int .i64 1] 3));have Cv:=J (HZ.out.alloc (.cells #[.int .i64 1, .int .i64 1] 3));have xY:=J (HP.out.alloc (.cells #[.int .i64 1, .int .i64 1] 3));have Cu:=J (ux.out.alloc (.cells #[.int .i64 1, .int .i64 1] 3));rw [hl]at HS;rw [hl]
  first
   |replace aj:=aj
    have e1:(nm==[61])=false:=zf.2 lj;have e2:(nm==[60,62])=false:=zf.2 gW;have e3:(nm==[97,114,114,97,121])=false:=zf.2 hn3;have g1:(nm !=[61])=true:=by simpa [bne]using lj
    have g2:(nm !=[60,62])=true:=by simpa [bne]using gW
    have g3:(nm !=[97,114,114,97,121])=true:=by simpa [bne]using hn3
    clear lj gW hn3
   |skip
  have oq:=J (fun w1 (hb:Below w.heap.size w w1)=>HS ty (.slice RA rs.length lu) w1 hb)
  first
   |replace aj:=aj
    clear HS a9 hM hV ol hpt iJ iK Ca hr2 iH hl hk;go_enter func17,ntmps17;go_wp2_with (first|(go_at_call 57;(with_reducible refine(HK.out).mono ?_);rintro e w1 ⟨rfl,dn,dz⟩;have H1:=J (show Below w.heap.size w w1 by rw [dz];exact below_drewN vu.out dn);have jo:=J (show ai w1 w.heap.size 49 aL by rw [dz];exact Cv.out.drewN dn);have dr:=xY.out.drewN dn;rw [←dz]at dr;have dV:=J dr;clear dr;have qg:=J (show ai w1 M 59 #[v0, .slice (some PA) 61 qE,v2,v3,v4,v5,v6,v7,v8]by rw [dz];exact Cu.out.drewN dn);have u0:=dV.out.cell 0;have u1:=dV.out.cell 1;have u2:=dV.out.cell 2;have u3:=dV.out.cell 3;have u4:=dV.out.cell 4;simp at u0 u1 u2 u3 u4;clear dz)|(go_at_call 58;(with_reducible refine(oq.out _ H1.out).mono ?_);rintro e w5 ⟨rfl,hb⟩;have HB:=J (H1.out.trans (hb.mono H1.out.size));have BX:=J (jo.out.below hb jo.out.lt);obtain⟨c0,c1,c2,c3,c4,c5,c6⟩:=ae BX.out;obtain⟨f0,f1,f2,f3,f4,f5,f6⟩:=ar BX.out;clear hb))
    obtain⟨z0,z1,z2,z3,z4,z5,z6⟩:=ae (aF (r:=r) BX.out);unfold aR at z0 z1 z2 z3 z4 z5 z6;refine zi (v:= .tuple #[aY r, .int .i64 (rc r)]) (by simp [results,results17,go_sem,z0,z1,z2,z3,z4,z5,z6]) rfl ⟨rfl,az (r:=r) HB.out (za _)⟩
   |replace aG:=aG
    clear HS a9 hM hV ol hpt lj gW iJ iK Ca hr2 iH hl hk;simp only [zx,zD,Zo]at hn
    rcases hn with rfl|rfl|rfl|rfl
    all_goals
     go_enter func17,ntmps17;go_wp2_with (first|(go_at_call 57;(with_reducible refine(HK.out).mono ?_);rintro e w1 ⟨rfl,dn,dz⟩;have H1:=J (show Below w.heap.size w w1 by rw [dz];exact below_drewN vu.out dn);have jo:=J (show ai w1 w.heap.size 49 aL by rw [dz];exact Cv.out.drewN dn);have dr:=xY.out.drewN dn;rw [←dz]at dr;have dV:=J dr;clear dr;have qg:=J (show ai w1 M 59 #[v0, .slice (some PA) 61 qE,v2,v3,v4,v5,v6,v7,v8]by rw [dz];exact Cu.out.drewN dn);have u0:=dV.out.cell 0;have u1:=dV.out.cell 1;have u2:=dV.out.cell 2;have u3:=dV.out.cell 3;have u4:=dV.out.cell 4;simp at u0 u1 u2 u3 u4;clear dz)|(go_at_call 58;(with_reducible refine(oq.out _ H1.out).mono ?_);rintro e w5 ⟨rfl,hb⟩;have HB:=J (H1.out.trans (hb.mono H1.out.size));have BX:=J (jo.out.below hb jo.out.lt);obtain⟨c0,c1,c2,c3,c4,c5,c6⟩:=ae BX.out;obtain⟨f0,f1,f2,f3,f4,f5,f6⟩:=ar BX.out;clear hb))
     obtain⟨z0,z1,z2,z3,z4,z5,z6⟩:=ae (aF (r:=r) BX.out);unfold aR at z0 z1 z2 z3 z4 z5 z6;refine zi (v:= .tuple #[aY r, .int .i64 (rc r)]) (by simp [results,results17,go_sem,z0,z1,z2,z3,z4,z5,z6]) rfl ⟨rfl,az (r:=r) HB.out (za _)⟩
   |clear HS a9 hM hV ol hpt lj gW iJ iK Ca hr2 iH hl hk
    simp only [zx,zD,Zo]at hn
    rcases hn with rfl|rfl|rfl|rfl
    all_goals
     go_enter func17,ntmps17;go_wp2_with (first|(go_at_call 57;(with_reducible refine(HK.out).mono ?_);rintro e w1 ⟨rfl,dn,dz⟩;have H1:=J (show Below w.heap.size w w1 by rw [dz];exact below_drewN vu.out dn);have jo:=J (show ai w1 w.heap.size 49 aL by rw [dz];exact Cv.out.drewN dn);have dr:=xY.out.drewN dn;rw [←dz]at dr;have dV:=J dr;clear dr;have qg:=J (show ai w1 M 59 #[v0, .slice (some PA) 61 qE,v2,v3,v4,v5,v6,v7,v8]by rw [dz];exact Cu.out.drewN dn);have u0:=dV.out.cell 0;have u1:=dV.out.cell 1;have u2:=dV.out.cell 2;have u3:=dV.out.cell 3;have u4:=dV.out.cell 4;simp at u0 u1 u2 u3 u4;clear dz)|(go_at_call 58;(with_reducible refine(oq.out _ H1.out qg.out).mono ?_);rintro e w3 ⟨rfl,gR,dd⟩;have pF:=J gR;have lR:=J dd;have gf:=J (jo.out.only dd (by simp [fa]));obtain⟨c0,c1,c2,c3,c4,c5,c6⟩:=ae gf.out;obtain⟨f0,f1,f2,f3,f4,f5,f6⟩:=ar gf.out;clear gR dd))
     obtain⟨z0,z1,z2,z3,z4,z5,z6⟩:=ae (aF (r:= .no) gf.out);have iL:=J (pF.out.only (w':=aR w3 w.heap.size .no) (bs:=[w.heap.size]) (by unfold aR;exact(((((((ap.refl [w.heap.size] w3).one).one).one).one).one).one).one) (by simp [iM]))
     have hI:=J (show ap [M] w (aR w3 w.heap.size .no)by unfold aR;exact(((((((((ap.of_below (bs:=[M]) H1.out).trans lR.out).setCell (p:=⟨w.heap.size,0,none⟩) (.inr (za _)) _).setCell (p:=⟨w.heap.size,1,none⟩) (.inr (za _)) _).setCell (p:=⟨w.heap.size,2,none⟩) (.inr (za _)) _).setCell (p:=⟨w.heap.size,3,none⟩) (.inr (za _)) _).setCell (p:=⟨w.heap.size,4,none⟩) (.inr (za _)) _).setCell (p:=⟨w.heap.size,5,none⟩) (.inr (za _)) _).setCell (p:=⟨w.heap.size,6,none⟩) (.inr (za _)) _))
     unfold aR at z0 z1 z2 z3 z4 z5 z6 iL hI;simp only [eP,ri,rb,rt]at z0 z1 z2 z3 z4 z5 z6 iL hI;refine zi (v:= .tuple #[aY .no, .int .i64 0]) (by simp [results,results17,go_sem,eP,ri,rb,rt,z0,z1,z2,z3,z4,z5,z6]) rfl ⟨rfl,iL.out,hI.out⟩
def YD a b c d e f g h i j k l m n o p:=(pm a b c d e f g h i j k l m n o p).1
def YE a b c d e f g h i j k l m n o p:=(pm a b c d e f g h i j k l m n o p).2.1
def Li a b c d e f g h i j k l m n o p:=(pm a b c d e f g h i j k l m n o p).2.2
set_option maxHeartbeats 12000000
theorem cK{w w':World}{bs:List Nat}{p:Addr}{v:Value}(h:ap bs w w')(hp:p.block∉bs)(hc:w.cell? p=some v):w'.cell? p=some v:=(zY (h.block _ (jj hc) hp)).trans hc
theorem Lj{w:World}{B:Nat}{v:Value}{x y:At}(h:VL w B v [x,y]): ∃ad c,v= .slice (some ad) 2 c∧ad.block<B∧(∀j u,(gz (dT x))[j]? =some u→w.cell? (ad.add j)=some u)∧∀j u,(gz (dT y))[j]? =some u→w.cell? (ad.add (7+j))=some u:=by
 obtain⟨A,c,rfl,h1,h2,h3⟩:=h;obtain⟨ad,rfl,hb,hc⟩:=h3 0 x rfl;obtain⟨QQ,e,_,hd⟩:=h3 1 y rfl;injection e with e
 subst e;exact⟨ad,c,rfl,hb,fun j u hu=>by have:=hc j u hu;rwa [Zk,Ih]at this,fun j u hu=>by have:=hd j u hu;rwa [zP]at this⟩
abbrev mo(M:Nat)(v0 pv v2 v3 v4 v5 v6 v7 v8:Value)(x y:At)(w:World):Prop:= ∀w1,Below w.heap.size w w1→ai w1 M 59 #[v0,pv,v2,v3,v4,v5,v6,v7,v8]→Calls prog 62 #[.pointer (some ⟨M,0,none⟩),aY (dT x),aY (dT y)] w1 (fun e w'=>e= .returned (.bool false)∧ai w' M 59 #[v0,pv,v2,v3,v4,v5,v6,v7, .int .i64 5]∧ap [M] w1 w')
abbrev mq(M:Nat)(v0 pv v2 v3 v4 v5 v6 v7:Value)(j:Nat)(v:Value)(w:World):Prop:=Calls prog 17 #[.pointer (some ⟨M,0,none⟩), .int .i64 (j:Int),v] w (fun e w'=> ∃r c,e= .returned (.tuple #[aY r, .int .i64 c])∧ai w' M 59 #[v0,pv,v2,v3,v4,v5,v6,v7, .int .i64 5]∧ap [M] w w')
abbrev gA(M:Nat)(x y:At)(q:Bool)(w:World):Prop:= ∀w1,Below w.heap.size w w1→Calls prog 62 #[.pointer (some ⟨M,0,none⟩),aY (dT x),aY (dT y)] w1 (fun e w'=>e= .returned (.bool q)∧Below w1.heap.size w1 w')
abbrev mr(M j:Nat)(v:Value)(q:Bool)(w:World):Prop:=Calls prog 17 #[.pointer (some ⟨M,0,none⟩), .int .i64 (j:Int),v] w (aD (aE (!q)) w)
abbrev ms(M j:Nat)(v:Value)(q:Bool)(w:World):Prop:=Calls prog 17 #[.pointer (some ⟨M,0,none⟩), .int .i64 (j:Int),v] w (aD (aE q) w)
abbrev en(M:Nat)(v0 pv v2 v3 v4 v5 v6 v7 v8:Value)(w:World):Prop:=ai w M 59 #[v0,pv,v2,v3,v4,v5,v6,v7,v8]
theorem gQ(M:Nat)(v0 pv v2 v3 v4 v5 v6 v7 v8:Value)(j:Nat)(nm:List UInt8)(con ab:Int)(rs:List Int)(hpt:ao[j]? =some ⟨nm,con,ab,rs⟩)(hc:con=(-1)):(∀(hn:nm∈([[61]]:List (List UInt8))) (x y:At) (hk:aQ [x,y] [1,1]=false) (v:Value) (q:Bool) (w:World) (a9:PV w w.heap.size pv ao) (hM:en M v0 pv v2 v3 v4 v5 v6 v7 v8 w) (hV:VL w w.heap.size v [x,y]) (HS:gA M x y q w),ms M j v q w)∧(∀(hn:nm∈([[61]]:List (List UInt8))) (x y:At) (hk:aQ [x,y] [1,1]=true) (v:Value) (q:Bool) (w:World) (a9:PV w w.heap.size pv ao) (hM:en M v0 pv v2 v3 v4 v5 v6 v7 v8 w) (hV:VL w w.heap.size v [x,y]) (HS:gA M x y q w),ms M j v q w)∧(∀(hn:nm∈([[61]]:List (List UInt8))) (x y:At) (hk:aQ [x,y] [1,1]=false) (v:Value) (w:World) (a9:PV w w.heap.size pv ao) (hM:en M v0 pv v2 v3 v4 v5 v6 v7 v8 w) (hV:VL w M v [x,y]) (HS:mo M v0 pv v2 v3 v4 v5 v6 v7 v8 x y w),mq M v0 pv v2 v3 v4 v5 v6 v7 j v w)∧(∀(hn:nm∈([[60,62]]:List (List UInt8))) (x y:At) (hk:aQ [x,y] [1,1]=false) (v:Value) (q:Bool) (w:World) (a9:PV w w.heap.size pv ao) (hM:en M v0 pv v2 v3 v4 v5 v6 v7 v8 w) (hV:VL w w.heap.size v [x,y]) (HS:gA M x y q w),mr M j v q w)∧(∀(hn:nm∈([[60,62]]:List (List UInt8))) (x y:At) (hk:aQ [x,y] [1,1]=true) (v:Value) (q:Bool) (w:World) (a9:PV w w.heap.size pv ao) (hM:en M v0 pv v2 v3 v4 v5 v6 v7 v8 w) (hV:VL w w.heap.size v [x,y]) (HS:gA M x y q w),mr M j v q w)∧(∀(hn:nm∈([[60,62]]:List (List UInt8))) (x y:At) (hk:aQ [x,y] [1,1]=false) (v:Value) (w:World) (a9:PV w w.heap.size pv ao) (hM:en M v0 pv v2 v3 v4 v5 v6 v7 v8 w) (hV:VL w M v [x,y]) (HS:mo M v0 pv v2 v3 v4 v5 v6 v7 v8 x y w),mq M v0 pv v2 v3 v4 v5 v6 v7 j v w):=by
 unfold mo mq gA mr ms en;refine⟨?_,?_,?_,?_,?_,?_⟩;intro hn x y hk v q w a9 hM hV HS;have aj:=J (rfl:0=0)
 rotate_left;intro hn x y hk v q w a9 hM hV HS;have aG:=J (rfl:0=0)
 rotate_left;intro hn x y hk v w a9 hM hV HS;have aP:=J (rfl:0=0)
 rotate_left;intro hn x y hk v q w a9 hM hV HS;have bk:=J (rfl:0=0)
 rotate_left;intro hn x y hk v q w a9 hM hV HS;have bz:=J (rfl:0=0)
 rotate_left;intro hn x y hk v w a9 hM hV HS;have cE:=J (rfl:0=0)
 all_goals
  first
   |(first|replace aP:=aP|replace cE:=cE)
    have dW:=hV;replace hV:=hV.more (Zc hM.lt)
   |skip
  obtain⟨ad,c,rfl,bJ,hX,hY⟩:=Lj hV
  first
   |(first|replace aP:=aP|replace cE:=cE)
    have LD:ad.block≠M:=by
     obtain⟨QQ,c',e,h,_⟩:=Lj dW;injection e with e1
     injection e1 with e1
     subst e1;omega
    clear dW
   |skip
  obtain⟨PA,qE,rfl,iJ,iK⟩:=a9.len;rw [aN]at *;obtain⟨ty,rv,iH,ol,tb,lT,kX,qe,qf⟩:=a9.at_ hpt;obtain⟨RA,lu,rfl,Ca,hr2⟩:=ol.len;dsimp only at tb lT kX qe qf;subst hc;have hj:j<61:=by have:=(zq.1 hpt).1;rw [aN]at this;exact this
  have JJ:(j:Int)<61:=by omega
  have Fw:(0:Int)≤(j:Int):=by omega
  have pH:=(zg w.heap.size w).alloc (za _) (.cells aL 49);have m1:(w.alloc (.cells aL 49)).cell? ⟨M,1,none⟩=some (.slice (some PA) 61 qE):=(hM.alloc _).cell 1;replace tb:=(pH.cell (p:=PA.add (j*5)) (by rw [ak];exact iH)).trans tb
  replace lT:=bc (j:=0) ((pH.cell (p:=PA.add (j*5+1)) (by rw [ak];exact iH)).trans lT)
  replace kX:=bc (j:=1) ((pH.cell (p:=PA.add (j*5+2)) (by rw [ak];exact iH)).trans kX)
  replace qe:=bc (j:=2) ((pH.cell (p:=PA.add (j*5+3)) (by rw [ak];exact iH)).trans qe)
  replace qf:=bc (j:=3) ((pH.cell (p:=PA.add (j*5+4)) (by rw [ak];exact iH)).trans qf)
  obtain⟨W,hW⟩: ∃W,(w.alloc (.cells aL 49)).alloc (.cells #[.string ⟨nm.toArray⟩, .int .i64 (-1), .int .i64 ab, .string ty, .slice RA rs.length lu] 36)=W:=⟨_,rfl⟩;have bi:=J (show Below w.heap.size w W by rw [←hW];exact aA _ _ _)
  have HZ:=J (show ai W w.heap.size 49 aL by rw [←hW];exact(ai.new _ _ _).alloc _)
  have HP:=J (show ai W (w.heap.size+1) 36 #[.string ⟨nm.toArray⟩, .int .i64 (-1), .int .i64 ab, .string ty, .slice RA rs.length lu]by rw [←hW];exact am (by simp) _ _)
  have p0:=HP.out.c0;have p1:=HP.out.c1;have ux:=J (hM.below bi.out hM.lt);have bw:=hM.lt;have fa:w.heap.size≠M:=by omega
  have amj:w.heap.size+1≠M:=by omega
  have iM:M≠w.heap.size:=by omega
  have HXW:=J (fun w5 (hb:Below w.heap.size w w5)=>show w5.cell? ad=some (.int .i64 (eP (dT x)))∧w5.cell? ⟨ad.block,ad.off+1,none⟩=some (.int .i64 (ri (dT x)))∧w5.cell? ⟨ad.block,ad.off+2,none⟩=some (.int .u64 (rb (dT x)))∧w5.cell? ⟨ad.block,ad.off+3,none⟩=some (.string ⟨(rt (dT x)).toArray⟩)∧w5.cell? ⟨ad.block,ad.off+4,none⟩=some (.slice none 0 0)∧w5.cell? ⟨ad.block,ad.off+5,none⟩=some (.int .i64 0)∧w5.cell? ⟨ad.block,ad.off+6,none⟩=some (.pointer none)∧w5.cell? ⟨ad.block,ad.off+7,none⟩=some (.int .i64 (eP (dT y)))∧w5.cell? ⟨ad.block,ad.off+7+1,none⟩=some (.int .i64 (ri (dT y)))∧w5.cell? ⟨ad.block,ad.off+7+2,none⟩=some (.int .u64 (rb (dT y)))∧w5.cell? ⟨ad.block,ad.off+7+3,none⟩=some (.string ⟨(rt (dT y)).toArray⟩)∧w5.cell? ⟨ad.block,ad.off+7+4,none⟩=some (.slice none 0 0)∧w5.cell? ⟨ad.block,ad.off+7+5,none⟩=some (.int .i64 0)∧w5.cell? ⟨ad.block,ad.off+7+6,none⟩=some (.pointer none)from⟨((hb.cell (p:=ad) bJ).trans (by have:=hX 0 _ rfl;rwa [ZV]at this)),((hb.cell (p:=⟨ad.block,ad.off+1,none⟩) bJ).trans (by have:=hX 1 _ rfl;rwa [aB ad (by decide)]at this)),((hb.cell (p:=⟨ad.block,ad.off+2,none⟩) bJ).trans (by have:=hX 2 _ rfl;rwa [aB ad (by decide)]at this)),((hb.cell (p:=⟨ad.block,ad.off+3,none⟩) bJ).trans (by have:=hX 3 _ rfl;rwa [aB ad (by decide)]at this)),((hb.cell (p:=⟨ad.block,ad.off+4,none⟩) bJ).trans (by have:=hX 4 _ rfl;rwa [aB ad (by decide)]at this)),((hb.cell (p:=⟨ad.block,ad.off+5,none⟩) bJ).trans (by have:=hX 5 _ rfl;rwa [aB ad (by decide)]at this)),((hb.cell (p:=⟨ad.block,ad.off+6,none⟩) bJ).trans (by have:=hX 6 _ rfl;rwa [aB ad (by decide)]at this)),((hb.cell (p:=⟨ad.block,ad.off+7,none⟩) bJ).trans (by have:=hY 0 _ rfl;rwa [aB ad (by decide)]at this)),((hb.cell (p:=⟨ad.block,ad.off+7+1,none⟩) bJ).trans (by have:=hY 1 _ rfl;rwa [aB ad (by decide)]at this)),((hb.cell (p:=⟨ad.block,ad.off+7+2,none⟩) bJ).trans (by have:=hY 2 _ rfl;rwa [aB ad (by decide)]at this)),((hb.cell (p:=⟨ad.block,ad.off+7+3,none⟩) bJ).trans (by have:=hY 3 _ rfl;rwa [aB ad (by decide)]at this)),((hb.cell (p:=⟨ad.block,ad.off+7+4,none⟩) bJ).trans (by have:=hY 4 _ rfl;rwa [aB ad (by decide)]at this)),((hb.cell (p:=⟨ad.block,ad.off+7+5,none⟩) bJ).trans (by have:=hY 5 _ rfl;rwa [aB ad (by decide)]at this)),((hb.cell (p:=⟨ad.block,ad.off+7+6,none⟩) bJ).trans (by have:=hY 6 _ rfl;rwa [aB ad (by decide)]at this))⟩)
  have HK:=J (bG [x,y] [1,1] _ w (W.alloc (.cells #[.int .i64 1, .int .i64 1] 3)) W.heap.size 2 3 #[.int .i64 1, .int .i64 1] hV (za _) (by decide) (bi.out.alloc bi.out.size _) (ai.new W _ _) rfl rfl (by decide))
  rw [hk]at HK;have vu:=J (bi.out.alloc bi.out.size (.cells #[.int .i64 1, .int .i64 1] 3));have Cv:=J (HZ.out.alloc (.cells #[.int .i64 1, .int .i64 1] 3));have xY:=J (HP.out.alloc (.cells #[.int .i64 1, .int .i64 1] 3));have Cu:=J (ux.out.alloc (.cells #[.int .i64 1, .int .i64 1] 3));have oq:=J HS;have HT:=J (fun b w=>iZ b w)
  unfold b_ at HT
  first
   |(first|replace aP:=aP|replace cE:=cE)
   |unfold aD
  simp only [aY,gz]at oq;clear HS a9 hM hV ol hpt iJ iK Ca hr2 iH hk hX hY;simp only [zx,zD,Zo]at hn
  rcases hn with rfl
  all_goals
   go_enter func17,ntmps17;go_upto_region 15 with(go_at_call 57;(with_reducible refine(HK.out).mono ?_);rintro e w1 ⟨rfl,dn,dz⟩;have H1:=J (show Below w.heap.size w w1 by rw [dz];exact below_drewN vu.out dn);have jo:=J (show ai w1 w.heap.size 49 aL by rw [dz];exact Cv.out.drewN dn);have dr:=xY.out.drewN dn;rw [←dz]at dr;have dV:=J dr;clear dr;have qg:=J (show ai w1 M 59 #[v0, .slice (some PA) 61 qE,v2,v3,v4,v5,v6,v7,v8]by rw [dz];exact Cu.out.drewN dn);have u0:=dV.out.cell 0;have u1:=dV.out.cell 1;simp at u0 u1;have H1d:=J (show Below w.heap.size w w1.drew from below_drewN H1.out 1);have K0:=J (show w1.drew.cell? ad=some (.int .i64 (eP (dT x)))∧w1.drew.cell? ⟨ad.block,ad.off+1,none⟩=some (.int .i64 (ri (dT x)))∧w1.drew.cell? ⟨ad.block,ad.off+2,none⟩=some (.int .u64 (rb (dT x)))∧w1.drew.cell? ⟨ad.block,ad.off+3,none⟩=some (.string ⟨(rt (dT x)).toArray⟩)∧w1.drew.cell? ⟨ad.block,ad.off+4,none⟩=some (.slice none 0 0)∧w1.drew.cell? ⟨ad.block,ad.off+5,none⟩=some (.int .i64 0)∧w1.drew.cell? ⟨ad.block,ad.off+6,none⟩=some (.pointer none)∧w1.drew.cell? ⟨ad.block,ad.off+7,none⟩=some (.int .i64 (eP (dT y)))∧w1.drew.cell? ⟨ad.block,ad.off+7+1,none⟩=some (.int .i64 (ri (dT y)))∧w1.drew.cell? ⟨ad.block,ad.off+7+2,none⟩=some (.int .u64 (rb (dT y)))∧w1.drew.cell? ⟨ad.block,ad.off+7+3,none⟩=some (.string ⟨(rt (dT y)).toArray⟩)∧w1.drew.cell? ⟨ad.block,ad.off+7+4,none⟩=some (.slice none 0 0)∧w1.drew.cell? ⟨ad.block,ad.off+7+5,none⟩=some (.int .i64 0)∧w1.drew.cell? ⟨ad.block,ad.off+7+6,none⟩=some (.pointer none)from HXW.out _ (below_drewN H1.out 1));clear dz)
   first
    |(first|replace aP:=aP|replace cE:=cE)
     go_region_held3 (fun w'=>w'.cell? ad=some (.int .i64 (eP (dT x)))∧w'.cell? ⟨ad.block,ad.off+1,none⟩=some (.int .i64 (ri (dT x)))∧w'.cell? ⟨ad.block,ad.off+2,none⟩=some (.int .u64 (rb (dT x)))∧w'.cell? ⟨ad.block,ad.off+3,none⟩=some (.string ⟨(rt (dT x)).toArray⟩)∧w'.cell? ⟨ad.block,ad.off+4,none⟩=some (.slice none 0 0)∧w'.cell? ⟨ad.block,ad.off+5,none⟩=some (.int .i64 0)∧w'.cell? ⟨ad.block,ad.off+6,none⟩=some (.pointer none)∧w'.cell? ⟨ad.block,ad.off+7,none⟩=some (.int .i64 (eP (dT y)))∧w'.cell? ⟨ad.block,ad.off+7+1,none⟩=some (.int .i64 (ri (dT y)))∧w'.cell? ⟨ad.block,ad.off+7+2,none⟩=some (.int .u64 (rb (dT y)))∧w'.cell? ⟨ad.block,ad.off+7+3,none⟩=some (.string ⟨(rt (dT y)).toArray⟩)∧w'.cell? ⟨ad.block,ad.off+7+4,none⟩=some (.slice none 0 0)∧w'.cell? ⟨ad.block,ad.off+7+5,none⟩=some (.int .i64 0)∧w'.cell? ⟨ad.block,ad.off+7+6,none⟩=some (.pointer none)) (first|with_reducible exact K0.out|with_reducible exact K5.out|go_keep)
      (first|(go_at_call 62;(with_reducible refine(oq.out w1.drew H1d.out qg.out.drew).mono ?_);rintro e w4 ⟨rfl,gR,dd⟩;have HM4:=J gR;have vX:=J dd;have tv:=J (jo.out.drew.only dd (by simp [fa]));have HP4:=J (dV.out.drew.only dd (by simp [amj]));have K5:=J (show w4.cell? ad=some (.int .i64 (eP (dT x)))∧w4.cell? ⟨ad.block,ad.off+1,none⟩=some (.int .i64 (ri (dT x)))∧w4.cell? ⟨ad.block,ad.off+2,none⟩=some (.int .u64 (rb (dT x)))∧w4.cell? ⟨ad.block,ad.off+3,none⟩=some (.string ⟨(rt (dT x)).toArray⟩)∧w4.cell? ⟨ad.block,ad.off+4,none⟩=some (.slice none 0 0)∧w4.cell? ⟨ad.block,ad.off+5,none⟩=some (.int .i64 0)∧w4.cell? ⟨ad.block,ad.off+6,none⟩=some (.pointer none)∧w4.cell? ⟨ad.block,ad.off+7,none⟩=some (.int .i64 (eP (dT y)))∧w4.cell? ⟨ad.block,ad.off+7+1,none⟩=some (.int .i64 (ri (dT y)))∧w4.cell? ⟨ad.block,ad.off+7+2,none⟩=some (.int .u64 (rb (dT y)))∧w4.cell? ⟨ad.block,ad.off+7+3,none⟩=some (.string ⟨(rt (dT y)).toArray⟩)∧w4.cell? ⟨ad.block,ad.off+7+4,none⟩=some (.slice none 0 0)∧w4.cell? ⟨ad.block,ad.off+7+5,none⟩=some (.int .i64 0)∧w4.cell? ⟨ad.block,ad.off+7+6,none⟩=some (.pointer none)from⟨cK dd (by simpa using LD) K0.out.1,cK dd (by simpa using LD) K0.out.2.1,cK dd (by simpa using LD) K0.out.2.2.1,cK dd (by simpa using LD) K0.out.2.2.2.1,cK dd (by simpa using LD) K0.out.2.2.2.2.1,cK dd (by simpa using LD) K0.out.2.2.2.2.2.1,cK dd (by simpa using LD) K0.out.2.2.2.2.2.2.1,cK dd (by simpa using LD) K0.out.2.2.2.2.2.2.2.1,cK dd (by simpa using LD) K0.out.2.2.2.2.2.2.2.2.1,cK dd (by simpa using LD) K0.out.2.2.2.2.2.2.2.2.2.1,cK dd (by simpa using LD) K0.out.2.2.2.2.2.2.2.2.2.2.1,cK dd (by simpa using LD) K0.out.2.2.2.2.2.2.2.2.2.2.2.1,cK dd (by simpa using LD) K0.out.2.2.2.2.2.2.2.2.2.2.2.2.1,cK dd (by simpa using LD) K0.out.2.2.2.2.2.2.2.2.2.2.2.2.2⟩);clear gR dd))
    |go_region_held3 (fun w'=>w'.cell? ad=some (.int .i64 (eP (dT x)))∧w'.cell? ⟨ad.block,ad.off+1,none⟩=some (.int .i64 (ri (dT x)))∧w'.cell? ⟨ad.block,ad.off+2,none⟩=some (.int .u64 (rb (dT x)))∧w'.cell? ⟨ad.block,ad.off+3,none⟩=some (.string ⟨(rt (dT x)).toArray⟩)∧w'.cell? ⟨ad.block,ad.off+4,none⟩=some (.slice none 0 0)∧w'.cell? ⟨ad.block,ad.off+5,none⟩=some (.int .i64 0)∧w'.cell? ⟨ad.block,ad.off+6,none⟩=some (.pointer none)∧w'.cell? ⟨ad.block,ad.off+7,none⟩=some (.int .i64 (eP (dT y)))∧w'.cell? ⟨ad.block,ad.off+7+1,none⟩=some (.int .i64 (ri (dT y)))∧w'.cell? ⟨ad.block,ad.off+7+2,none⟩=some (.int .u64 (rb (dT y)))∧w'.cell? ⟨ad.block,ad.off+7+3,none⟩=some (.string ⟨(rt (dT y)).toArray⟩)∧w'.cell? ⟨ad.block,ad.off+7+4,none⟩=some (.slice none 0 0)∧w'.cell? ⟨ad.block,ad.off+7+5,none⟩=some (.int .i64 0)∧w'.cell? ⟨ad.block,ad.off+7+6,none⟩=some (.pointer none)) (first|with_reducible exact K0.out|with_reducible exact K5.out|go_keep)
      (first|(go_at_call 62;(with_reducible refine(oq.out w1.drew H1d.out).mono ?_);rintro e w4 ⟨rfl,hb⟩;have H4:=J ((below_drewN H1.out 1).trans (hb.mono H1.out.size));have tv:=J (jo.out.drew.below hb jo.out.drew.lt);have HP4:=J (dV.out.drew.below hb dV.out.drew.lt);have K5:=J (HXW.out w4 H4.out);clear hb))
   have t0:=HP4.out.cell 0;simp at t0;obtain⟨c0,c1,c2,c3,c4,c5,c6⟩:=ae tv.out;obtain⟨f0,f1,f2,f3,f4,f5,f6⟩:=ar tv.out;clear c0 c1 c2 c3 c4 c5 c6 f0 f1 f2 f3 f4 f5 f6
   first
    |(first|replace aj:=aj|replace aG:=aG)
     have hqq:(q==true)=q:=by cases q<;>rfl
    |(first|replace aP:=aP|replace cE:=cE)
    |have hqq:(q==false)=(!q):=by cases q<;>rfl
   go_wp2_with (go_at_call 63;(((first|replace aP:=aP;with_reducible refine(HT.out false _).mono ?_|replace cE:=cE;with_reducible refine(HT.out true _).mono ?_|(first|replace aj:=aj|replace aG:=aG);with_reducible refine(HT.out q _).mono ?_|(first|replace bk:=bk|replace bz:=bz);with_reducible refine(HT.out (!q) _).mono ?_));rintro e w5 ⟨rfl,hb⟩;(first|(first|replace aP:=aP|replace cE:=cE);have H5:=J hb;have Q2:=J (HM4.out.below hb HM4.out.lt)|(first|replace aj:=aj|replace aG:=aG|replace bk:=bk|replace bz:=bz);have HB:=J (H4.out.trans (hb.mono H4.out.size)));have BX:=J (tv.out.below hb tv.out.lt);obtain⟨c0,c1,c2,c3,c4,c5,c6⟩:=ae BX.out;obtain⟨f0,f1,f2,f3,f4,f5,f6⟩:=ar BX.out;clear hb))
   first
    |replace aP:=aP
     obtain⟨z0,z1,z2,z3,z4,z5,z6⟩:=ae (aF (r:=aE false) BX.out);have iL:=J (Q2.out.only (w':=aR w5 w.heap.size (aE false)) (bs:=[w.heap.size]) (by unfold aR;exact(((((((ap.refl [w.heap.size] w5).one).one).one).one).one).one).one) (by simp [iM]))
     have hI:=J (show ap [M] w (aR w5 w.heap.size (aE false))by unfold aR;exact((((((((((ap.of_below (bs:=[M]) H1d.out).trans vX.out).trans (ap.of_below (bs:=[M]) H5.out)).setCell (p:=⟨w.heap.size,0,none⟩) (.inr (za _)) _).setCell (p:=⟨w.heap.size,1,none⟩) (.inr (za _)) _).setCell (p:=⟨w.heap.size,2,none⟩) (.inr (za _)) _).setCell (p:=⟨w.heap.size,3,none⟩) (.inr (za _)) _).setCell (p:=⟨w.heap.size,4,none⟩) (.inr (za _)) _).setCell (p:=⟨w.heap.size,5,none⟩) (.inr (za _)) _).setCell (p:=⟨w.heap.size,6,none⟩) (.inr (za _)) _))
     unfold aR at z0 z1 z2 z3 z4 z5 z6 iL hI;refine zi (v:= .tuple #[aY (aE false), .int .i64 0]) (by simp [results,results17,go_sem,z0,z1,z2,z3,z4,z5,z6]) rfl ⟨aE false,0,rfl,iL.out,hI.out⟩
    |replace cE:=cE
     obtain⟨z0,z1,z2,z3,z4,z5,z6⟩:=ae (aF (r:=aE true) BX.out);have iL:=J (Q2.out.only (w':=aR w5 w.heap.size (aE true)) (bs:=[w.heap.size]) (by unfold aR;exact(((((((ap.refl [w.heap.size] w5).one).one).one).one).one).one).one) (by simp [iM]))
     have hI:=J (show ap [M] w (aR w5 w.heap.size (aE true))by unfold aR;exact((((((((((ap.of_below (bs:=[M]) H1d.out).trans vX.out).trans (ap.of_below (bs:=[M]) H5.out)).setCell (p:=⟨w.heap.size,0,none⟩) (.inr (za _)) _).setCell (p:=⟨w.heap.size,1,none⟩) (.inr (za _)) _).setCell (p:=⟨w.heap.size,2,none⟩) (.inr (za _)) _).setCell (p:=⟨w.heap.size,3,none⟩) (.inr (za _)) _).setCell (p:=⟨w.heap.size,4,none⟩) (.inr (za _)) _).setCell (p:=⟨w.heap.size,5,none⟩) (.inr (za _)) _).setCell (p:=⟨w.heap.size,6,none⟩) (.inr (za _)) _))
     unfold aR at z0 z1 z2 z3 z4 z5 z6 iL hI;refine zi (v:= .tuple #[aY (aE true), .int .i64 0]) (by simp [results,results17,go_sem,z0,z1,z2,z3,z4,z5,z6]) rfl ⟨aE true,0,rfl,iL.out,hI.out⟩
    |(first|replace aj:=aj|replace aG:=aG)
     obtain⟨z0,z1,z2,z3,z4,z5,z6⟩:=ae (aF (r:=aE q) BX.out);unfold aR at z0 z1 z2 z3 z4 z5 z6;refine zi (v:= .tuple #[aY (aE q), .int .i64 0]) (by simp [results,results17,go_sem,z0,z1,z2,z3,z4,z5,z6]) rfl ⟨rfl,az (r:=aE q) HB.out (za _)⟩
    |obtain⟨z0,z1,z2,z3,z4,z5,z6⟩:=ae (aF (r:=aE (!q)) BX.out)
     unfold aR at z0 z1 z2 z3 z4 z5 z6;refine zi (v:= .tuple #[aY (aE (!q)), .int .i64 0]) (by simp [results,results17,go_sem,z0,z1,z2,z3,z4,z5,z6]) rfl ⟨rfl,az (r:=aE (!q)) HB.out (za _)⟩
def YF a b c d e f g h i j k l m n o p q:=(gQ a b c d e f g h i j k l m n o p q).1
def YG a b c d e f g h i j k l m n o p q:=(gQ a b c d e f g h i j k l m n o p q).2.1
def YH a b c d e f g h i j k l m n o p q:=(gQ a b c d e f g h i j k l m n o p q).2.2.1
def YI a b c d e f g h i j k l m n o p q:=(gQ a b c d e f g h i j k l m n o p q).2.2.2.1
def YJ a b c d e f g h i j k l m n o p q:=(gQ a b c d e f g h i j k l m n o p q).2.2.2.2.1
def YK a b c d e f g h i j k l m n o p q:=(gQ a b c d e f g h i j k l m n o p q).2.2.2.2.2
def dj(M:Nat)(v0 pv v2 v3 v4 v5 v6 v7 v8:Value)(r:eo)(w:World)(e:Ending)(w':World):Prop:=
 (EK r=false∧aD r w e w')∨(EK r=true∧∃r' c,e= .returned (.tuple #[aY r', .int .i64 c])∧ai w' M 59 #[v0,pv,v2,v3,v4,v5,v6,v7, .int .i64 5]∧ap [M] w w')
theorem da{M:Nat}{v0 pv v2 v3 v4 v5 v6 v7 v8:Value}{r:eo}{w:World}{j v:Value}(h:Calls prog 17 #[.pointer (some ⟨M,0,none⟩),j,v] w (aD r w))(hr:EK r=false):Calls prog 17 #[.pointer (some ⟨M,0,none⟩),j,v] w (dj M v0 pv v2 v3 v4 v5 v6 v7 v8 r w):=h.mono fun _ _ h=> .inl ⟨hr,h⟩
theorem du{M:Nat}{v0 pv v2 v3 v4 v5 v6 v7 v8:Value}{w:World}{j v:Value}(h:Calls prog 17 #[.pointer (some ⟨M,0,none⟩),j,v] w (fun e w'=>e= .returned (.tuple #[aY .no, .int .i64 0])∧ai w' M 59 #[v0,pv,v2,v3,v4,v5,v6,v7, .int .i64 5]∧ap [M] w w')):Calls prog 17 #[.pointer (some ⟨M,0,none⟩),j,v] w (dj M v0 pv v2 v3 v4 v5 v6 v7 v8 .no w):=h.mono fun _ _ h=> .inr ⟨rfl, .no,0,h⟩
theorem adp{M:Nat}{v0 pv v2 v3 v4 v5 v6 v7 v8:Value}{w:World}{j v:Value}(h:Calls prog 17 #[.pointer (some ⟨M,0,none⟩),j,v] w (fun e w'=> ∃r c,e= .returned (.tuple #[aY r, .int .i64 c])∧ai w' M 59 #[v0,pv,v2,v3,v4,v5,v6,v7, .int .i64 5]∧ap [M] w w')):Calls prog 17 #[.pointer (some ⟨M,0,none⟩),j,v] w (dj M v0 pv v2 v3 v4 v5 v6 v7 v8 .no w):=h.mono fun _ _ h=> .inr ⟨rfl,h⟩
def gI:At→Prop| .int n=>ax n=true| .real b=>b<2^64| .str s=>s.length≤65536
theorem vT(x:Int×Int):EK (aX x)=false:=by unfold aX;repeat' (first|rfl|split)
theorem YL(b:Bool):EK (aE b)=false:=rfl
theorem B8(S:List UInt8)(a b:Int):EK (fg S a b)=false:=by unfold fg;repeat' (first|exact vT _|rfl|split)
theorem EQ(S:List UInt8)(a b:Nat):EK (go S a b)=false:=by unfold go;repeat' (first|rfl|split)
theorem ER(S:List UInt8)(a:Nat):EK (kO S a)=false:=by unfold kO;repeat' (first|exact vT _|rfl|split)
theorem AH(mv:Value)(S:List UInt8)(con ab:Int)(ty rv v:Value)(u:Nat)(hu:u<2^64)(w:World)(hV:VL w w.heap.size v [.real u]):Calls prog 60 #[mv, .agg #[.string ⟨S.toArray⟩, .int .i64 con, .int .i64 ab,ty,rv],v] w (aD (kO S u) w):=by
 unfold kO
 by_cases s0:S=[126]
 ·subst s0;rw [zh rfl];exact PH mv con ab ty rv v u hu w hV
 rw [ze s0]
 by_cases s1:S=[97,98,115]
 ·subst s1;rw [zh rfl];exact PI mv con ab ty rv v u hu w hV
 rw [ze s1]
 by_cases s2:S=[102,108,111,111,114]
 ·subst s2;rw [zh rfl];exact ED mv con ab ty rv v u hu w hV
 rw [ze s2]
 by_cases s3:S=[99,101,105,108]
 ·subst s3;rw [zh rfl];exact Jm mv con ab ty rv v u hu w hV
 rw [ze s3]
 by_cases s4:S=[116,114,117,110,99]
 ·subst s4;rw [zh rfl];exact EE mv con ab ty rv v u hu w hV
 rw [ze s4]
 by_cases s5:S=[114,111,117,110,100]
 ·subst s5;rw [zh rfl];exact EF mv con ab ty rv v u hu w hV
 rw [ze s5]
 by_cases s6:S=[105,115,78,97,110]
 ·subst s6;rw [zh rfl];exact EG mv con ab ty rv v u hu w hV
 rw [ze s6];exact Jn mv S ⟨s0,s1,s2,s3,s4,s5,s6⟩ con ab ty rv v u hu w hV
theorem ES(M:Nat)(v0 pv v2 v3 v4 v5 v6 v7 v8:Value)(j:Nat)(nm:List UInt8)(con ab:Int)(rs:List Int)(hpt:ao[j]? =some ⟨nm,con,ab,rs⟩)(hc:con=0)(x:At)(hx:gI x)(v:Value)(w:World)(a9:PV w w.heap.size pv ao)(hM:ai w M 59 #[v0,pv,v2,v3,v4,v5,v6,v7,v8])(dW:VL w M v [x]):
 Calls prog 17 #[.pointer (some ⟨M,0,none⟩), .int .i64 (j:Int),v] w (dj M v0 pv v2 v3 v4 v5 v6 v7 v8 (aC ⟨nm,con,ab,rs⟩ [x]) w):=by
 have hV:=dW.more (Zc hM.lt)
 cases x with
 |int n=>
  have e:aC ⟨nm,con,ab,rs⟩ [.int n]=if nm=[126]then aX (nJ n)else aX (nK n):=by simp [aC,hc,yx,b0,At.isInt,At.i]
  rw [e]
  by_cases h:nm=[126]
  ·rw [zh h]
   exact da (Lg M v0 pv v2 v3 v4 v5 v6 v7 v8 j nm con ab rs hpt hc [.int n] (by simp) v _ w a9 hM hV (fun ty rv w1 hb=>Ux _ nm h con ab n _ rv v hx w1 (hV.below hb))) (vT _)
  ·rw [ze h]
   exact da (Lg M v0 pv v2 v3 v4 v5 v6 v7 v8 j nm con ab rs hpt hc [.int n] (by simp) v _ w a9 hM hV (fun ty rv w1 hb=>Uy _ nm h con ab n _ rv v hx w1 (hV.below hb))) (vT _)
 |real b=>
  have e:aC ⟨nm,con,ab,rs⟩ [.real b]= .no:=by simp [aC,hc,yx,b0,At.isInt]
  rw [e];exact du (Lh M v0 pv v2 v3 v4 v5 v6 v7 v8 j nm con ab rs hpt hc [.real b] (by simp) v w a9 hM hV (fun ty rv w1 hb gq=>u_ M v0 pv v2 v3 v4 v5 v6 v7 v8 nm con ab _ rv v (.real b) rfl w1 gq (hV.below hb)))
 |str s=>
  have e:aC ⟨nm,con,ab,rs⟩ [.str s]= .no:=by simp [aC,hc,yx,b0,At.isInt]
  rw [e];exact du (Lh M v0 pv v2 v3 v4 v5 v6 v7 v8 j nm con ab rs hpt hc [.str s] (by simp) v w a9 hM hV (fun ty rv w1 hb gq=>u_ M v0 pv v2 v3 v4 v5 v6 v7 v8 nm con ab _ rv v (.str s) rfl w1 gq (hV.below hb)))
theorem kV(M:Nat)(v0 pv v2 v3 v4 v5 v6 v7 v8:Value)(j:Nat)(nm:List UInt8)(con ab:Int)(rs:List Int)(hpt:ao[j]? =some ⟨nm,con,ab,rs⟩)(hc:con=0)(h1:nm≠[61])(h2:nm≠[60,62])(h3:nm≠[97,114,114,97,121])(x y:At)(hx:gI x)(hy:gI y)(v:Value)(w:World)(a9:PV w w.heap.size pv ao)(hM:ai w M 59 #[v0,pv,v2,v3,v4,v5,v6,v7,v8])(dW:VL w M v [x,y]):
 Calls prog 17 #[.pointer (some ⟨M,0,none⟩), .int .i64 (j:Int),v] w (dj M v0 pv v2 v3 v4 v5 v6 v7 v8 (aC ⟨nm,con,ab,rs⟩ [x,y]) w):=by
 have hV:=dW.more (Zc hM.lt)
 by_cases hi:x.isInt=true∧y.isInt=true
 ·cases x<;>cases y<;>first|(exfalso;obtain⟨h,k⟩:=hi;first|cases h;done|cases k;done)|skip
  rename_i a b;have e:aC ⟨nm,con,ab,rs⟩ [.int a, .int b]=fg nm a b:=by simp [aC,hc,ft,b0,b1,At.isInt,At.i,h1,h2,h3]
  rw [e];exact da (YD M v0 pv v2 v3 v4 v5 v6 v7 v8 j nm con ab rs hpt hc h1 h2 h3 [.int a, .int b] rfl rfl v _ w a9 hM hV (fun ty rv w1 hb=>by rw [hc];exact Uz _ nm ab a b _ rv v hx hy w1 (hV.below hb))) (B8 _ _ _)
 ·have e:aC ⟨nm,con,ab,rs⟩ [x,y]= .no:=by
   unfold aC;rw [ze (fun h=>hi ⟨h.2.1,h.2.2.1⟩)]
   show(if con=0 then yx nm [x,y]else _)=eo.no
   rw [zh hc];unfold yx;rw [ze (by simp)]
  rw [e];have hk:aQ [x,y] [1,1]=false:=by cases x<;>cases y<;>first|rfl|(exfalso;exact hi ⟨rfl,rfl⟩)
  exact du (YC M v0 pv v2 v3 v4 v5 v6 v7 v8 j nm con ab rs hpt hc [x,y] rfl hk v w a9 hM hV (fun ty rv w1 hb gq=>H6 M v0 pv v2 v3 v4 v5 v6 v7 v8 nm con ab _ rv v [x,y] (by simp) w1 gq (hV.below hb)))
theorem xD(M:Nat)(v0 pv v2 v3 v4 v5 v6 v7 v8:Value)(j:Nat)(nm:List UInt8)(con ab:Int)(rs:List Int)(hpt:ao[j]? =some ⟨nm,con,ab,rs⟩)(hc:con=1)(x:At)(hx:gI x)(v:Value)(w:World)(a9:PV w w.heap.size pv ao)(hM:ai w M 59 #[v0,pv,v2,v3,v4,v5,v6,v7,v8])(dW:VL w M v [x]):
 Calls prog 17 #[.pointer (some ⟨M,0,none⟩), .int .i64 (j:Int),v] w (dj M v0 pv v2 v3 v4 v5 v6 v7 v8 (aC ⟨nm,con,ab,rs⟩ [x]) w):=by
 have hV:=dW.more (Zc hM.lt);have e:aC ⟨nm,con,ab,rs⟩ [x]=bH nm [x]:=by simp [aC,hc]
 rw [e]
 by_cases hr:x.isReal=true
 ·cases x<;>first|(cases hr;done)|skip
  rename_i b;show Calls _ _ _ _ (dj M v0 pv v2 v3 v4 v5 v6 v7 v8 (kO nm b) w);exact da (PJ M v0 pv v2 v3 v4 v5 v6 v7 v8 j nm con ab rs hpt hc [.real b] (by simp) v _ w a9 hM hV (fun ty rv w1 hb=>AH _ nm con ab _ rv v b hx w1 (hV.below hb))) (ER _ _)
 ·have Ct:x.isReal=false:=by simpa using hr
  rw [show bH nm [x]= .no by simp [bH,Ct]]
  exact du (PK M v0 pv v2 v3 v4 v5 v6 v7 v8 j nm con ab rs hpt hc [x] (by simp) v w a9 hM hV (fun ty rv w1 hb gq=>jy M v0 pv v2 v3 v4 v5 v6 v7 v8 nm con ab _ rv v x [] Ct w1 gq (hV.below hb)))
theorem gJ(M:Nat)(v0 pv v2 v3 v4 v5 v6 v7 v8:Value)(j:Nat)(nm:List UInt8)(con ab:Int)(rs:List Int)(hpt:ao[j]? =some ⟨nm,con,ab,rs⟩)(hc:con=1)(x y:At)(hx:gI x)(hy:gI y)(v:Value)(w:World)(a9:PV w w.heap.size pv ao)(hM:ai w M 59 #[v0,pv,v2,v3,v4,v5,v6,v7,v8])(dW:VL w M v [x,y]):
 Calls prog 17 #[.pointer (some ⟨M,0,none⟩), .int .i64 (j:Int),v] w (dj M v0 pv v2 v3 v4 v5 v6 v7 v8 (aC ⟨nm,con,ab,rs⟩ [x,y]) w):=by
 have hV:=dW.more (Zc hM.lt);have e:aC ⟨nm,con,ab,rs⟩ [x,y]=bH nm [x,y]:=by simp [aC,hc]
 rw [e]
 by_cases hr:x.isReal=true
 ·by_cases hs:y.isReal=true
  ·cases x<;>cases y<;>first|(cases hr;done)|(cases hs;done)|skip
   rename_i a b;show Calls _ _ _ _ (dj M v0 pv v2 v3 v4 v5 v6 v7 v8 (go nm a b) w);exact da (PL M v0 pv v2 v3 v4 v5 v6 v7 v8 j nm con ab rs hpt hc [.real a, .real b] rfl rfl v _ w a9 hM hV (fun ty rv w1 hb=>AE _ nm con ab a b _ rv v hx hy w1 (hV.below hb))) (EQ _ _ _)
  ·have Lq:y.isReal=false:=by simpa using hs
   rw [show bH nm [x,y]= .no by simp [bH,Lq]]
   have hk:aQ [x,y] [1,1]=false:=by cases x<;>cases y<;>first|rfl|(cases hr;done)
   exact du (AG M v0 pv v2 v3 v4 v5 v6 v7 v8 j nm con ab rs hpt hc [x,y] rfl hk v w a9 hM hV (fun ty rv w1 hb gq=>sQ M v0 pv v2 v3 v4 v5 v6 v7 v8 nm con ab _ rv v x y hr Lq w1 gq (hV.below hb)))
 ·have Ct:x.isReal=false:=by simpa using hr
  rw [show bH nm [x,y]= .no by simp [bH,Ct]]
  cases hk:aQ [x,y] [1,1]with
  |false=>exact du (AG M v0 pv v2 v3 v4 v5 v6 v7 v8 j nm con ab rs hpt hc [x,y] rfl hk v w a9 hM hV (fun ty rv w1 hb gq=>jy M v0 pv v2 v3 v4 v5 v6 v7 v8 nm con ab _ rv v x [y] Ct w1 gq (hV.below hb)))
  |true=>exact du (PM M v0 pv v2 v3 v4 v5 v6 v7 v8 j nm con ab rs hpt hc [x,y] rfl hk v w a9 hM hV (fun ty rv w1 hb gq=>jy M v0 pv v2 v3 v4 v5 v6 v7 v8 nm con ab _ rv v x [y] Ct w1 gq (hV.below hb)))
theorem p_(M:Nat)(v0 pv v2 v3 v4 v5 v6 v7 v8:Value)(j:Nat)(nm:List UInt8)(con ab:Int)(rs:List Int)(hpt:ao[j]? =some ⟨nm,con,ab,rs⟩)(hc:con=2)(x y:At)(hx:gI x)(hy:gI y)(v:Value)(w:World)(a9:PV w w.heap.size pv ao)(hM:ai w M 59 #[v0,pv,v2,v3,v4,v5,v6,v7,v8])(dW:VL w M v [x,y]):
 Calls prog 17 #[.pointer (some ⟨M,0,none⟩), .int .i64 (j:Int),v] w (dj M v0 pv v2 v3 v4 v5 v6 v7 v8 (aC ⟨nm,con,ab,rs⟩ [x,y]) w):=by
 have hV:=dW.more (Zc hM.lt)
 by_cases hi:x.isInt=true∧y.isInt=true
 ·cases x<;>cases y<;>first|(exfalso;obtain⟨h,k⟩:=hi;first|cases h;done|cases k;done)|skip
  rename_i a b;have e:aC ⟨nm,con,ab,rs⟩ [.int a, .int b]=fg nm a b:=by simp [aC,hc,nF,b0,b1,At.isInt,At.i]
  rw [e];exact da (EM M v0 pv v2 v3 v4 v5 v6 v7 v8 j nm con ab rs hpt hc [.int a, .int b] rfl rfl v _ w a9 hM hV (fun ty rv w1 hb=>by rw [hc];exact Jk _ nm ab a b _ rv v hx hy w1 (hV.below hb))) (B8 _ _ _)
 ·have e:aC ⟨nm,con,ab,rs⟩ [x,y]= .no:=by
   simp only [aC,hc,nF,b0,b1];rw [ze (fun h=>hi ⟨h.2.1,h.2.2.1⟩),ze (by decide),ze (by decide),zh (by decide),ze (fun h=>hi h.2),ze (fun h=>by simp at h)]
  rw [e];have hk:aQ [x,y] [1,1]=false:=by cases x<;>cases y<;>first|rfl|(exfalso;exact hi ⟨rfl,rfl⟩)
  exact du (EL M v0 pv v2 v3 v4 v5 v6 v7 v8 j nm con ab rs hpt hc [x,y] rfl hk v w a9 hM hV (fun ty rv w1 hb gq=>by rw [hc];exact BV M v0 pv v2 v3 v4 v5 v6 v7 v8 nm ab _ rv v x y hk w1 gq (hV.below hb)))
theorem lP(M:Nat)(v0 pv v2 v3 v4 v5 v6 v7 v8:Value)(j:Nat)(nm:List UInt8)(con ab:Int)(rs:List Int)(hpt:ao[j]? =some ⟨nm,con,ab,rs⟩)(hc:con=3)(x y:At)(hx:gI x)(hy:gI y)(v:Value)(w:World)(a9:PV w w.heap.size pv ao)(hM:ai w M 59 #[v0,pv,v2,v3,v4,v5,v6,v7,v8])(dW:VL w M v [x,y]):
 Calls prog 17 #[.pointer (some ⟨M,0,none⟩), .int .i64 (j:Int),v] w (dj M v0 pv v2 v3 v4 v5 v6 v7 v8 (aC ⟨nm,con,ab,rs⟩ [x,y]) w):=by
 have hV:=dW.more (Zc hM.lt)
 by_cases hi:x.isStr=true∧y.isStr=true
 ·cases x<;>cases y<;>first|(exfalso;obtain⟨h,k⟩:=hi;first|cases h;done|cases k;done)|skip
  rename_i a b;have e:aC ⟨nm,con,ab,rs⟩ [.str a, .str b]=aE (dK nm (kR a b)):=by simp [aC,hc,nF,b0,b1,At.isStr,At.isInt,At.t]
  rw [e];exact da (EN M v0 pv v2 v3 v4 v5 v6 v7 v8 j nm con ab rs hpt hc [.str a, .str b] rfl rfl v _ w a9 hM hV (fun ty rv w1 hb=>by rw [hc];exact Jl _ nm ab a b _ rv v (by unfold gI at hx;omega) (by unfold gI at hy;omega) w1 (hV.below hb))) (YL _)
 ·have e:aC ⟨nm,con,ab,rs⟩ [x,y]= .no:=by
   simp only [aC,hc,nF,b0,b1];rw [ze (fun h=>by simp at h),ze (by decide),ze (by decide),zh (by decide),ze (fun h=>by simp at h),ze (fun h=>hi h.2)]
  rw [e];have hk:aQ [x,y] [3,3]=false:=by cases x<;>cases y<;>first|rfl|(exfalso;exact hi ⟨rfl,rfl⟩)
  cases iP:aQ [x,y] [1,1]with
  |false=>exact du (EO M v0 pv v2 v3 v4 v5 v6 v7 v8 j nm con ab rs hpt hc [x,y] rfl iP v w a9 hM hV (fun ty rv w1 hb gq=>by rw [hc];exact sP M v0 pv v2 v3 v4 v5 v6 v7 v8 nm ab _ rv v x y hk w1 gq (hV.below hb)))
  |true=>exact du (EP M v0 pv v2 v3 v4 v5 v6 v7 v8 j nm con ab rs hpt hc [x,y] rfl iP v w a9 hM hV (fun ty rv w1 hb gq=>by rw [hc];exact sP M v0 pv v2 v3 v4 v5 v6 v7 v8 nm ab _ rv v x y hk w1 gq (hV.below hb)))
end Go.Proofs.YtcpmiplofbfmfaaGreatDoor
