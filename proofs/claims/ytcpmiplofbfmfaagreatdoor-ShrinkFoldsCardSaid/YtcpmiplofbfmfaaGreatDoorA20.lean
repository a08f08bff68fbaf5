/- The reference's decimal: the nearest real of a decimal. near -/
import Derived.Test.YtcpmiplofbfmfaaGreatDoorA19
set_option linter.all false
set_option maxRecDepth 100000
set_option maxHeartbeats 2000000
namespace Go.Proofs.YtcpmiplofbfmfaaGreatDoor
open Go.Proofs.Tryz
open Lib renaming hid→J
open Go.RowKit FloM
theorem XH(n:Nat):bl (10^n)≤4*n+1:=by
 rw [kl,zH,Nat.pow_mul];have h1:10^n≤(2^4)^n:=Nat.pow_le_pow_left (by decide) n
 have h2:0<10^n:=Zz (by decide)
 omega
theorem afS(vd:Value)(d n:Nat)(w:World)(hd:nd d≤10000)(hn:n≤6000)(ha:D w vd d):
 Calls prog 246 #[vd, .int .i64 (n:Int)] w (jq w (rq (d*tA (n:Int)*KK) (tB (n:Int)))):=by
 obtain⟨X,hX⟩: ∃X,ig (d*10^n) 0 0=X:=⟨_,rfl⟩;rw [←XO,hX];have HX:=J hX;clear hX;obtain⟨A,c,rfl⟩:=ha.shape;have HA:=J ha;have HT:=J (vL n);have Wr:=J (nu d (10^n));generalize hld:nd d=ld at *;have JW:=J hld;have JX:=J hd;clear hld ha hd;go_enter func246,ntmps246;go_wp2_with fail;refine(Kw n _ (by omega)).mono ?_
 rintro e w1 ⟨v1,rfl,j8,Qp,bW⟩;have rK:=J j8;have bp:=J bW;have qy:=bW.size;clear j8 Qp bW;go_wp2_with fail;refine(uJ _ v1 d (10^n) _ (by have:=JW.out;have:=JX.out;omega) (by have:=HT.out;omega) (HA.out.below bp.out) rK.out).mono ?_
 rintro e w2 ⟨v2,rfl,hv2,hf2,ba⟩;obtain⟨A2,c2,rfl⟩:=hv2.shape;have ln:=J hv2;have bM:=J ba;have hs2:=ba.size;clear hv2 hf2 ba;go_wp2_with fail;refine(kr false false _ (d*10^n) 0 _ (by have:=Wr.out;have:=HT.out;have:=JW.out;have:=JX.out;omega) (by omega) (by omega) ln.out).mono ?_
 rintro e w3 ⟨rfl,bq⟩;have dF:=J bq;clear bq;go_wp2_with fail;go_ret;have b1:=bp.out.trans (bM.out.mono qy);exact⟨by rw [HX.out];rfl,b1.trans (dF.out.mono (by omega))⟩
def ajy(d n L q r t X:Nat):Prop:=d*2^(L+128)/10^n=q∧d*2^(L+128)%10^n=r∧t=(decide (0<nd r)).toNat∧ig q (-((L:Int)+128)) t=X
theorem afT(vd:Value)(d n:Nat)(w:World)(hd:nd d≤10000)(JR:0<n)(hn:n≤6000)(ha:D w vd d):
 Calls prog 246 #[vd, .int .i64 (-(n:Int))] w (jq w (rq (d*tA (-(n:Int))*KK) (tB (-(n:Int))))):=by
 obtain⟨L,hL⟩: ∃L,bl (10^n)=L:=⟨_,rfl⟩;rw [←XP d n L hL,show(-((L+128:Nat):Int))= -((L:Int)+128)by omega]
 have hL2:L≤24001:=by have:=XH n;omega
 obtain⟨A,c,rfl⟩:=ha.shape;have HA:=J ha;have HT:=J (vL n);have HP:=J (show 0<10^n from Zz (by decide))
 have hqn:nd (d*2^(L+128)/10^n)≤20000:=by
  have:=jS (ZI (d*2^(L+128)) (10^n));have:=eC d (L+128);omega
 generalize hld:nd d=ld at *;have JW:=J hld;have JX:=J hd;have HL:=J hL;clear hld ha hd hL;generalize hq:d*2^(L+128)/10^n=q at *;generalize hr:d*2^(L+128)%10^n=r at *;generalize ht:(if r=0 then 0 else 1)=t at *
 have htt:t=(decide (0<nd r)).toNat:=by
  have:= @iR r;rw [←ht]
  by_cases h:r=0
  ·rw [zh h,zb (by omega)];rfl
  ·rw [ze h,zc (by omega)];rfl
 have HQN:=J hqn;obtain⟨X,hX⟩: ∃X,ig q (-((L:Int)+128)) t=X:=⟨_,rfl⟩;rw [hX];have HF:Hid (ajy d n L q r t X):=⟨hq,hr,htt,hX⟩;clear hq hr ht hqn hX htt;go_enter func246,ntmps246;go_wp2_with fail;refine(Kw n _ (by omega)).mono ?_
 rintro e w1 ⟨v1,rfl,j8,Qp,bW⟩;have rK:=J j8;have bp:=J bW;have qy:=bW.size;clear j8 Qp bW;go_wp2_with fail;refine(Bo v1 (10^n) _ (by have:=HT.out;omega) rK.out).mono ?_
 rintro e w1' ⟨rfl,rfl⟩;rw [HL.out];go_wp2_with fail;refine(gM _ d (L+128) _ _ (by have:=JW.out;have:=JX.out;omega) (by omega) (by go_num) (HA.out.below bp.out)).mono ?_
 rintro e w2 ⟨v2,rfl,hv2,hf2,ba⟩;have ln:=J hv2;have bM:=J ba;have hs2:=ba.size;clear hv2 hf2 ba;go_wp2_with fail;refine(sk v2 v1 (d*2^(L+128)) (10^n) _ (by have:=eC d (L+128);have:=JW.out;have:=JX.out;omega) (by have:=HT.out;omega) HP.out ln.out (rK.out.below bM.out)).mono ?_
 rintro e w3 ⟨v3,u3,rfl,ll,QR,_,_,bq⟩;obtain⟨hq,hr,htt,hX⟩:=HF.out;rw [hq]at ll;rw [hr]at QR;have HX:=J (htt▸hX);clear hq hr htt hX;obtain⟨A3,c3,rfl⟩:=ll.shape;obtain⟨A4,c4,rfl⟩:=QR.shape;have ou:=J ll;have dF:=J bq;have Cp:=bq.size;clear ll QR bq;go_wp2_with fail;refine(kr false (decide (0<nd r)) _ q (-((L:Int)+128)) _ HQN.out (by omega) (by omega) ou.out).mono ?_
 rintro e w4 ⟨rfl,cu⟩;have ce:=J cu;clear cu;go_wp2_with fail;go_ret;have b1:=bp.out.trans (bM.out.mono qy);have b2:=b1.trans (dF.out.mono (by omega))
 exact⟨by rw [HX.out];rfl,b2.trans (ce.out.mono (by omega))⟩
theorem Kz(vd:Value)(d:Nat)(s:Int)(w:World)(hd:nd d≤10000)(qy: -6000≤s)(hs2:s≤6000)(ha:D w vd d):
 Calls prog 246 #[vd, .int .i64 s] w (jq w (rq (d*tA s*KK) (tB s))):=by
 rcases Zy s 0 with h1|h1
 ·obtain⟨n,rfl⟩: ∃n:Nat,s= -(n:Int):=⟨(-s).toNat,by omega⟩
  exact afT vd d n w hd (by omega) (by omega) ha
 ·obtain⟨n,rfl⟩: ∃n:Nat,s=(n:Int):=⟨s.toNat,by omega⟩
  exact afS vd d n w hd (by omega) ha
theorem wF{w:World}{g g' i:Nat}{v x y z:Value}(h:w.cell? ⟨g,i,none⟩=some v)(fa:g≠g'):(tR w g' x y z).cell? ⟨g,i,none⟩=some v:=by
 unfold tR;have e: ∀j,(⟨g,i,none⟩:Addr)≠⟨g',j,none⟩:=fun j h=>fa (ZW Addr.block h)
 rw [ZF _ _ _ _ (e 2).symm,ZF _ _ _ _ (e 1).symm,ZF _ _ _ _ (e 0).symm];exact h
theorem KB{w4 w5:World}(h:Below w4.drew.heap.size w4.drew w5):w4.heap.size≤w5.heap.size:=h.size
theorem ajz{w4 w5:World}(h:Below w4.drew.heap.size w4.drew w5)(o:Obj):Below w4.heap.size w4 (w5.alloc o):=(((zg w4.heap.size w4).drew).trans h).alloc (KB h) o
theorem ajA{w4 w5:World}{o:Obj}(h:Below (w4.alloc o).drew.heap.size (w4.alloc o).drew w5):Below w4.heap.size w4 w5:=(((zg w4.heap.size w4).alloc (za _) o).drew).trans (h.mono (by show w4.heap.size≤(w4.alloc o).heap.size;simp))
def SA(w:World)(N:Nat)(e:Ending)(w':World):Prop:= ∃v,e= .returned v∧D w' v N∧Below w.heap.size w w'
theorem SB(vk vm:Value)(b:Bool)(k M o:Nat)(s P:Int)(w:World)(ho:o=1)(hk:k<2^60)(hM:nd M≤10)(qy: -2000≤s)(hs2:s≤2000)(Lo: -4000≤P)(QO:P≤4000)(hmk:D w vk k)(hm:D w vm M):
 Calls prog 247 #[vk, .int .i64 s, .agg #[.bool b,vm, .int .i64 P]] w (SA w (if(M*2)*tB s*2^P.toNat<(k+(k+o))*tA s*2^(-P).toNat∨((k+(k+o))*tA s*2^(-P).toNat=(M*2)*tB s*2^P.toNat∧k%2=0)then k else k+o)):=by
 obtain⟨X,hX⟩: ∃X,X=(k+(k+o))*tA s*2^(-P).toNat:=⟨_,rfl⟩;obtain⟨Y,hY⟩: ∃Y,Y=(M*2)*tB s*2^P.toNat:=⟨_,rfl⟩;rw [←hX,←hY];obtain⟨R,hR⟩: ∃R,R=(if Y<X∨(X=Y∧k%2=0)then k else k+o):=⟨_,rfl⟩
 rw [←hR];have HX:=J hX;have HY:=J hY;have HR:=J hR;clear hX hY hR;obtain⟨B,c,rfl⟩:=hm.shape;obtain⟨B1,c1,rfl⟩:=hmk.shape;have HM:=J hm;have HK:=J hmk;have Qq:nd k≤4:=kt (by omega)
 have HAO:=J (show nd (k+o)≤4 from kt (by omega))
 have HKO:=J (show nd (k+(k+o))≤4 from kt (by omega))
 have oo:=J (show nd o≤1 by rw [ho];decide)
 generalize Vr:nd M=lm at *;generalize Lt:nd k=lk at *;have pz:=J Vr;have HLK:=J Lt;have pD:=J hM;have HNK:=J Qq;have HHK:=J hk;clear Vr hm hM hmk Lt hk Qq;go_enter func247,ntmps247;have dx:=ai.new w 198 #[.bool b, .slice B lm c, .int .i64 P];have jA:ai ((w.alloc (.cells #[.bool b, .slice B lm c, .int .i64 P] 198)).alloc (.cells #[.int .u16 1] 254)) w.heap.size 198 #[.bool b, .slice B lm c, .int .i64 P]:=dx.alloc (.cells #[.int .u16 1] 254)
 have mW:D ((w.alloc (.cells #[.bool b, .slice B lm c, .int .i64 P] 198)).alloc (.cells #[.int .u16 1] 254)) (.slice (some ⟨w.heap.size+1,0,none⟩) 1 1) o:=by
  rw [ho];have:=sl (w.alloc (.cells #[.bool b, .slice B lm c, .int .i64 P] 198))
  simpa using this
 clear ho;have hW:=iS w (.cells #[.bool b, .slice B lm c, .int .i64 P] 198) (.cells #[.int .u16 1] 254);go_wp2_with fail;generalize hWW:(w.alloc (.cells #[.bool b, .slice B lm c, .int .i64 P] 198)).alloc (.cells #[.int .u16 1] 254)=W at *;have tu:=J jA;have ux:=J (HM.out.below hW);have HKW:=J (HK.out.below hW);have yH:=J mW;have HW:=J hW;have x_:=hW.size;have hlW:=jA.lt;clear dx jA mW hW hWW;refine(Di _ _ k o _ (by have:=HLK.out;have:=HNK.out;omega) (by have:=oo.out;omega) HKW.out yH.out).mono ?_
 rintro e w3 ⟨v3,rfl,ll,JP,bq⟩;have ou:=J ll;have dF:=J bq;have Cp:=bq.size;have Wd:=J (tu.out.below bq hlW);clear ll JP bq;go_wp2_with fail;refine(Di _ v3 k (k+o) _ (by have:=HLK.out;have:=HNK.out;omega) (by have:=HAO.out;omega) (HKW.out.below dF.out) ou.out).mono ?_
 rintro e w4 ⟨v4,rfl,vg,Wi,cu⟩;have yE:=J vg;have ce:=J cu;have Y_:=cu.size;have hX4:=Wd.out.below cu Wd.out.lt;have jC:=J hX4;have k6:Below w.heap.size w w4:=(HW.out.trans (dF.out.mono x_)).trans (cu.mono (by omega))
 have aec:=J k6;have HM4:=J (show D w4.drew _ M from HM.out.below k6.drew)
 have ag1:=J (show D (w4.alloc (.cells #[.bool false, .slice none 0 0, .int .i64 0] 198)).drew _ M from HM.out.below (k6.alloc (by omega) _).drew)
 have aea:=J (show ai w4.drew w.heap.size 198 _ from hX4.drew)
 have ad9:=J (show ai (w4.alloc (.cells #[.bool false, .slice none 0 0, .int .i64 0] 198)).drew w.heap.size 198 _ from(hX4.alloc _).drew)
 have aeb:=J (show ai (w4.alloc (.cells #[.bool false, .slice none 0 0, .int .i64 0] 198)).drew w4.heap.size 198 _ from(ai.new w4 _ _).drew)
 clear vg Wi cu hX4 k6;obtain⟨c0,c1,c2⟩:=aH jC.out;have h4:w.heap.size<w4.heap.size:=jC.out.lt;go_wp2_with fail
 go_cut [9] (fun p wx=> ∃g v2,p= .pointer (some ⟨g,0,none⟩)∧w4.heap.size≤g∧ai wx g 198 #[.bool false,v2, .int .i64 P]∧D wx v2 (M*2^1)∧Below w4.heap.size w4 wx)
 case first=>
  go_region_held3 (fun w'=>w'.cell? ⟨w.heap.size,1,none⟩=some (.slice B lm c)∧w'.cell? ⟨w.heap.size,2,none⟩=some (.int .i64 P)) (first|go_keep|exact K5.out|exact(aH (U8.out.alloc _)).2|exact⟨wF K5.out.1 (by omega),wF K5.out.2 (by omega)⟩)
   (first
    |(go_at_call 239;refine(gM _ M 1 1 _ (by have:=pz.out;have:=pD.out;omega) (by omega) rfl HM4.out).mono ?_;rintro e w5 ⟨v5,rfl,ow,Fz,bT⟩;obtain⟨A5,k5,rfl⟩:=ow.shape;have HF5:=J Fz;have ya:=J ow;have U8:=J (aea.out.below bT aea.out.lt);have K5:=J (aH U8.out).2;have fE:=J bT;clear ow bT Fz)
    |(go_at_call 239;refine(gM _ M 1 1 _ (by have:=pz.out;have:=pD.out;omega) (by omega) rfl ag1.out).mono ?_;rintro e w5 ⟨v5,rfl,ow,Fz,bT⟩;obtain⟨A5,k5,rfl⟩:=ow.shape;have HF5:=J Fz;have ya:=J ow;have U8:=J (ad9.out.below bT ad9.out.lt);have HXN:=J (aeb.out.below bT aeb.out.lt);obtain⟨r50,r51,r52⟩:=aH HXN.out;obtain⟨q50,q51,q52⟩:=ku HXN.out;have K5:=J (aH U8.out).2;have fE:=J bT;clear ow bT Fz))
  all_goals (go_wp2_with fail;go_meet)
  all_goals
   first
    |exact⟨w5.heap.size,_,rfl,KB fE.out,ai.new w5 _ _,ya.out.below ((zg _ _).alloc (za _) _),ajz fE.out _⟩
    |exact⟨w4.heap.size,_,rfl,za _,kw HXN.out,ya.out.set3 (fun h=>by have:=HF5.out _ h;simp at this;omega),gH (ajA fE.out) (za _)⟩
 case rest=>
  obtain⟨g,v2,rfl,iE,Vj,hv2,bu⟩:=hcut;obtain⟨e0,e1,e2⟩:=aH Vj;have ln:=J hv2;have fE:=J bu;have ak0:=J (yE.out.below bu);have FB:=bu.size;clear hv2 bu Vj c0 c1 c2 HM4 ag1 aea ad9 aeb;go_wp2_with fail;refine(uK v4 v2 false (k+(k+o)) (M*2^1) s P _ (by have:=HKO.out;omega) (by have:=eC M 1;have:=pz.out;have:=pD.out;omega) qy hs2 Lo QO ak0.out ln.out).mono ?_
  rintro e w6 ⟨rfl,fC⟩;rw [Nat.pow_one,←HX.out,←HY.out];have vY:=fC.size;have JV:Below w.heap.size w w6:=(aec.out.trans (fE.out.mono (by omega))).trans (fC.mono (by omega))
  have lS:=J JV;have HK6:=J (HK.out.below JV);have Vt:=J (((ou.out.below ce.out).below fE.out).below fC);clear fC JV e0 e1 e2
  rcases ZG X Y with h|h|h
  ·have oj:=J (show R=k+o from by rw [HR.out,ze (by omega)])
   rw [vJ h];clear h;go_wp2_with fail;go_ret;exact⟨v3,rfl,by rw [oj.out];exact Vt.out,lS.out⟩
  ·by_cases h2:k%2=0
   ·have oj:=J (show R=k from by rw [HR.out,zh (.inr ⟨h,h2⟩)])
    have d2:((k:Int)%2==0)=true:=by rw [Zr];omega
    rw [sj h];clear h h2;go_wp2_with (go_at_call 241;refine(lD _ k _ (by have:=HHK.out;omega) HK6.out).mono ?_;rintro e w' ⟨rfl,rfl⟩)
    go_ret;exact⟨_,rfl,by rw [oj.out];exact HK6.out,lS.out⟩
   ·have oj:=J (show R=k+o from by rw [HR.out,ze (by omega)])
    have d2:((k:Int)%2==0)=false:=by rw [zf];omega
    rw [sj h];clear h h2;go_wp2_with (go_at_call 241;refine(lD _ k _ (by have:=HHK.out;omega) HK6.out).mono ?_;rintro e w' ⟨rfl,rfl⟩)
    go_ret;exact⟨v3,rfl,by rw [oj.out];exact Vt.out,lS.out⟩
  ·have oj:=J (show R=k from by rw [HR.out,zh (.inl h)])
   rw [vK h];clear h;go_wp2_with fail;go_ret;exact⟨_,rfl,by rw [oj.out];exact HK6.out,lS.out⟩
def SC(M:Nat)(P e:Int):Prop:=tA e*2^(-P).toNat≤M*tB e*2^P.toNat
theorem KC(M:Nat)(P e:Int)(o:Nat)(ho:o=1):cW (o*tA e*2^(-P).toNat) (M*tB e*2^P.toNat)≤0↔SC M P e:=by
 rw [KE,ho,zP];rfl
def SD(w:World)(M:Nat)(P:Int)(e:Ending)(w':World):Prop:= ∃x:Int,e= .returned (.int .i64 x)∧¬SC M P x∧SC M P (x-1)∧ -400≤x∧x≤310∧Below w.heap.size w w'
theorem XI(vm:Value)(b:Bool)(M o L:Nat)(P g:Int)(w:World)(ho:o=1)(hL:bl M=L)(hL2:L≤64)(hM:nd M≤10)(Lo: -1100≤P)(QO:P≤1100)
 (hg:g=jK ((L:Int)+P)) (qC: -400≤g) (xX:g≤310) (h0:SC M P (g-1)) (h9: ∀e:Int,310≤e→¬SC M P e) (hm:D w vm M):
 Calls prog 243 #[.agg #[.bool b,vm, .int .i64 P]] w (SD w M P):=by
 obtain⟨B,c,rfl⟩:=hm.shape;have HM:=J hm;generalize Vr:nd M=lm at *;have pz:=J Vr;have pD:=J hM;have HL:=J hL;have oo:=J (show nd o≤1 by rw [ho];decide)
 have HO:=J ho;have HPL:=J (fun e:Int=>KC M P e o ho)
 have H0:=J h0;have H9:=J h9;have t1:(((L:Int)+P)*30103).tdiv 100000=g+2:=by rw [hg];unfold jK;omega
 have hgg:IntKind.i64.wrap (IntKind.i64.wrap ((IntKind.i64.wrap (IntKind.i64.wrap ((L:Int)+P)*30103)).tdiv 100000)-2)=g:=by
  rw [Zs ((L:Int)+P) (by omega),Zs (((L:Int)+P)*30103) (by omega),t1,Zs (g+2) (by omega),Zs (g+2-2) (by omega)]
  omega
 clear Vr hm hM hL h0 h9 hg ho t1;go_enter func243,ntmps243;go_wp2_with fail;have dx:=ai.new w 198 #[.bool b, .slice B lm c, .int .i64 P];obtain⟨c0,c1,c2⟩:=aH dx;have hW:Below w.heap.size w (w.alloc (.cells #[.bool b, .slice B lm c, .int .i64 P] 198)):=(zg _ _).alloc (za _) _;generalize w.alloc (.cells #[.bool b, .slice B lm c, .int .i64 P] 198)=W at *;have HW:=J hW;have tu:=J dx;have ux:=J (show D W.drew _ M from HM.out.below hW.drew)
 have x_:=hW.size;have hlW:=dx.lt;clear hW dx
 go_region_held3 (fun w'=>w'.cell? ⟨w.heap.size,1,none⟩=some (.slice B lm c)∧w'.cell? ⟨w.heap.size,2,none⟩=some (.int .i64 P)) (first|go_keep|exact⟨c1,c2⟩)
  (first
   |(go_at_call 240;refine(Bo _ M _ (by have:=pz.out;have:=pD.out;omega) ux.out).mono ?_;rintro e w3 ⟨rfl,rfl⟩;rw [HL.out]))
 clear c0 c1 c2;go_wp2_with fail
 go_loopw [3] (fun i wr=> ∃e:Int,i= .int .i64 e∧g≤e∧e≤310∧SC M P (e-1)∧Below W.heap.size W wr) (fun i _=>(400-intOf i).toNat)
 case atStart=>exact⟨g,rfl,Int.le_refl _,xX,H0.out,(zg _ _).drew⟩
 case round=>
  obtain⟨x,rfl,gY,hx2,hx3,bu⟩:=hrel;have Wd:=J hx3;have hbx:=tu.out.below bu hlW;have gZ:Below w.heap.size w wr:=HW.out.trans (bu.mono x_);have hs:=bu.size;have ag3:=hbx.alloc (.cells #[.int .u16 1] 254);have mW:D (wr.alloc (.cells #[.int .u16 1] 254)) (.slice (some ⟨wr.heap.size,0,none⟩) 1 1) o:=by rw [HO.out];exact sl wr
  obtain⟨c0,c1,c2⟩:=aH ag3;have yH:=J mW;have HB:=J bu;have HMR:=J (show D (wr.alloc (.cells #[.int .u16 1] 254)) _ M from HM.out.below (gZ.alloc (by omega) _))
  clear mW bu gZ hbx ag3 hx3;go_wp2_with fail;refine(uK _ _ b o M x P _ (by have:=oo.out;omega) (by have:=pz.out;have:=pD.out;omega) (by omega) (by omega) (by omega) (by omega) yH.out HMR.out).mono ?_
  rintro e w2 ⟨rfl,ba⟩;have hp:=HPL.out x;generalize cW (o*tA x*2^(-P).toNat) (M*tB x*2^P.toNat)=z at *;have bM:=J ((HB.out.alloc hs _).trans (ba.mono (by simp;omega)))
  clear ba c0 c1 c2
  by_cases hz:z≤0
  ·have hx4:=hp.1 hz
   have hx5:x≤309:=by
    rcases Zy x 310 with h|h
    ·omega
    ·exact absurd hx4 (H9.out x h)
   have jC:=J hx4;clear hp hx4;go_wp2_with fail
   go_roundw
   case rel=>exact⟨x+1,by go_num,by omega,by omega,by rw [Int.add_sub_cancel];exact jC.out,bM.out⟩
   case measure=>simp [intOf];omega
  ·have hx4: ¬SC M P x:=fun h=>hz (hp.2 h)
   have jC:=J hx4;clear hp hx4;go_wp2_with fail;go_ret;exact⟨x,rfl,jC.out,Wd.out,by omega,hx2,HW.out.trans (bM.out.mono x_)⟩
theorem MD(vm:Value)(b:Bool)(M:Nat)(P:Int)(w:World)(h0:M≠0)(hL2:bl M≤64)(Lo: -1074≤P)(QO:(bl M:Int)+P≤1024)(h9: ∀e:Int,310≤e→¬SC M P e)
 (ag4: ∀e:Int,SC M P e→SC M P (e-1)) (hm:D w vm M):
 Calls prog 243 #[.agg #[.bool b,vm, .int .i64 P]] w (SD w M P):=by
 have hb:=Gv h0;have hM:nd M≤4:=kt (zy ((kl M (bl M)).1 (za _)) (zF (by decide) hL2))
 have hg:=Dq M P h0 (by omega) (by omega)
 have qC: -400≤jK ((bl M:Int)+P)∧jK ((bl M:Int)+P)≤310:=by
  unfold jK
  rcases Zy ((bl M:Int)+P) 0 with h|h
  ·obtain⟨y,hy⟩: ∃y:Int,(bl M:Int)+P= -y:=⟨-((bl M:Int)+P),by omega⟩
   rw [hy,Int.neg_mul,Int.neg_tdiv,ZH (by omega)]
   omega
  ·rw [ZH (by omega)]
   omega
 exact XI vm b M 1 (bl M) P _ w rfl rfl hL2 (by omega) (by omega) (by omega) rfl qC.1 qC.2 (ag4 _ hg) h9 hm
set_option maxHeartbeats 400000
theorem yh(n:Int):floatOfInt FloatKind.f64 n=Bc n:=CY n
theorem XY(n:Int)(w:World):
 Calls prog 93 #[.int .i64 n] w fun e w'=>e= .returned (.float .f64 (Bc n))∧w=w':=by
 rw [←yh];go_enter func93,ntmps93
 go_wp2
 go_ret;exact⟨rfl,rfl⟩
theorem acH{u v:Nat}(h:(FloatKind.f64.format.order u v==some Ordering.lt)=true):gw u v= -1:=by
 rw [vG];rw [VY]at h;revert h;cases Ieee.double.order u v with
 |none=>intro h;cases h
 |some o=>cases o<;>intro h<;>first|rfl|cases h
theorem acI{u v:Nat}(h:(FloatKind.f64.format.order u v==some Ordering.gt)=true):gw u v=1:=by
 rw [vG];rw [VY]at h;revert h;cases Ieee.double.order u v with
 |none=>intro h;cases h
 |some o=>cases o<;>intro h<;>first|rfl|cases h
theorem cmp_eq{u v:Nat}(h:(FloatKind.f64.format.order u v==some Ordering.eq)=true):gw u v=0:=by
 rw [vG];rw [VY]at h;revert h;cases Ieee.double.order u v with
 |none=>intro h;cases h
 |some o=>cases o<;>intro h<;>first|rfl|cases h
theorem acJ{u v:Nat}(h1:(FloatKind.f64.format.order u v==some Ordering.lt)=false)(h2:(FloatKind.f64.format.order u v==some Ordering.gt)=false)(h3:(FloatKind.f64.format.order u v==some Ordering.eq)=false):gw u v=2:=by
 rw [vG];rw [VY]at h1 h2 h3;revert h1 h2 h3;cases Ieee.double.order u v with
 |none=>intros;rfl
 |some o=>cases o<;>intro h1 h2 h3<;>first|(cases h1;done)|(cases h2;done)|(cases h3;done)
theorem uN(u v:Nat)(w:World):
 Calls prog 48 #[.float .f64 u, .float .f64 v] w fun e w'=>e= .returned (.int .i64 (gw u v))∧w=w':=by
 go_enter func48,ntmps48
 go_wp2
 ·go_ret;exact⟨jW (acH ‹_›).symm,rfl⟩
 ·go_ret;exact⟨jW (acI ‹_›).symm,rfl⟩
 ·go_ret;exact⟨jW (cmp_eq ‹_›).symm,rfl⟩
 ·go_ret;exact⟨jW (acJ ‹_› ‹_› ‹_›).symm,rfl⟩
theorem XZ(u v:Nat)(w:World):
 Calls prog 45 #[.float .f64 u, .float .f64 v] w fun e w'=> ∃z n,e= .returned (.float .f64 z)∧Tb (Ieee.double.sub u v) z∧w'=w.drewN n:=by
 cases hr:Ieee.double.sub u v with
 |some a=>
  have hw:a<2^64:=lG _ ⟨u,v,by simp⟩ a hr
  have lr:=fun(w:World) (t:TypeId)=>run_float_arith (P:=prog) w .sub t .f64 u v a hr
  have Ct:=J hr;clear hr;go_enter func45,ntmps45
  go_wp2
  go_ret;exact⟨a,0,rfl,⟨hw,rfl⟩,rfl⟩
 |none=>
  obtain⟨z,hz,lr⟩:=jh (P:=prog) w .sub 75 u v (by simp) hr
  have hz':=J hz;clear hz hr;go_enter func45,ntmps45
  go_wp2
  go_ret;exact⟨z,1,rfl,hz'.out,rfl⟩
theorem X0(u v:Nat)(w:World):
 Calls prog 46 #[.float .f64 u, .float .f64 v] w fun e w'=> ∃z n,e= .returned (.float .f64 z)∧Tb (Ieee.double.mul u v) z∧w'=w.drewN n:=by
 cases hr:Ieee.double.mul u v with
 |some a=>
  have hw:a<2^64:=lG _ ⟨u,v,by simp⟩ a hr
  have lr:=fun(w:World) (t:TypeId)=>run_float_arith (P:=prog) w .mul t .f64 u v a hr
  have Ct:=J hr;clear hr;go_enter func46,ntmps46
  go_wp2
  go_ret;exact⟨a,0,rfl,⟨hw,rfl⟩,rfl⟩
 |none=>
  obtain⟨z,hz,lr⟩:=jh (P:=prog) w .mul 75 u v (by simp) hr
  have hz':=J hz;clear hz hr;go_enter func46,ntmps46
  go_wp2
  go_ret;exact⟨z,1,rfl,hz'.out,rfl⟩
theorem X5(u v:Nat)(w:World):
 Calls prog 47 #[.float .f64 u, .float .f64 v] w fun e w'=> ∃z n,e= .returned (.float .f64 z)∧Tb (Ieee.double.div u v) z∧w'=w.drewN n:=by
 cases hr:Ieee.double.div u v with
 |some a=>
  have hw:a<2^64:=lG _ ⟨u,v,by simp⟩ a hr
  have lr:=fun(w:World) (t:TypeId)=>run_float_arith (P:=prog) w .quo t .f64 u v a hr
  have Ct:=J hr;clear hr;go_enter func47,ntmps47
  go_wp2
  go_ret;exact⟨a,0,rfl,⟨hw,rfl⟩,rfl⟩
 |none=>
  obtain⟨z,hz,lr⟩:=jh (P:=prog) w .quo 75 u v (by simp) hr
  have hz':=J hz;clear hz hr;go_enter func47,ntmps47
  go_wp2
  go_ret;exact⟨z,1,rfl,hz'.out,rfl⟩
theorem X8(u:Nat)(hu:u<2^64)(w:World):
 Calls prog 34 #[.float .f64 u] w fun e w'=>e= .returned (.float .f64 (wT u))∧w=w':=by
 rcases zj cap (rg u)with h|h
 ·have hc:wT u=u:=zh h
  rw [hc];have hn:=nz h;go_enter func34,ntmps34
  go_wp2
  go_ret;exact⟨rfl,rfl⟩
 ·have hc:wT u=qL (aw u):=by unfold wT aw;rw [ze (by omega),ze (by omega)]
  rw [hc];have hn:=wS h;have hb:=tU (aw u) (sy hu);clear hc;generalize qL (aw u)=r at *;go_enter func34,ntmps34;go_wp2_with (first|(go_at_call 81;refine(il _ _).mono ?_;rintro e w' ⟨rfl,rfl⟩)|(go_at_call 32;go_simp;refine(sx _ _).mono ?_;rintro e w' ⟨rfl,rfl⟩))
  go_ret;exact⟨rfl,rfl⟩
set_option maxHeartbeats 1600000
abbrev QF(p:Int×Int):Ending:= .returned (.tuple #[.int .i64 p.1, .int .i64 p.2])
theorem Te(u:Nat)(w:World)(h:cap<rg u):Calls prog 82 #[.float .f64 u] w fun e w'=>e=QF (0,20)∧w=w':=by
 have hn:=nz h;go_enter func82,ntmps82
 go_wp2
 go_ret2
 exact⟨rfl,rfl⟩
def Tf(o1 o2:Ordering)(k:Int):Int×Int:=match o1,o2 with| .lt,_=>(0,10)|_, .lt=>(k,0)|_,_=>(0,10)
theorem Dy(u:Nat)(w:World)(h:rg u≤cap)(o1 o2:Ordering)(k:Int)(h1:FloatKind.f64.format.order u 14109777632551763968=some o1)(h2:FloatKind.f64.format.order u 4886405595696988160=some o2)
 (hk:floatToIntVal .f64 u .i64=some k∨o2≠ .lt∨o1= .lt):Calls prog 82 #[.float .f64 u] w fun e w'=>e=QF (Tf o1 o2 k)∧w=w':=by
 have hn:=wS h
 by_cases hin:o2≠ .lt∨o1= .lt
 ·clear hk
  cases o1<;>cases o2<;>first|(exfalso;revert hin;decide)|skip
  all_goals
   clear hin;go_enter func82,ntmps82
   go_wp2
   go_ret2
   exact⟨rfl,rfl⟩
 ·have hc: ∀w,(convert 75 2 (.float .f64 u)).run prog w= .ok (.int .i64 k) w:=fun w=>
   run_convert_float_int (P:=prog) w 75 2 .f64 .i64 u k (by kernel_rfl) (by kernel_rfl) (hk.resolve_right hin)
  clear hk
  cases o1<;>cases o2<;>first|(exfalso;apply hin;decide)|skip
  all_goals
   clear hin;go_enter func82,ntmps82
   go_wp2
   go_ret2
   exact⟨rfl,rfl⟩
theorem M3(s:Bool)(t:Nat):cap<rg (Ieee.double.write (.nan s (Ieee.double.quiet t))):=by
 have hf:Ieee.double.binade=2^52:=rfl;have hq:Ieee.double.quiet t=t|||2^51:=rfl;simp only [Ieee.Format.write,hf,hq,cP,eX]
 have bw:cap+(t|||2^51)%2^52<2^63:=by
  have:=zU (t|||2^51) (show 2^52>0 by decide)
  have hc:cap=2047*2^52:=rfl;omega
 rw [Ke _ _ bw]
 have hb:((t|||2^51)%2^52).testBit 51=true:=by
  rw [Nat.testBit_mod_two_pow,Nat.testBit_or,Nat.testBit_two_pow_self];simp
 have:(t|||2^51)%2^52≠0:=by intro h0;rw [h0]at hb;simp at hb
 omega
theorem l9(name:String)(ch:Ieee.Toward)(x:Nat): ∃q:Question,q.forced=false∧Extern.MathFloor.toIntegral name ch #[.float .f64 x]=
 (match FloatKind.f64.decode x with
 | .nan s t=>
   if FloatKind.f64.format.quiet t=t then pure (.float .f64 x)else(do
   let kept←choose q
   pure (.float .f64 (if kept==1 then x else FloatKind.f64.encode (.nan s (FloatKind.f64.format.quiet t)))))
 |d=>pure (.float .f64 (FloatKind.f64.encode (d.integral ch)))):=⟨_,by rfl,rfl⟩
theorem jX(name:String)(ch:Ieee.Toward)(u:Nat)(h:cap<rg u)(P:Program)(w:World):
 ∃z n,cap<rg z∧(Extern.MathFloor.toIntegral name ch #[.float .f64 u]).run P w= .ok (.float .f64 z) (w.drewN n):=by
 have hd:FloatKind.f64.decode u= .nan (bP u) (rg u-cap):=fb h;obtain⟨q,hq,he1⟩:=l9 name ch u;rw [he1,hd];simp only
 split
 ·exact⟨u,0,h,rfl⟩
 ·simp only [Sem.run_bind,run_choose_drew]
  simp only [hq,zJ,ZD,Result.andThen_ok,Sem.run_pure];refine⟨_,1,?_,rfl⟩
  split
  ·exact h
  ·exact M3 _ _
theorem jY(name:String)(ch:Ieee.Toward)(u:Nat)(h:rg u=cap)(P:Program)(w:World):
 (Extern.MathFloor.toIntegral name ch #[.float .f64 u]).run P w= .ok (.float .f64 (wd (bP u) cap)) w:=by
 have hd:FloatKind.f64.decode u= .infinity (bP u):=cz h
 have he:FloatKind.f64.encode (.infinity (bP u))=wd (bP u) cap:=by
  show Ieee.double.write _=_;simp only [Ieee.Format.write,cP,eX]
 obtain⟨q,hq,he1⟩:=l9 name ch u;rw [he1,hd];simp only [Ieee.Datum.integral,he]
 rfl
theorem jZ(name:String)(ch:Ieee.Toward)(u:Nat)(h:rg u<cap)(P:Program)(w:World):
 ∃r,r<cap∧val r=iv ch u*KK∧(Extern.MathFloor.toIntegral name ch #[.float .f64 u]).run P w= .ok (.float .f64 (wd (bP u) r)) w:=by
 obtain⟨r,hr,hv,hw⟩:=wj h ch;refine⟨r,hr,hv,?_⟩;have hd:FloatKind.f64.decode u= .number (bP u) (mg (rg u)) (-1074+(up (rg u):Int)):=bN h;have he:FloatKind.f64.encode ((FloatKind.f64.decode u).integral ch)=wd (bP u) r:=hw;rw [hd]at he;obtain⟨q,hq,he1⟩:=l9 name ch u;rw [he1,hd];simp only;rw [he]
 rfl
theorem aaX:sv 4886405595696988160=4611686018427387904*(KK:Int):=by
 have h1:bP 4886405595696988160=false:=by decide
 have h2:rg 4886405595696988160=4886405595696988160:=by decide
 have h3:mg 4886405595696988160=2^52:=by decide
 have h4:up 4886405595696988160=1084:=by decide
 unfold sv;rw [h1,h2,cH,h3,h4,kk,show(1084:Nat)=10+my by rw [kj],zu 2 10 my]
 simp only [zJ,ZD];generalize 2^my=x;omega
theorem afZ:sv 14109777632551763968= -4611686018427387904*(KK:Int):=by
 have h:=aaX;have h1:bP 14109777632551763968=true:=by decide
 have h2:bP 4886405595696988160=false:=by decide
 have h3:rg 14109777632551763968=rg 4886405595696988160:=by decide
 unfold sv at h⊢;rw [h2]at h;rw [h1,h3];simp only [zJ,ZD,Ic]at h⊢;generalize(KK:Int)=x at *;omega
theorem X9(v:Nat)(k:Int)(hv:rg v≤cap)(hk:sv v=k*(KK:Int)):
 FloatKind.f64.format.order v 14109777632551763968=some (compare k (-4611686018427387904))∧
 FloatKind.f64.format.order v 4886405595696988160=some (compare k 4611686018427387904):=by
 have c1:rg 14109777632551763968≤cap:=by decide
 have c2:rg 4886405595696988160≤cap:=by decide
 refine⟨?_,?_⟩
 ·rw [VY,mD hv c1,hk,afZ,oE _ _ _ gG]
 ·rw [VY,mD hv c2,hk,aaX,oE _ _ _ gG]
theorem Tg(k:Int):Tf (compare k (-4611686018427387904)) (compare k 4611686018427387904) k=
 if k< -4611686018427387904∨4611686018427387904≤k then(0,10)else(k,0):=by
 rcases Int.lt_trichotomy k (-4611686018427387904)with h|h|h
 ·rw [ZC.2 h,zh (.inl h)];rfl
 ·rw [ze (by omega),Int.compare_eq_eq.2 h,ZC.2 (by omega)];rfl
 ·rw [Il.2 h]
  rcases Zy k 4611686018427387904 with h2|h2
  ·rw [ZC.2 h2,ze (by omega)];rfl
  ·rw [zh (.inr h2)]
   rcases Int.lt_or_eq_of_le h2 with h3|h3
   ·rw [Il.2 h3];rfl
   ·rw [Int.compare_eq_eq.2 h3.symm];rfl
theorem Th{v:Nat}{k:Int}(hv:rg v<cap)(hk:sv v=k*(KK:Int))(h1: -4611686018427387904≤k)(h2:k<4611686018427387904):
 floatToIntVal .f64 v .i64=some k:=by
 have hi:(FloatKind.f64.decode v).integral .zero= .number (bP v) (iv .zero v) 0:=sb hv .zero
 have hs:Ieee.signed (bP v) (iv .zero v) 0=k:=by
  rw [yR];have hp:=gG;have Fh:val (rg v)=k.natAbs*KK:=by rw [←yS,hk,Int.natAbs_mul,Int.natAbs_natCast]
  have:iv .zero v=k.natAbs:=by
   unfold iv rj;rw [Fh,Nat.mul_div_cancel _ hp]
  rw [this,Zl,Zj];unfold sv at hk;rw [Fh]at hk
  cases hsg:bP v
  ·rw [hsg]at hk
   simp only [zJ,ZD]at hk⊢
   have:0≤k:=by
    rcases Zy k 0 with h|h
    ·have:=Int.mul_neg_of_neg_of_pos h (show(0:Int)<(KK:Int)by omega);omega
    ·exact h
   omega
  ·rw [hsg]at hk
   simp only [Ic]at hk⊢
   have:k≤0:=by
    rcases Zy 0 k with h|h
    ·have:=Int.mul_pos h (show(0:Int)<(KK:Int)by omega);omega
    ·exact h
   omega
 unfold floatToIntVal Ieee.Datum.toInt;rw [hi];simp only [hs];rw [zh];exact⟨by simp [IntKind.min,IntKind.signed,IntKind.bits];omega,by simp [IntKind.max,IntKind.signed,IntKind.bits];omega⟩
theorem Dz{u:Nat}(ch:Ieee.Toward)(h:cap<rg u):lg ch u=(0,20):=by unfold lg;rw [zh h]
theorem lH{u:Nat}(ch:Ieee.Toward)(h:rg u=cap):lg ch u=(0,10):=by unfold lg;rw [ze (by omega),zh h]
theorem DB{u:Nat}(ch:Ieee.Toward)(h:rg u<cap):lg ch u=Tf (compare (ii ch u) (-4611686018427387904)) (compare (ii ch u) 4611686018427387904) (ii ch u):=by
 unfold lg;rw [ze (by omega),ze (by omega),Tg]
theorem Ti(s:Bool)(w:World):Calls prog 82 #[.float .f64 (wd s cap)] w fun e w'=>e=QF (0,10)∧w=w':=by
 have hr:rg (wd s cap)=cap:=Ke _ _ np;have hs:bP (wd s cap)=s:=F_ _ _ np;have c1:rg 14109777632551763968<cap:=by decide
 have c2:rg 4886405595696988160<cap:=by decide
 have o1:FloatKind.f64.format.order (wd s cap) 14109777632551763968=some (if s then .lt else .gt):=by
  rw [VY];unfold Ieee.Format.order;rw [cz hr,bN c1,hs];rfl
 have o2:FloatKind.f64.format.order (wd s cap) 4886405595696988160=some (if s then .lt else .gt):=by
  rw [VY];unfold Ieee.Format.order;rw [cz hr,bN c2,hs];rfl
 have:=Dy (wd s cap) w (by omega) _ _ 0 o1 o2 (by cases s<;>simp)
 cases s<;>exact this
theorem sz{u r:Nat}(ch:Ieee.Toward)(w:World)(h:rg u<cap)(hr:r<cap)(hv:val r=iv ch u*KK):Calls prog 82 #[.float .f64 (wd (bP u) r)] w fun e w'=>e=QF (lg ch u)∧w=w':=by
 have Fg:=np;have hr2:rg (wd (bP u) r)=r:=Ke _ _ (by omega)
 have hs:sv (wd (bP u) r)=ii ch u*(KK:Int):=by
  rw [afJ (by omega),hv]
  unfold ii
  split
  ·rw [Zd,Int.neg_mul]
  ·exact Zd _ _
 obtain⟨o1,o2⟩:=X9 _ _ (by omega) hs
 rw [DB ch h];refine Dy _ w (by omega) _ _ _ o1 o2 ?_
 by_cases h1:ii ch u< -4611686018427387904
 ·exact .inr (.inr (ZC.2 h1))
 by_cases h2:ii ch u<4611686018427387904
 ·exact .inl (Th (by omega) hs (by omega) h2)
 ·refine .inr (.inl fun h3=> ?_)
  have:=ZC.1 h3;omega
theorem Tj(u:Nat)(w:World):(callFunc 145 #[.float .f64 u]).run prog w=((Extern.MathFloor.toIntegral "math.archFloor" .down #[.float .f64 u]).run prog w).andThen fun v w'=> .ok (.value v) w':=
 run_callFunc_extern func145 (by kernel_rfl) (by kernel_rfl) (by kernel_rfl) (by kernel_rfl) _ w
theorem X_(u:Nat)(w:World):(callFunc 147 #[.float .f64 u]).run prog w=((Extern.MathFloor.toIntegral "math.archCeil" .up #[.float .f64 u]).run prog w).andThen fun v w'=> .ok (.value v) w':=
 run_callFunc_extern func147 (by kernel_rfl) (by kernel_rfl) (by kernel_rfl) (by kernel_rfl) _ w
theorem Tk(u:Nat)(w:World):(callFunc 149 #[.float .f64 u]).run prog w=((Extern.MathFloor.toIntegral "math.archTrunc" .zero #[.float .f64 u]).run prog w).andThen fun v w'=> .ok (.value v) w':=
 run_callFunc_extern func149 (by kernel_rfl) (by kernel_rfl) (by kernel_rfl) (by kernel_rfl) _ w
theorem Tl(u:Nat)(w:World):(callFunc 86 #[.float .f64 u]).run prog w=((Extern.MathFloor.toIntegral "math.RoundToEven" .even #[.float .f64 u]).run prog w).andThen fun v w'=> .ok (.value v) w':=
 run_callFunc_extern func86 (by kernel_rfl) (by kernel_rfl) (by kernel_rfl) (by kernel_rfl) _ w
theorem ji(u:Nat)(w:World):(Calls prog 36 #[.float .f64 u] w fun e w'=>e=QF (lg .down u)∧∃n,w'=w.drewN n)∧(Calls prog 37 #[.float .f64 u] w fun e w'=>e=QF (lg .up u)∧∃n,w'=w.drewN n)∧(Calls prog 38 #[.float .f64 u] w fun e w'=>e=QF (lg .zero u)∧∃n,w'=w.drewN n)∧(Calls prog 39 #[.float .f64 u] w fun e w'=>e=QF (lg .even u)∧∃n,w'=w.drewN n):=by
 refine⟨?_,?_,?_,?_⟩;have aj:=J (rfl:0=0)
 rotate_left;have aG:=J (rfl:0=0)
 rotate_left;have aP:=J (rfl:0=0)
 all_goals
  first
   |replace aj:=aj
    have lr:=Tj u w
   |replace aG:=aG
    have lr:=X_ u w
   |replace aP:=aP
    have lr:=Tk u w
   |have lr:=Tl u w
  rcases zj cap (rg u)with h|h
  ·rw [Dz _ h]
   first
    |replace aj:=aj
     obtain⟨z,n,hz,hx⟩:=jX "math.archFloor" .down u h prog w
    |replace aG:=aG
     obtain⟨z,n,hz,hx⟩:=jX "math.archCeil" .up u h prog w
    |replace aP:=aP
     obtain⟨z,n,hz,hx⟩:=jX "math.archTrunc" .zero u h prog w
    |obtain⟨z,n,hz,hx⟩:=jX "math.RoundToEven" .even u h prog w
   rw [hx]at lr;simp only [Result.andThen_ok]at lr;clear hx h
   first
    |replace aj:=aj
     go_enter func36,ntmps36
    |replace aG:=aG
     go_enter func37,ntmps37
    |replace aP:=aP
     go_enter func38,ntmps38
    |go_enter func39,ntmps39
   go_wp2_with (first|(go_at_call 82;refine(Te _ _ hz).mono ?_;rintro e w' ⟨rfl,rfl⟩)|go_in)
   go_ret2
   exact⟨rfl,n,rfl⟩
  rcases zj (rg u) cap with h1|h1
  focus
   first
    |replace aj:=aj
     obtain⟨r,hr,hv,hx⟩:=jZ "math.archFloor" .down u h1 prog w
    |replace aG:=aG
     obtain⟨r,hr,hv,hx⟩:=jZ "math.archCeil" .up u h1 prog w
    |replace aP:=aP
     obtain⟨r,hr,hv,hx⟩:=jZ "math.archTrunc" .zero u h1 prog w
    |obtain⟨r,hr,hv,hx⟩:=jZ "math.RoundToEven" .even u h1 prog w
   rw [hx]at lr;simp only [Result.andThen_ok]at lr
   first
    |replace aj:=aj
     have ht:=J (fun w=>sz (u:=u) .down w h1 hr hv)
     generalize lg .down u=p at *
    |replace aG:=aG
     have ht:=J (fun w=>sz (u:=u) .up w h1 hr hv)
     generalize lg .up u=p at *
    |replace aP:=aP
     have ht:=J (fun w=>sz (u:=u) .zero w h1 hr hv)
     generalize lg .zero u=p at *
    |have ht:=J (fun w=>sz (u:=u) .even w h1 hr hv)
     generalize lg .even u=p at *
   generalize wd (bP u) r=v at *;clear hx h h1 hr hv
  rotate_left
  focus
   have h2:rg u=cap:=by omega
   first
    |replace aj:=aj
     rw [lH _ h2,jY "math.archFloor" .down u h2]at *
    |replace aG:=aG
     rw [lH _ h2,jY "math.archCeil" .up u h2]at *
    |replace aP:=aP
     rw [lH _ h2,jY "math.archTrunc" .zero u h2]at *
    |rw [lH _ h2,jY "math.RoundToEven" .even u h2]at *
   simp only [Result.andThen_ok]at lr;have ht:=J (fun w=>Ti (bP u) w)
   generalize wd (bP u) cap=v at *;clear h h1 h2
  all_goals
   first
    |replace aj:=aj
     go_enter func36,ntmps36
    |replace aG:=aG
     go_enter func37,ntmps37
    |replace aP:=aP
     go_enter func38,ntmps38
    |go_enter func39,ntmps39
   go_wp2_with (first|(go_at_call 82;refine(ht.out _).mono ?_;rintro e w' ⟨rfl,rfl⟩)|go_in)
   go_ret2
   exact⟨rfl,0,rfl⟩
def M4 a b:=(ji a b).1
def Tn a b:=(ji a b).2.1
def M5 a b:=(ji a b).2.2.1
def M6 a b:=(ji a b).2.2.2
end Go.Proofs.YtcpmiplofbfmfaaGreatDoor
