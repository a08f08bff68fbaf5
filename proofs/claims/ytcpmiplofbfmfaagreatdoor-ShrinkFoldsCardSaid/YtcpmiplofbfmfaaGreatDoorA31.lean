/- The reference's Add and Sub: the walks. -/
import Derived.Test.YtcpmiplofbfmfaaGreatDoorA25
import Derived.Test.YtcpmiplofbfmfaaGreatDoorA02
set_option linter.all false
set_option maxRecDepth 100000
set_option maxHeartbeats 7000000
namespace Go.Proofs.YtcpmiplofbfmfaaGreatDoor
open Go.Proofs.Tryz
open Lib renaming hid→J
open Go.RowKit FloM
abbrev gB(u v:Nat)(w:World):Prop:=Calls prog 175 #[.int .u64 u, .int .u64 v] w (jq w 9221120237041090560)
theorem ec(u v:Nat):(∀(n1:gj u true) (w:World),gB u v w)∧(∀(n1:gj u false) (n2:gj v true) (w:World),gB u v w)∧(∀(hd:((u:Int)!=(v:Int))=true) (n1:gj u false) (n2:gj v false) (i1:iQ u true) (i2:iQ v true) (w:World),gB u v w)∧(∀(hd:((u:Int)!=(v:Int))=false) (n1:gj u false) (n2:gj v false) (i1:iQ u true) (i2:iQ v true) (w:World),Calls prog 175 #[.int .u64 u, .int .u64 v] w (jq w u))∧(∀(n1:gj u false) (n2:gj v false) (i1:iQ u true) (i2:iQ v false) (w:World),Calls prog 175 #[.int .u64 u, .int .u64 v] w (jq w u))∧(∀(n1:gj u false) (n2:gj v false) (i1:iQ u false) (i2:iQ v true) (w:World),Calls prog 175 #[.int .u64 u, .int .u64 v] w (jq w v))∧(∀(r:Nat) (hb:bits .and .u64 (u:Int) (v:Int)=(r:Int)) (n1:gj u false) (n2:gj v false) (i1:iQ u false) (i2:iQ v false) (z1:qh u true) (z2:qh v true) (w:World),Calls prog 175 #[.int .u64 u, .int .u64 v] w (jq w r)):=by
 unfold gB;refine⟨?_,?_,?_,?_,?_,?_,?_⟩;intro n1 w;have aj:=J (rfl:0=0)
 rotate_left;intro n1 n2 w;have aG:=J (rfl:0=0)
 rotate_left;intro hd n1 n2 i1 i2 w
 rotate_left;intro hd n1 n2 i1 i2 w
 rotate_left;intro n1 n2 i1 i2 w
 rotate_left;intro n1 n2 i1 i2 w
 rotate_left;intro r hb n1 n2 i1 i2 z1 z2 w;have dU:=J (rfl:0=0)
 all_goals
  have N1:=J n1
  first
   |replace aj:=aj
    clear n1
   |replace aG:=aG
    have N2:=J n2;clear n1 n2
   |replace dU:=dU
    have N2:=J n2;have H1:=J i1;have H2:=J i2;have Y1:=J z1;have Y2:=J z2;clear n1 n2 i1 i2 z1 z2
   |have N2:=J n2
    have H1:=J i1;have H2:=J i2;clear n1 n2 i1 i2
  go_enter func175,ntmps175
  (first|replace aj:=aj;go_wp2_with (first|(go_at_call 167;(with_reducible refine(N1.out _).q ?_)))|replace aG:=aG;go_wp2_with (first|(go_at_call 167;(with_reducible refine(N1.out _).q ?_))|(go_at_call 167;(with_reducible refine(N2.out _).q ?_)))|replace dU:=dU;go_wp2_with (first|(go_at_call 167;(with_reducible refine(N1.out _).q ?_))|(go_at_call 167;(with_reducible refine(N2.out _).q ?_))|(go_at_call 180;(with_reducible refine(H1.out _).q ?_))|(go_at_call 180;(with_reducible refine(H2.out _).q ?_))|(go_at_call 183;(with_reducible refine(Y1.out _).q ?_))|(go_at_call 183;(with_reducible refine(Y2.out _).q ?_)))|go_wp2_with (first|(go_at_call 167;(with_reducible refine(N1.out _).q ?_))|(go_at_call 167;(with_reducible refine(N2.out _).q ?_))|(go_at_call 180;(with_reducible refine(H1.out _).q ?_))|(go_at_call 180;(with_reducible refine(H2.out _).q ?_))))
  go_ret;exact⟨rfl,zg _ _⟩
def Me a b:=(ec a b).1
def Mf a b:=(ec a b).2.1
def Mg a b:=(ec a b).2.2.1
def Mh a b:=(ec a b).2.2.2.1
def Mi a b:=(ec a b).2.2.2.2.1
def Mj a b:=(ec a b).2.2.2.2.2.1
def Mk a b:=(ec a b).2.2.2.2.2.2
theorem Rk(u v:Nat)(hu:u<2^64)(hv:v<2^64)(z1 z2:Bool)(hz:(z1&&z2)=false)(n1:gj u false)(n2:gj v false)(i1:iQ u false)(i2:iQ v false)(y1:qh u z1)(y2:qh v z2)(w:World):Calls prog 175 #[.int .u64 u, .int .u64 v] w (jq w (wd (sf (bP u) (bP v) (mg (rg u)*2^(up (rg u)-lo u v)) (mg (rg v)*2^(up (rg v)-lo u v))) (ig (oJ (bP u) (bP v) (mg (rg u)*2^(up (rg u)-lo u v)) (mg (rg v)*2^(up (rg v)-lo u v))) ((lo u v:Int)-1074) 0))):=by
 have N1:=J n1;have N2:=J n2;have H1:=J i1;have H2:=J i2;have Y1:=J y1;have Y2:=J y2;have O1:=J (fun w=>lF u hu w)
 have O2:=J (fun w=>lF v hv w)
 have hU:up (rg u)≤2047:=by unfold up;have:rg u/2^52<2048:=by unfold rg;omega
                            omega
 have hV:up (rg v)≤2047:=by unfold up;have:rg v/2^52<2048:=by unfold rg;omega
                            omega
 have xN:lo u v≤up (rg u):=Nat.min_le_left _ _;have hl2:lo u v≤up (rg v):=Nat.min_le_right _ _;have pt:((lo u v:Nat):Int)-1074=min (pp u) (pp v):=by unfold lo pp;omega
 have e1:((up (rg u)-lo u v:Nat):Int)=pp u-((lo u v:Int)-1074):=by unfold pp;omega
 have e2:((up (rg v)-lo u v:Nat):Int)=pp v-((lo u v:Int)-1074):=by unfold pp;omega
 have rP:=sn u;have uq:=sn v;have Qf:=lB (rg u);have ha2:=lB (rg v);have FA:lo u v≤2047:=by omega
 obtain⟨i,hi⟩: ∃i,i=up (rg u)-lo u v:=⟨_,rfl⟩;obtain⟨j,hj⟩: ∃j,j=up (rg v)-lo u v:=⟨_,rfl⟩;rw [←hi]at e1⊢;rw [←hj]at e2⊢;have yD:i≤2100:=by omega
 have hj2:j≤2100:=by omega
 clear n1 n2 i1 i2 y1 y2 hu hv hi hj xN hl2 hU hV;generalize lo u v=l at *;generalize bP u=su at *;generalize bP v=sv at *;generalize mg (rg u)=m1 at *;generalize mg (rg v)=m2 at *;generalize pp u=P1 at *;generalize pp v=P2 at *
 have hR:nd (oJ su sv (m1*2^i) (m2*2^j))≤20000:=by
  have h1:=eC m1 i;have h2:=eC m2 j;have h3:oJ su sv (m1*2^i) (m2*2^j)≤m1*2^i+m2*2^j:=by unfold oJ;(repeat' split)<;>omega
  have h4:nd (m1*2^i+m2*2^j)≤400:=by
   obtain⟨q,hq⟩: ∃q,q=399:=⟨_,rfl⟩;rw [show(400:Nat)=q+1 by omega,fJ]
   have a1:m1*2^i<65536^q:=zy (eQ _) (wl (by omega))
   have a2:m2*2^j<65536^q:=zy (eQ _) (wl (by omega))
   rw [zH];omega
  have:=jS h3;omega
 have A:=J (fun va vb w (ha:D w va m1) (hb:D w vb m2)=>Mb su sv va vb m1 m2 P1 P2 ((l:Int)-1074) i j w e1 e2 pt yD hj2 (by omega) (by omega) rP uq ha hb)
 generalize oJ su sv (m1*2^i) (m2*2^j)=R at *;generalize sf su sv (m1*2^i) (m2*2^j)=B at *;have V7: -1074≤(l:Int)-1074:=by omega
 have yC:(l:Int)-1074≤2000:=by omega
 have oj:=J hR;clear e1 e2 pt yD hj2 rP uq Qf ha2 FA hR;generalize(l:Int)-1074=p at *
 cases z1<;>cases z2<;>first|(exfalso;revert hz;decide)|skip
 all_goals
  clear hz;go_enter func175,ntmps175
  go_wp2_with (first
   |(go_at_call 167;(with_reducible refine(N1.out _).q ?_))
   |(go_at_call 167;(with_reducible refine(N2.out _).q ?_))
   |(go_at_call 180;(with_reducible refine(H1.out _).q ?_))
   |(go_at_call 180;(with_reducible refine(H2.out _).q ?_))
   |(go_at_call 183;(with_reducible refine(Y1.out _).q ?_))
   |(go_at_call 183;(with_reducible refine(Y2.out _).q ?_))
   |(go_at_call 181;(with_reducible refine(O1.out _).mono ?_);rintro e w1 ⟨v1,rfl,j8,bW⟩;have rK:=J j8;have bp:=J bW;clear j8 bW)
   |(go_at_call 181;(with_reducible refine(O2.out _).mono ?_);rintro e w2 ⟨v2,rfl,hv2,ba⟩;have ln:=J hv2;have bM:=J ba;clear hv2 ba)
   |(go_at_call 235;(with_reducible refine(A.out v1 v2 _ (rK.out.below bM.out) ln.out).mono ?_);rintro e w3 ⟨v3,rfl,ll,bq⟩;have ou:=J ll;have dF:=J bq;clear ll bq)
   |(go_at_call 188;(with_reducible refine(kr B false v3 R p _ oj.out (by omega) (by omega) ou.out).mono ?_);rintro e w4 ⟨rfl,cu⟩;have ce:=J cu;clear cu))
  go_ret;exact⟨rfl,bp.out.trans ((bM.out.trans ((dF.out.trans (ce.out.mono dF.out.size)).mono bM.out.size)).mono bp.out.size)⟩
theorem CT(u v:Nat)(hu:u<2^64)(hv:v<2^64)(w:World):Calls prog 175 #[.int .u64 u, .int .u64 v] w (jq w (lU (Ieee.double.add u v))):=by
 have hca:(0:Nat)≠cap:=by decide
 by_cases h1:cap<rg u
 ·rw [vD (.inl h1)]
  exact Me u v (lV hu (zc h1)) w
 by_cases h2:cap<rg v
 ·rw [vD (.inr h2)]
  exact Mf u v (lV hu (zb h1)) (lV hv (zc h2)) w
 have n1:=lV hu (zb h1);have n2:=lV hv (zb h2)
 by_cases i1:rg u=cap
 ·by_cases i2:rg v=cap
  ·rw [CS hu hv i1 i2]
   by_cases e:u=v
   ·rw [zh e]
    exact Mh u v (by rw [e];simp) n1 n2 (dO hu (zc i1)) (dO hv (zc i2)) w
   ·rw [ze e]
    exact Mg u v (by rw [bne_iff_ne];omega) n1 n2 (dO hu (zc i1)) (dO hv (zc i2)) w
  ·rw [yQ hu i1 (by omega)]
   exact Mi u v n1 n2 (dO hu (zc i1)) (dO hv (zb i2)) w
 ·by_cases i2:rg v=cap
  ·rw [Mc hv i2 (by omega)]
   exact Mj u v n1 n2 (dO hu (zb i1)) (dO hv (zc i2)) w
  ·by_cases hz:rg u=0∧rg v=0
   ·rw [Md hu hv hz.1 hz.2]
    exact Mk u v _ (u64_and_nat u v (by omega) (by omega)) n1 n2 (dO hu (zb i1)) (dO hv (zb i2)) (fp hu (zc hz.1)) (fp hv (zc hz.2)) w
   ·rw [RI (by omega) (by omega) hz]
    exact Rk u v hu hv _ _ (by rw [←Bool.decide_and,zb hz]) n1 n2 (dO hu (zb i1)) (dO hv (zb i2)) (fp hu rfl) (fp hv rfl) w
theorem Ml(v:Nat):qk v=(if cap<rg v then 9221120237041090560 else(if v<2^63 then 2^63+v else v-2^63)):=rfl
theorem Rl(u v:Nat)(hu:u<2^64)(hv:v<2^64)(w:World):Calls prog 176 #[.int .u64 u, .int .u64 v] w (jq w (lU (Ieee.double.sub u v))):=by
 rw [WE u v hv,←Ml v];have C1:=J (fun w=>DG v hv w)
 have C2:=J (fun w=>CT u (qk v) hu (KN hv) w)
 generalize qk v=t at *;generalize lU (Ieee.double.add u t)=r at *;clear hu hv;go_enter func176,ntmps176;go_wp2_with (first|(go_at_call 106;(with_reducible refine(C1.out _).q ?_))|(go_at_call 175;(with_reducible refine(C2.out _).mono ?_);rintro e w2 ⟨rfl,cB⟩;have bM:=J cB;clear cB))
 go_ret;exact⟨rfl,bM.out⟩
end Go.Proofs.YtcpmiplofbfmfaaGreatDoor
set_option maxHeartbeats 6000000
namespace FloM
theorem aaH{M:Nat}{P:Int}(h:qi M P=false):wN M P<2^64:=by
 have h1:(bl M:Int)+P≤63:=by unfold qi at h;simpa using h
 have h2:=Kj M;unfold wN
 split
 ·next h3=>
  calc M*2^P.toNat<2^bl M*2^P.toNat:=(zG (zo _)).2 h2
   _=2^(bl M+P.toNat):=(zu _ _ _).symm
   _≤2^64:=zF (by decide) (by omega)
 ·next h3=>
  have h4:M<2^(-P).toNat*2^64:=by
   rw [←zu];exact zy h2 (zF (by decide) (by omega))
  exact Zh h4
end FloM
namespace Go.Proofs.YtcpmiplofbfmfaaGreatDoor
open Go.Proofs.Tryz
open Lib renaming hid→J
open Go.RowKit FloM
def WF(w:World)(n:Nat)(h:Int)(b:Bool)(e:Ending)(w':World):Prop:=e= .returned (.tuple #[.int .u64 (n:Int), .int .i64 h, .bool b])∧Below w.heap.size w w'
theorem lX(s:Bool)(va:Value)(M:Nat)(P:Int)(w:World)(hM:nd M≤4):(∀(Lo: -1074≤P) (QO:P≤1000) (ur:63<(bl M:Int)+P) (ha:D w va M),Calls prog 182 #[.agg #[.bool s,va, .int .i64 P]] w (WF w 0 0 false))∧(∀(Lo:0≤P) (QO:P≤1000) (ur:qi M P=false) (ha:D w va M),Calls prog 182 #[.agg #[.bool s,va, .int .i64 P]] w (WF w (wN M P) (-1) true))∧(∀(Lo: -1074≤P) (QO:P<0) (ur:qi M P=false) (ha:D w va M),Calls prog 182 #[.agg #[.bool s,va, .int .i64 P]] w (WF w (wN M P) (wH M P) true)):=by
 refine⟨?_,?_,?_⟩
 all_goals intro Lo QO ur ha
 have aj:=J (rfl:0=0)
 rotate_left;have aG:=J (rfl:0=0)
 all_goals
  have HA:=J ha;obtain⟨A,c,rfl⟩:=ha.shape;have qB:bl M≤64:=(kl M 64).2 (by have:=eQ M;rw [jR]at this;exact zy this (zF (by decide) (by omega)))
  have hw:IntKind.i64.wrap ((bl M:Int)+P)=(bl M:Int)+P:=Zs _ (by omega)
  first
   |replace aj:=aj
    have d1:decide (63<(bl M:Int)+P)=true:=zc ur;clear ha
   |replace aG:=aG
    have d1:decide (63<(bl M:Int)+P)=false:=by unfold qi at ur;exact ur
    have rS:=J (aaH ur);clear ha ur;obtain⟨k,hk⟩: ∃k:Nat,(k:Int)=P:=⟨P.toNat,by omega⟩
    have HN:=J (show wN M P=M*2^k by unfold wN;rw [zh Lo,←hk,zv])
    have HK:=J hk;have hk4:k≤1000:=by omega
    clear hk;generalize wN M P=n at *
   |have d1:decide (63<(bl M:Int)+P)=false:=by unfold qi at ur;exact ur
    have rS:=J (aaH ur);clear ha ur;obtain⟨k,hk⟩: ∃k:Nat,(k:Int)= -P:=⟨(-P).toNat,by omega⟩
    have hU:=zo k;have HN:=J (show wN M P=M/2^k by unfold wN;rw [ze (by omega),←hk,zv])
    have HH:=J (show wH M P=if M%2^k=0 then -1 else cW (2*(M%2^k)) (2^k)+1 by
     have hng: ¬0≤P:=by omega
     unfold wH wR;simp only [hng,ZD];rw [←hk,zv])
    have HK:=J hk;have hk4:k≤1074:=by omega
    have hUn:nd (2^k)≤100:=by
     have h1:=eC 1 k;rw [zP]at h1;have h2:nd 1=1:=by decide
     omega
    have S1:=J (fun va w (h:D w va 1)=>gM va 1 k (-P) w (by decide) (by omega) HK.out.symm h)
    have hrm:nd (M%2^k)≤nd M:=jS (Nat.mod_le _ _);have hdm:=J (fun va vb w (cB:nd (2^k)≤80000) (ha:D w va M) (hb:D w vb (2^k))=>sk va vb M (2^k) w (by omega) cB hU ha hb)
    rw [zP]at S1;clear hk;generalize wN M P=n at *;generalize wH M P=h at *;rw [←HN.out]at hdm;generalize M%2^k=r at *;generalize 2^k=U at *
  go_enter func182,ntmps182;go_wp2_with fail
  first
   |replace aj:=aj
    obtain⟨c0,c1,c2⟩:=aH (ai.new w 198 #[.bool s, .slice A (nd M) c, .int .i64 P])
   |have b1:=ai.new w 198 #[.bool s, .slice A (nd M) c, .int .i64 P]
  have hW:Below w.heap.size w (w.alloc (.cells #[.bool s, .slice A (nd M) c, .int .i64 P] 198)):=(zg _ _).alloc (za _) _;generalize w.alloc (.cells #[.bool s, .slice A (nd M) c, .int .i64 P] 198)=W at *
  first
   |replace aj:=aj
   |obtain⟨c0,c1,c2⟩:=aH b1
    have BX:=J b1
  have HW:=J hW;have HAW:=J (show D W.drew _ M from HA.out.below hW.drew)
  first
   |replace aj:=aj
    clear hW
   |have lW:=b1.lt
    have x_:=hW.size;clear hW b1
  go_region_held3 (fun w'=>w'.cell? ⟨w.heap.size,1,none⟩=some (.slice A (nd M) c)∧w'.cell? ⟨w.heap.size,2,none⟩=some (.int .i64 P)) (first|go_keep|exact⟨c1,c2⟩)
   (first
    |(go_at_call 240;refine(Bo _ M _ (by omega) HAW.out).mono ?_;rintro e w3 ⟨rfl,rfl⟩))
  first
   |replace aj:=aj
   |replace aG:=aG
    clear d1 hw;go_wp2_with fail;refine(gM _ M k _ _ (by omega) (by omega) HK.out.symm HAW.out).mono ?_
    rintro e w4 ⟨v4,rfl,vg,_,cu⟩;rw [←HN.out]at vg;have yE:=J vg;have ce:=J cu;clear vg cu;go_wp2_with fail;refine(lD v4 n _ rS.out yE.out).mono ?_;rintro e w' ⟨rfl,rfl⟩
   |clear d1 hw
  go_wp2_with fail
  first
   |replace aj:=aj
    go_ret3
    exact⟨rfl,HW.out.drew⟩
   |replace aG:=aG
    go_ret3
    exact⟨rfl,HW.out.drew.trans (ce.out.mono x_)⟩
   |refine(S1.out _ _ (sl W.drew)).mono ?_
    rintro e w4 ⟨v4,rfl,vg,_,cu⟩;have h4:Below W.drew.heap.size W.drew w4:=((zg _ _).alloc (za _) _).trans (cu.mono (by simp))
    have yE:=J vg;have ce:=J h4;have HA4:=J (HAW.out.below h4);have Y0:=J (BX.out.drew.below h4 lW);clear c0 c1 c2;obtain⟨c0,c1,c2⟩:=aH Y0.out;clear vg cu h4;go_wp2_with fail;refine(hdm.out _ v4 _ (by omega) HA4.out yE.out).mono ?_
    rintro e w5 ⟨v5,u5,rfl,ow,hu5,_,_,bT⟩;obtain⟨A5,k5,rfl⟩:=hu5.shape;have ya:=J ow;have HU5:=J hu5;have YZ:=J (yE.out.below bT);have fE:=J (ce.out.trans (bT.mono ce.out.size));clear ow hu5 bT
    by_cases Wj:r=0
    ·have HHE:=J (show h= -1 by rw [HH.out,zh Wj])
     have e0:nd r=0:=by rw [Wj,ib]
     have hl0:((nd r:Int)==0)=true:=by rw [e0];rfl
     clear e0;go_wp2_with fail;refine(lD v5 n _ rS.out ya.out).mono ?_;rintro e w' ⟨rfl,rfl⟩;go_wp2_with fail
     go_ret3
     exact⟨by rw [HHE.out];rfl,HW.out.drew.trans (fE.out.mono x_)⟩
    ·have HHE:=J (show h=cW (2*r) U+1 by rw [HH.out,ze Wj])
     have hl0:((nd r:Int)==0)=false:=by have:=wE Wj;rw [zf];omega
     have Qa: -1≤cW (2*r) U:=by unfold cW;(repeat' split)<;>omega
     have JH:cW (2*r) U≤1:=by unfold cW;(repeat' split)<;>omega
     have hw:IntKind.i64.wrap (cW (2*r) U+1)=cW (2*r) U+1:=Zs _ (by omega)
     have h2r:=eC r 1;rw [show r*2^1=2*r by omega]at h2r
     go_wp2_with fail
     refine(lD v5 n _ rS.out ya.out).mono ?_;rintro e w' ⟨rfl,rfl⟩;go_wp2_with fail;refine(gM _ r 1 _ _ (by omega) (by omega) rfl HU5.out).mono ?_
     rintro e w6 ⟨v6,rfl,Qj,_,fC⟩;rw [show r*2^1=2*r by omega]at Qj
     have HV6:=J Qj;have adR:=J (YZ.out.below fC);have lS:=J (fE.out.trans (fC.mono fE.out.size));clear Qj fC;go_wp2_with fail;refine(uI v6 v4 (2*r) U _ (by omega) HV6.out adR.out).mono ?_
     rintro e w7 ⟨rfl,n7,rfl⟩;generalize cW (2*r) U=cc at *;go_wp2_with fail
     go_ret3
     exact⟨by rw [HHE.out];rfl,below_drewN (HW.out.drew.trans (lS.out.mono x_)) n7⟩
def Mm a b c d e f:=(lX a b c d e f).1
def Mn a b c d e f:=(lX a b c d e f).2.1
def F9 a b c d e f:=(lX a b c d e f).2.2
set_option maxHeartbeats 16000000
def wg(w:World)(p:Int×Int)(e:Ending)(w':World):Prop:=e= .returned (.tuple #[.int .i64 p.1, .int .i64 p.2])∧Below w.heap.size w w'
abbrev Ba(s:Bool)(M:Nat)(P:Int)(n:Nat)(h:Int)(b:Bool):Prop:= ∀(va:Value) (w:World),D w va M→Calls prog 182 #[.agg #[.bool s,va, .int .i64 P]] w (WF w n h b)
abbrev OfC(u:Nat)(s:Bool)(M:Nat)(P:Int):Prop:= ∀w,Calls prog 181 #[.int .u64 u] w (Gk w s M P)
theorem WG(u:Nat)(x:Int)(w:World)(n1:gj u true):Calls prog 108 #[.int .u64 u, .int .i64 x] w (wg w (0,20)):=by
 have N1:=J n1;clear n1;go_enter func108,ntmps108;go_wp2_with (go_at_call 167;(with_reducible refine(N1.out _).q ?_))
 go_ret2
 exact⟨rfl,zg _ _⟩
theorem WH(u:Nat)(x:Int)(w:World)(n1:gj u false)(i1:iQ u true):Calls prog 108 #[.int .u64 u, .int .i64 x] w (wg w (0,10)):=by
 have N1:=J n1;have H1:=J i1;clear n1 i1;go_enter func108,ntmps108;go_wp2_with (first|(go_at_call 167;(with_reducible refine(N1.out _).q ?_))|(go_at_call 180;(with_reducible refine(H1.out _).q ?_)))
 go_ret2
 exact⟨rfl,zg _ _⟩
theorem WI(u M:Nat)(s:Bool)(P x:Int)(w:World)(n1:gj u false)(i1:iQ u false)(o:OfC u s M P)(wh:Ba s M P 0 0 false):Calls prog 108 #[.int .u64 u, .int .i64 x] w (wg w (0,10)):=by
 have N1:=J n1;have H1:=J i1;have O1:=J o;have W1:=J wh;clear n1 i1 o wh;go_enter func108,ntmps108;go_wp2_with (first|(go_at_call 167;(with_reducible refine(N1.out _).q ?_))|(go_at_call 180;(with_reducible refine(H1.out _).q ?_))|(go_at_call 181;(with_reducible refine(O1.out _).mono ?_);rintro e w1 ⟨v1,rfl,j8,bW⟩;obtain⟨A1,k1,rfl⟩:=j8.shape;have rK:=J j8;have bp:=J bW;clear j8 bW))
 refine(W1.out _ _ (rK.out.below ((zg _ _).alloc (za _) _))).mono ?_;rintro e w2 ⟨rfl,ba⟩;have bM:=J (bp.out.trans ((((zg w1.heap.size w1).alloc (za _) _).trans (ba.mono (by simp))).mono bp.out.size))
 clear ba;go_wp2_with fail
 go_ret2
 exact⟨rfl,bM.out⟩
def upW(ch:Ieee.Toward)(s b2 b1 bo:Bool):Bool:=match ch with| .down=>s| .up=> !s| .zero=>false| .even=>b2||(b1&&bo)
theorem abY{a b c d:Int}(h1:a=c)(h2:b=d):Ending.returned (.tuple #[.int .i64 a, .int .i64 b])= .returned (.tuple #[.int .i64 c, .int .i64 d]):=by rw [h1,h2]
theorem r_(ch:Ieee.Toward)(b2 b1 bo bg ci:Bool)(u M n m:Nat)(P h:Int)(r:Int×Int)(w:World)(cB:((h:Int)==2)=b2)(cT:((h:Int)==1)=b1)(hbo:(((n:Int)%2)==1)=bo)(hbg:decide (0≤h)=bg)(hn:(n:Int)≤9223372036854775806):(∀(hm:(m:Int)=if(bg&&upW ch true b2 b1 bo)=true then(n:Int)+1 else n) (hin:ci=true→(m:Int)≤4611686018427387904) (Vf:ci=false→decide ((m:Int)≤4611686018427387904)=false) (hr:r=if ci then(-(m:Int),0)else(0,10)) (n1:gj u false) (i1:iQ u false) (o:OfC u true M P) (wh:Ba true M P n h true),Calls prog 108 #[.int .u64 u, .int .i64 (Da ch)] w (wg w r))∧(∀(hm:(m:Int)=if(bg&&upW ch false b2 b1 bo)=true then(n:Int)+1 else n) (hin:ci=true→(m:Int)<4611686018427387904) (Vf:ci=false→decide ((m:Int)<4611686018427387904)=false) (hr:r=if ci then((m:Int),0)else(0,10)) (n1:gj u false) (i1:iQ u false) (o:OfC u false M P) (wh:Ba false M P n h true),Calls prog 108 #[.int .u64 u, .int .i64 (Da ch)] w (wg w r)):=by
 refine⟨?_,?_⟩
 all_goals intro hm hin Vf hr n1 i1 o wh
 have aj:=J (rfl:0=0)
 all_goals
  have N1:=J n1;have H1:=J i1;have O1:=J o;have W1:=J wh;clear n1 i1 o wh
  cases ch
  case' even=>cases b2<;>cases b1<;>cases bo
  all_goals cases bg
  all_goals cases ci
  all_goals
   simp [upW]at hm hr
   first
    |(have q1:=hin rfl;clear hin Vf;rw [hm]at q1)
    |(have q1:=Vf rfl;clear hin Vf;rw [hm]at q1)
   have HM:=J hm;have HR:=J hr;have Q1:=J q1;have HN:=J hn;clear hm hr q1 hn;simp only [Da];go_enter func108,ntmps108;go_wp2_with (first|(go_at_call 167;(with_reducible refine(N1.out _).q ?_))|(go_at_call 180;(with_reducible refine(H1.out _).q ?_))|(go_at_call 181;(with_reducible refine(O1.out _).mono ?_);rintro e w1 ⟨v1,rfl,j8,bW⟩;obtain⟨A1,k1,rfl⟩:=j8.shape;have rK:=J j8;have bp:=J bW;clear j8 bW))
   refine(W1.out _ _ (rK.out.below ((zg _ _).alloc (za _) _))).mono ?_;rintro e w2 ⟨rfl,ba⟩;have c0:=(aH ((ai.new w1 _ #[.bool _, .slice A1 (nd M) k1, .int .i64 P]).below ba (by simp))).1
   have bM:=J (bp.out.trans ((((zg w1.heap.size w1).alloc (za _) _).trans (ba.mono (by simp))).mono bp.out.size))
   clear ba;go_upto_region 10 with(fail)
   clear hbo cT cB;have hn:=HN.out
   first
    |replace aj:=aj
     go_upto_region 12 with(fail)
    |go_upto_region 14 with(fail)
   have q1:=Q1.out
   first
    |replace aj:=aj
     first
      |go_upto_region 13 with(fail)
      |go_upto_region 14 with(fail)
    |first
      |go_upto_region 15 with(fail)
      |go_upto_region 16 with(fail)
   clear q1;go_wp2_with fail
   go_ret2
   exact⟨by rw [HR.out];exact abY (by have:=HM.out;omega) rfl,bM.out⟩
def Rm a b c d e f g h i j k l m n o p q r s:=(r_ a b c d e f g h i j k l m n o p q r s).1
def Rn a b c d e f g h i j k l m n o p q r s:=(r_ a b c d e f g h i j k l m n o p q r s).2
end Go.Proofs.YtcpmiplofbfmfaaGreatDoor
namespace FloM
open Ieee
theorem ye{M:Nat}{P:Int}(h:qi M P=false):(bl M:Int)+P≤63:=by unfold qi at h;simpa using h
theorem afG{M:Nat}{P:Int}(hM:M<2^53)(h:qi M P=false):wN M P≤9223372036854775806:=by
 have h1:=ye h;have h2:=Kj M;unfold wN
 split
 ·next h3=>
  obtain⟨k,hk⟩: ∃k:Nat,P.toNat=k:=⟨_,rfl⟩;rw [hk]
  rcases k with _|k
  ·omega
  ·have h4:M*2^(k+1)<2^63:=by
    calc M*2^(k+1)<2^bl M*2^(k+1):=(zG (zo _)).2 h2
     _=2^(bl M+(k+1)):=(zu _ _ _).symm
     _≤2^63:=zF (by decide) (by omega)
   rw [zH,←zw]at h4⊢;omega
 ·have:=ZI M (2^(-P).toNat)
  omega
theorem abZ{M:Nat}{P:Int}(h:0≤P):wH M P= -1:=by
 unfold wH wR;rw [zh h,zh rfl]
end FloM
namespace Go.Proofs.YtcpmiplofbfmfaaGreatDoor
open Go.Proofs.Tryz
open Go.RowKit FloM
theorem Mo(u:Nat)(hu:u<2^64)(s:Bool)(hb:qi (mg (rg u)) (pp u)=false):Ba s (mg (rg u)) (pp u) (wN (mg (rg u)) (pp u)) (wH (mg (rg u)) (pp u)) true:=by
 intro va w ha;have p:=yY u;have p2:=p.2 hu
 by_cases h:0≤pp u
 ·rw [abZ h]
  exact Mn s va _ _ w (sn u) h (by omega) hb ha
 ·exact F9 s va _ _ w (sn u) p.1 (by omega) hb ha
theorem WJ(ch:Ieee.Toward)(s:Bool)(n:Nat)(h:Int):upW ch s (h==2) (h==1) (((n:Int)%2)==1)=wUp ch s n h:=by
 have e:(((n:Int)%2)==1)=decide (n%2=1):=by
  rw [ZR,Zr,Zb];omega
 cases ch
 ·unfold upW wUp
  rw [e];have e1:(h==2)=decide (h=2):=by rw [ZR,Zr,Zb]
  have e2:(h==1)=decide (h=1):=by rw [ZR,Zr,Zb]
  rw [e1,e2]
 ·rfl
 ·rfl
 ·rfl
theorem vE(ch:Ieee.Toward)(u:Nat)(hu:u<2^64)(w:World):Calls prog 108 #[.int .u64 u, .int .i64 (Da ch)] w (wg w (lg ch u)):=by
 rw [←acq]
 by_cases h1:cap<rg u
 ·have e:Xp ch u=(0,20):=zh h1
  rw [e];exact WG u _ w (lV hu (zc h1))
 have n1:=lV hu (zb h1)
 by_cases h2:rg u=cap
 ·have e:Xp ch u=(0,10):=by unfold Xp;rw [ze h1,zh h2]
  rw [e];exact WH u _ w n1 (dO hu (zc h2))
 have i1:=dO hu (zb h2);have o:OfC u (bP u) (mg (rg u)) (pp u):=fun w=>lF u hu w
 have p:=yY u;have p2:=p.2 hu
 cases hb:qi (mg (rg u)) (pp u)with
 |true=>
  have e:Xp ch u=(0,10):=by unfold Xp;rw [ze h1,ze h2,zh hb]
  rw [e];refine WI u _ _ _ _ w n1 i1 o fun va w ha=>Mm _ va _ _ w (sn u) p.1 (by omega) ?_ ha
  unfold qi at hb;simpa using hb
 |false=>
  have wh:=Mo u hu (bP u) hb;have hn:=afG (lB (rg u)) hb
  have B_:((wK ch (bP u) (mg (rg u)) (pp u):Nat):Int)=if(decide (0≤wH (mg (rg u)) (pp u))&&upW ch (bP u) (wH (mg (rg u)) (pp u)==2) (wH (mg (rg u)) (pp u)==1) (((wN (mg (rg u)) (pp u):Nat):Int)%2==1))=true then((wN (mg (rg u)) (pp u):Nat):Int)+1 else((wN (mg (rg u)) (pp u):Nat):Int):=by
   rw [WJ];unfold wK;simp only [Zm,Zb]
   split<;>omega
  have hr:Xp ch u=if bP u=true∧wK ch (bP u) (mg (rg u)) (pp u)≤2^62 then(-(wK ch (bP u) (mg (rg u)) (pp u):Int),0)
   else if bP u=false∧wK ch (bP u) (mg (rg u)) (pp u)<2^62 then((wK ch (bP u) (mg (rg u)) (pp u):Int),0)else(0,10):=by
   unfold Xp;rw [ze h1,ze h2,ze (by rw [hb];decide)]
  rw [hr];have e62:(2:Nat)^62=4611686018427387904:=by decide
  rw [e62];clear hr hb p p2;generalize mg (rg u)=M at *;generalize pp u=P at *;generalize wN M P=n at *;generalize wH M P=h at *;generalize wK ch (bP u) M P=m at *
  cases hs:bP u with
  |true=>
   rw [hs]at o wh B_;refine Rm ch _ _ _ _ (decide ((m:Int)≤4611686018427387904)) u M n m P h _ w rfl rfl rfl rfl (by omega) B_ (fun h=>Zq h) (fun h=>h) ?_ n1 i1 o wh
   by_cases hc:m≤4611686018427387904
   ·rw [zh ⟨rfl,hc⟩,zc (by omega)];rfl
   ·rw [ze (fun h=>hc h.2),ze (fun h=>by cases h.1),zb (by omega)];rfl
  |false=>
   rw [hs]at o wh B_;refine Rn ch _ _ _ _ (decide ((m:Int)<4611686018427387904)) u M n m P h _ w rfl rfl rfl rfl (by omega) B_ (fun h=>Zq h) (fun h=>h) ?_ n1 i1 o wh
   by_cases hc:m<4611686018427387904
   ·rw [ze (fun h=>by cases h.1),zh ⟨rfl,hc⟩,zc (by omega)];rfl
   ·rw [ze (fun h=>by cases h.1),ze (fun h=>hc h.2),zb (by omega)];rfl
set_option maxHeartbeats 4000000
open Lib renaming hid→J
def ab5(n1 n2 z1 z2 e d na l:Bool):Int:=
 if n1||n2 then 2 else if(z1&&z2)||e then 0 else if d then(if na then -1 else 1)else if l== !na then -1 else 1
theorem Mt(u v a b:Nat)(n1 n2 z1 z2 e d na l:Bool)(f1:bits .and .u64 (u:Int) 9223372036854775808=(a:Int))(f2:bits .and .u64 (v:Int) 9223372036854775808=(b:Int))
 (he:((u:Int)==(v:Int))=e) (hd:((a:Int)!=(b:Int))=d) (hna:((a:Int)!=0)=na) (hza:((a:Int)==0)= !na) (hl:decide (u<v)=l)
 (N1:gj u n1) (N2:gj v n2) (Z1:qh u z1) (Z2:qh v z2) (w:World):
 Calls prog 179 #[.int .u64 u, .int .u64 v] w fun x w'=>x= .returned (.int .i64 (ab5 n1 n2 z1 z2 e d na l))∧w=w':=by
 have H1:=J N1;have H2:=J N2;have Y1:=J Z1;have Y2:=J Z2;clear N1 N2 Z1 Z2
 cases n1
 ·cases n2
  ·cases z1<;>cases z2<;>cases e
   all_goals first
    |(go_enter func179,ntmps179
      go_wp2_with (first
       |(go_at_call 167;(with_reducible refine(H1.out _).q ?_))
       |(go_at_call 167;(with_reducible refine(H2.out _).q ?_))
       |(go_at_call 183;(with_reducible refine(Y1.out _).q ?_))
       |(go_at_call 183;(with_reducible refine(Y2.out _).q ?_)))
      go_ret;exact⟨rfl,rfl⟩
      done)
    |(cases d<;>cases na<;>cases l
      all_goals
       go_enter func179,ntmps179
       go_wp2_with (first
        |(go_at_call 167;(with_reducible refine(H1.out _).q ?_))
        |(go_at_call 167;(with_reducible refine(H2.out _).q ?_))
        |(go_at_call 183;(with_reducible refine(Y1.out _).q ?_))
        |(go_at_call 183;(with_reducible refine(Y2.out _).q ?_)))
       go_ret;exact⟨rfl,rfl⟩)
  ·clear f1 f2 he hd hna hza hl
   go_enter func179,ntmps179
   go_wp2_with (first
    |(go_at_call 167;(with_reducible refine(H1.out _).q ?_))
    |(go_at_call 167;(with_reducible refine(H2.out _).q ?_)))
   go_ret;exact⟨rfl,rfl⟩
 ·clear f1 f2 he hd hna hza hl
  go_enter func179,ntmps179;go_wp2_with (go_at_call 167;(with_reducible refine(H1.out _).q ?_));go_ret;exact⟨rfl,rfl⟩
theorem WY(u v:Nat):ab5 (decide (cap<rg u)) (decide (cap<rg v)) (decide (rg u=0)) (decide (rg v=0)) ((u:Int)==(v:Int)) (((gm u:Nat):Int)!=((gm v:Nat):Int)) (((gm u:Nat):Int)!=0) (decide (u<v))=WO u v:=by
 unfold ab5 WO;have e1:((u:Int)==(v:Int))=decide (u=v):=by rw [ZR,Zr,Zb];omega
 have e2:(((gm u:Nat):Int)!=((gm v:Nat):Int))=decide (gm u≠gm v):=by rw [ZR,bne_iff_ne,Zb];omega
 have e3:(((gm u:Nat):Int)!=0)=decide (gm u≠0):=by rw [ZR,bne_iff_ne,Zb];omega
 rw [e1,e2,e3]
 have e4:(decide (u<v)== !decide (gm u≠0))=decide (u<v↔gm u=0):=by
  rw [ZR,Zr,Zb,ZR];simp
 rw [e4];simp only [Ig,Zm,Zb]
theorem C7(u v:Nat)(hu:u<2^64)(hv:v<2^64)(w:World):
 Calls prog 179 #[.int .u64 u, .int .u64 v] w fun e w'=>e= .returned (.int .i64 (gw u v))∧w=w':=by
 have h:=Mt u v (gm u) (gm v) _ _ _ _ _ _ _ _ (gN u hu) (gN v hv) rfl rfl rfl (by
  cases h:(((gm u:Nat):Int)==0)<;>rw [bne,h]<;>rfl) rfl (lV hu rfl) (lV hv rfl) (fp hu rfl) (fp hv rfl) w
 rw [WY,WP u v hu hv]at h;exact h
open Go.RowKit Go.ChangeShapes Go.WideShapes Go.Deep LamM CpsM
theorem No{x:Int}(h:(Lit.int .u64 x).wf=true):0≤x∧x<2^64:=by
 have h1:0≤x∧x≤18446744073709551615:=by simpa [Lit.wf,IntKind.min,IntKind.max,IntKind.signed,IntKind.bits]using h
 omega
section
variable {H:Type} {enc:TypeId×Value→H} {P:Program} {w:World} {held:Bool}
theorem GI{e ti tk:TypeId}{f0 f1 f2 f3 f4 f5 f6 f7 f8 q0 q1 q2:Field}{ei:TypeId}{xU:Nat}{cs:List Value}{x:DataW H×List MemPlace}
 (he:P.underlying e=some (.struct #[f0,f1,f2,f3,f4,f5,f6,f7,f8])) (mW:oneCellFields P #[f0,f1,f2,f3,f4,f5,f6,f7,f8]=true) (hC:P.cellsOf e=9)
 (h0:P.underlying f0.type=some (.int .i64)) (h1:P.underlying f1.type=some (.int .i64)) (h2:P.underlying f2.type=some (.int .i64)) (hmf:P.underlying f3.type=some (.int .i64)) (h3:P.underlying f4.type=some (.int .u64)) (h4:P.underlying f5.type=some .string)
 (h5:f6.type=ti) (h6:f7.type=tk) (h7:f8.type=ti) (hti:P.underlying ti=some (.slice ei)) (hei:P.underlying ei=some (.int .i64)) (hic:P.cellsOf ei=1) (hib:P.bytesOf ei=8)
 {ek:TypeId} (htk:P.underlying tk=some (.slice ek)) (hek:P.underlying ek=some (.struct #[q0,q1,q2])) (aeo:oneCellFields P #[q0,q1,q2]=true)
 (kC:P.cellsOf ek=3) (kb:P.bytesOf ek=32) (k0:P.underlying q0.type=some (.int .i64)) (k1:P.underlying q1.type=some (.int .i64)) (k2:P.underlying q2.type=some .string)
 (h:DataW.trod enc P w 0 (fun _=>true) held xU e cs=some x) (hL:jM P e x.1):
 ∃tm vv kv av,FV w w.heap.size tm vv kv av∧cs=cG tm vv kv av∧(0≤tm.b∧tm.b<2^64):=by
 obtain⟨xs,n,_,hx,hl,om,hf⟩:=DataW.trod_struct he h;subst hx;rw [hC]at hl
 have one: ∀(j:Nat) (f:Field) (c:Value),(#[f0,f1,f2,f3,f4,f5,f6,f7,f8]:Array Field)[j]? =some f→cs[j]? =some c→∃y,xs[j]? =some y∧DataW.trod enc P w 0 (fun _=>true) held n f.type [c]=some y∧jM P f.type y.1:=by
  intro j f c hj hc;obtain⟨o,k⟩:=hone_of mW j f hj;have g:=hf j f hj;have hjl:j<cs.length:=(zq.1 hc).1;rw [o,k,Zw hjl,(zq.1 hc).2]at g;have hj8:j<xs.length:=by rw [om];exact(Array.getElem?_eq_some_iff.1 hj).1
  refine⟨xs[j],zk hj8,?_,?_⟩
  ·rw [zk hj8]at g
   exact g
  ·exact jM.agg hL he hj (by rw [zT,zk hj8];rfl)
 match cs,hl with
 |[c0,c1,c2,c3,c4,c5,c6,c7,c8],_=>
  obtain⟨_,_,t0,_⟩:=one 0 f0 c0 rfl rfl;obtain⟨_,_,t1,_⟩:=one 1 f1 c1 rfl rfl;obtain⟨_,_,t2,_⟩:=one 2 f2 c2 rfl rfl;obtain⟨_,_,t3,_⟩:=one 3 f3 c3 rfl rfl;obtain⟨_,_,t4,_⟩:=one 4 f4 c4 rfl rfl;obtain⟨_,_,t5,_⟩:=one 5 f5 c5 rfl rfl;obtain⟨_,_,t6,l6⟩:=one 6 f6 c6 rfl rfl;obtain⟨_,_,t7,l7⟩:=one 7 f7 c7 rfl rfl;obtain⟨_,_,t8,l8⟩:=one 8 f8 c8 rfl rfl;rw [h5]at t6 l6;rw [h6]at t7 l7;rw [h7]at t8 l8;obtain⟨z0,e0,_,r0⟩:=DataW.trod_int h0 t0;obtain⟨z1,e1,_,r1⟩:=DataW.trod_int h1 t1;obtain⟨z2,e2,_,r2⟩:=DataW.trod_int h2 t2;obtain⟨zm,em,_,rm⟩:=DataW.trod_int hmf t3;obtain⟨z3,e3,_,r3⟩:=DataW.trod_int h3 t4;obtain⟨s,e4,_,_⟩:=DataW.trod_string h4 t5;obtain⟨vs,hv,rv,lv⟩:=Ai hti hei hic hib t6 l6;obtain⟨ks,hk,lk⟩:=Nb htk hek aeo kC kb k0 k1 k2 t7 l7;obtain⟨args,ha,ra,la⟩:=Ai hti hei hic hib t8 l8;injection e0 with e0
  injection e1 with e1
  injection e2 with e2
  injection em with em
  injection e3 with e3
  injection e4 with e4
  subst e0 e1 e2 em e3 e4;exact⟨⟨z0,z1,z2,zm,z3,s.data.toList,vs,ks,args⟩,c6,c7,c8,⟨hv,hk,ha,mJ r0,mJ r1,mJ r2,mJ rm,ra,rv,lv,lk,la⟩,by unfold cG;rw [w_],No r3⟩
theorem DP{t e ti tk:TypeId}{f0 f1 f2 f3 f4 f5 f6 f7 f8 q0 q1 q2:Field}{ei:TypeId}{xU:Nat}{v:Value}{x:DataW H×List MemPlace}
 (ht:P.underlying t=some (.slice e)) (hb:P.bytesOf e=128)
 (he:P.underlying e=some (.struct #[f0,f1,f2,f3,f4,f5,f6,f7,f8])) (mW:oneCellFields P #[f0,f1,f2,f3,f4,f5,f6,f7,f8]=true) (hC:P.cellsOf e=9)
 (h0:P.underlying f0.type=some (.int .i64)) (h1:P.underlying f1.type=some (.int .i64)) (h2:P.underlying f2.type=some (.int .i64)) (hmf:P.underlying f3.type=some (.int .i64)) (h3:P.underlying f4.type=some (.int .u64)) (h4:P.underlying f5.type=some .string)
 (h5:f6.type=ti) (h6:f7.type=tk) (h7:f8.type=ti) (hti:P.underlying ti=some (.slice ei)) (hei:P.underlying ei=some (.int .i64)) (hic:P.cellsOf ei=1) (hib:P.bytesOf ei=8)
 {ek:TypeId} (htk:P.underlying tk=some (.slice ek)) (hek:P.underlying ek=some (.struct #[q0,q1,q2])) (aeo:oneCellFields P #[q0,q1,q2]=true)
 (kC:P.cellsOf ek=3) (kb:P.bytesOf ek=32) (k0:P.underlying q0.type=some (.int .i64)) (k1:P.underlying q1.type=some (.int .i64)) (k2:P.underlying q2.type=some .string)
 (h:DataW.trod enc P w 0 (fun _=>true) held xU t [v]=some x) (hL:jM P t x.1): ∃L,NF w w.heap.size v L∧∀t∈L,0≤t.b∧t.b<2^64:=by
 rcases open_slice ht h with⟨hs,_⟩|⟨a,len,cap,m,n,D,Pl,hs,_,hl,hm,B_,hx,hi⟩
 ·injection hs with hs
  subst hs;exact⟨[],⟨none,0,rfl,za _,by decide,fun i t hit=>by simp at hit⟩,fun t ht=>by cases ht⟩
 ·injection hs with hs
  subst hs hx;have hm':m=cap:=by simpa using B_
  obtain⟨hr,hel⟩:=jM.slice hL ht;rw [hb]at hr;simp only [ZK,List.length_range,reachBytes]at hr
  haveI:Inhabited (Fl×Value×Value×Value):=⟨⟨⟨0,0,0,0,0,[],[],[],[]⟩, .bool false, .bool false, .bool false⟩⟩
  obtain⟨K,hK⟩:=choose_lt (α:=Fl×Value×Value×Value) (n:=len) (p:=fun i q=>FV w w.heap.size q.1 q.2.1 q.2.2.1 q.2.2.2∧(0≤q.1.b∧q.1.b<2^64)∧∀j u,(cG q.1 q.2.1 q.2.2.1 q.2.2.2)[j]? =some u→w.cell? (a.add (i*9+j))=some u) (fun i hil=>by
   obtain⟨xO,s_,htr⟩:=hi i (by omega)
   rw [hC]at s_;obtain⟨_,om,Fy⟩:=World.cells?_some s_;obtain⟨tm,vv,kv,av,hT,rfl,Wh⟩:=GI he mW hC h0 h1 h2 hmf h3 h4 h5 h6 h7 hti hei hic hib htk hek aeo kC kb k0 k1 k2 htr (hel (D i) (Ik.2 ⟨i,List.mem_range.2 hil,rfl⟩));refine⟨⟨tm,vv,kv,av⟩,hT,Wh,fun j u hj=> ?_⟩
   have hj8:j<(cG tm vv kv av).length:=(zq.1 hj).1;have:=Fy j (by omega)
   rw [add_add,hj]at this;exact this)
  have hll:((List.range len).map fun i=>(K i).1).length=len:=by simp
  refine⟨(List.range len).map fun i=>(K i).1,⟨some a,cap,by rw [hll],by omega,by omega,fun i t hit=> ?_⟩,fun t ht=> ?_⟩
  rotate_left
  ·obtain⟨i,yD,rfl⟩:=Ik.1 ht
   exact(hK i (List.mem_range.1 yD)).2.1
  rw [zT]at hit;obtain⟨i',hi',rfl⟩:=Option.map_eq_some_iff.1 hit
  have hil:i<len:=by
   have:=(zq.1 hi').1
   simpa using this
  rw [List.getElem?_range hil]at hi';injection hi' with hi'
  subst hi';obtain⟨hT,_,hc⟩:=hK i hil;exact⟨a,(K i).2.1,(K i).2.2.1,(K i).2.2.2,rfl,(by have:=jj (hc 0 _ rfl);rw [ak]at this;exact this),hT,hc⟩
end
end Go.Proofs.YtcpmiplofbfmfaaGreatDoor
