/- The reference's signed, pack. The reference's Nearest. Rows  -/
import Derived.Test.YtcpmiplofbfmfaaGreatDoorA18
import Derived.Deep.DeepCutAuto
import Derived.Deep.RegionHeld3
set_option linter.all false
set_option maxRecDepth 100000
set_option maxHeartbeats 1000000
namespace Go.Proofs.YtcpmiplofbfmfaaGreatDoor
open Go.Proofs.Tryz
open Lib renaming hid→J
open Go.RowKit FloM
theorem Xz(u:Nat)(h:u<2^63):u|||2^63=2^63+u:=by
 have:=Nat.shiftLeft_add_eq_or_of_lt (i:=63) (b:=u) h 1;rw [ZT,zP]at this;rw [Nat.or_comm,←this]
theorem Br(u:Nat)(h:u<2^63):bits .or .u64 (u:Int) 9223372036854775808=((2^63+u:Nat):Int):=by
 have:=u64_or_nat u (2^63) (by omega) (by decide)
 rw [Xz u h]at this;exact this
theorem Kx(b:Bool)(u:Nat)(w:World)(hu:u<2^63):Calls prog 236 #[.bool b, .int .u64 u] w fun e w'=>e= .returned (.int .u64 (wd b u:Nat))∧w=w':=by
 cases b
 ·have hw:wd false u=u:=rfl
  rw [hw];clear hw hu;go_enter func236,ntmps236
  go_wp2
  go_ret;exact⟨rfl,rfl⟩
 ·have hw:wd true u=2^63+u:=rfl
  rw [hw];have hb:=Br u hu;clear hw hu;generalize 2^63+u=r at *;go_enter func236,ntmps236
  go_wp2
  go_ret;exact⟨rfl,rfl⟩
theorem lE(b:Bool)(u:Nat)(x:Int)(w:World)(hu:u<2^63)(hx:x=(u:Int)):Calls prog 236 #[.bool b, .int .u64 x] w fun e w'=>e= .returned (.int .u64 (wd b u:Nat))∧w=w':=by
 subst hx;exact Kx b u w hu
theorem So(m:Nat):m&&&4503599627370495=m%2^52:=by
 have:=Z3 m 52
 rwa [show(2:Nat)^52-1=4503599627370495 by decide]at this
theorem tP(m:Nat)(h:m<2^64):bits .and .u64 (m:Int) 4503599627370495=((m%2^52:Nat):Int):=by
 have:=u64_and_nat m 4503599627370495 (by omega) (by decide)
 rw [So]at this;exact this
theorem acy(e f:Nat)(hf:f<2^52):e*2^52|||f=e*2^52+f:=by
 have:=Nat.shiftLeft_add_eq_or_of_lt (i:=52) (b:=f) hf e;rw [ZT]at this;exact this.symm
theorem Dk(x:Int)(e f:Nat)(hx:x=(e:Int))(he:e<2048)(hf:f<2^52):bits .or .u64 (x*4503599627370496) (f:Int)=((e*2^52+f:Nat):Int):=by
 subst hx;have:=u64_or_nat (e*2^52) f (by omega) (by omega)
 rw [acy e f hf,Zd]at this;exact this
theorem Dl{m e:Nat}{p:Int}(h: ¬m<2^52)(he:(e:Int)=p+1075)(he2:e<2047):yf m p=e*2^52+(m-2^52):=by
 unfold yf;rw [ze h,ze (by omega),←he,zv]
theorem yX{m:Nat}{p:Int}(h:m=2^53):km m p=yf (2^52) (p+1):=by unfold km;rw [zh h]
theorem tQ{m:Nat}{p:Int}(h: ¬m=2^53):km m p=yf m p:=by unfold km;rw [ze h]
theorem XB{m:Nat}{p:Int}(h:m<2^52):yf m p=m:=zh h
theorem Dm{m:Nat}{p:Int}(h: ¬m<2^52)(h2:2047≤p+1075):yf m p=cap:=by unfold yf;rw [ze h,zh h2]
theorem XC(b:Bool)(m:Nat)(p:Int)(w:World)(h:m<2^52):Calls prog 249 #[.bool b, .int .u64 m, .int .i64 p] w fun e w'=>e= .returned (.int .u64 (wd b m:Nat))∧w=w':=by
 have d1:((m:Int)==9007199254740992)=false:=by rw [zf];omega
 have d2:decide ((m:Int)<4503599627370496)=true:=zc (by omega)
 have C:=J (fun w=>Kx b m w (by omega))
 clear h;go_enter func249,ntmps249;go_wp2_with (go_at_call 236;(with_reducible refine(C.out _).q ?_));go_ret;exact⟨rfl,rfl⟩
theorem Sp(b:Bool)(m:Nat)(p:Int)(w:World)(h:2^52≤m)(hm:m<2^53)(V7:972≤p)(yC:p≤1000000):Calls prog 249 #[.bool b, .int .u64 m, .int .i64 p] w fun e w'=>e= .returned (.int .u64 (wd b cap:Nat))∧w=w':=by
 have d1:((m:Int)==9007199254740992)=false:=by rw [zf];omega
 have d2:decide ((m:Int)<4503599627370496)=false:=zb (by omega)
 have C:=J (fun w=>lE b cap 9218868437227405312 w np (by decide))
 clear h hm;generalize wd b cap=r at *;go_enter func249,ntmps249;go_upto_region 6 with(fail)
 clear d1 d2;go_wp2_with (go_at_call 236;(with_reducible refine(C.out _).q ?_));go_ret;exact⟨rfl,rfl⟩
theorem Sq(b:Bool)(m e:Nat)(p:Int)(w:World)(h:2^52≤m)(hm:m<2^53)(he:(e:Int)=p+1075)(he2:e<2047):Calls prog 249 #[.bool b, .int .u64 m, .int .i64 p] w fun e' w'=>e'= .returned (.int .u64 (wd b (e*2^52+(m-2^52)):Nat))∧w=w':=by
 have d1:((m:Int)==9007199254740992)=false:=by rw [zf];omega
 have d2:decide ((m:Int)<4503599627370496)=false:=zb (by omega)
 have hf:=tP m (by omega)
 have hp:p+1075≤2046:=by omega
 have hp0:0≤p+1075:=by omega
 have bw:e*2^52+(m-2^52)<2^63:=by omega
 have rS:=J bw;have HE:=J he;have B_:m%2^52=m-2^52:=by omega
 have Wp:m-2^52<2^52:=by omega
 rw [B_]at hf;have yG:=J (acy e (m-2^52) Wp);clear h hm bw he B_;generalize m-2^52=f at *;go_enter func249,ntmps249;go_upto_region 6 with(fail)
 clear d1 d2;go_wp2_with fail;refine(lE b _ _ _ rS.out (Dk _ e f HE.out.symm (by omega) Wp)).mono ?_
 rintro e' w' ⟨rfl,rfl⟩;go_wp2_with fail;go_ret;exact⟨rfl,rfl⟩
theorem acz:bits .and .u64 (4503599627370496:Int) 4503599627370495=((0:Nat):Int):=by
 have h:=tP 4503599627370496 (by decide)
 rw [show 4503599627370496%2^52=0 by decide]at h
 exact h
theorem Bt(b:Bool)(p:Int)(w:World)(x:Int)(hx:x=9007199254740992)(V7:971≤p)(yC:p≤1000000):Calls prog 249 #[.bool b, .int .u64 x, .int .i64 p] w fun e w'=>e= .returned (.int .u64 (wd b cap:Nat))∧w=w':=by
 subst hx;have C:=J (fun w=>lE b cap 9218868437227405312 w np (by decide))
 generalize wd b cap=r at *;go_enter func249,ntmps249;go_wp2_with (go_at_call 236;(with_reducible refine(C.out _).q ?_));go_ret;exact⟨rfl,rfl⟩
theorem Bu(b:Bool)(e:Nat)(p:Int)(w:World)(x:Int)(hx:x=9007199254740992)(he:(e:Int)=p+1+1075)(he2:e<2047)(r:Nat)(hr:r=e*2^52):Calls prog 249 #[.bool b, .int .u64 x, .int .i64 p] w fun e' w'=>e'= .returned (.int .u64 (wd b r:Nat))∧w=w':=by
 subst hx;have hf:=acz;have hp:p+1+1075≤2046:=by omega
 have hp0:0≤p+1+1075:=by omega
 have rS:=J (show r<2^63 by omega)
 have HR:=J (show((e*2^52+0:Nat):Int)=(r:Int)by omega)
 have HE:=J he;clear he hr;go_enter func249,ntmps249;go_wp2_with fail;refine(lE b _ _ _ rS.out ((Dk _ e 0 HE.out.symm (by omega) (by decide)).trans HR.out)).mono ?_
 rintro e' w' ⟨rfl,rfl⟩;go_wp2_with fail;go_ret;exact⟨rfl,rfl⟩
theorem oO(b:Bool)(m:Nat)(x p:Int)(w:World)(hm:m≤2^53)(hx:x=(m:Int))(V7: -1074≤p)(yC:p≤900000):Calls prog 249 #[.bool b, .int .u64 x, .int .i64 p] w fun e w'=>e= .returned (.int .u64 (wd b (km m p):Nat))∧w=w':=by
 by_cases h:m=2^53
 ·by_cases h2:2047≤p+1+1075
  ·have e:km m p=cap:=(yX h).trans (Dm (by omega) h2)
   rw [e];exact Bt b p w x (by omega) (by omega) (by omega)
  ·obtain⟨e,he⟩: ∃e:Nat,(e:Int)=p+1+1075:=⟨(p+1+1075).toNat,by omega⟩
   have e1:km m p=e*2^52:=(yX h).trans ((Dl (by omega) he (by omega)).trans (by omega))
   rw [e1];exact Bu b e p w x (by omega) he (by omega) _ rfl
 ·subst hx
  by_cases h1:m<2^52
  ·rw [(tQ h).trans (XB h1)];exact XC b m p w h1
  ·by_cases h2:2047≤p+1075
   ·rw [(tQ h).trans (Dm h1 h2)]
    exact Sp b m p w (by omega) (by omega) (by omega) (by omega)
   ·obtain⟨e,he⟩: ∃e:Nat,(e:Int)=p+1075:=⟨(p+1075).toNat,by omega⟩
    rw [(tQ h).trans (Dl h1 he (by omega))]
    exact Sq b m e p w (by omega) (by omega) he (by omega)
def jq(w:World)(r:Nat)(e:Ending)(w':World):Prop:=e= .returned (.int .u64 (r:Int))∧Below w.heap.size w w'
theorem aH{w:World}{g:Nat}{t:TypeId}{x y z:Value}(h:ai w g t #[x,y,z]):w.cell? ⟨g,0,none⟩=some x∧w.cell? ⟨g,1,none⟩=some y∧w.cell? ⟨g,2,none⟩=some z:=⟨h.cell 0,h.cell 1,h.cell 2⟩
theorem Mz(b s:Bool)(va:Value)(P:Int)(w:World)(ha:D w va 0):
 Calls prog 188 #[.agg #[.bool b,va, .int .i64 P], .bool s] w (jq w (wd b 0)):=by
 obtain⟨A,c,rfl,_⟩:=ha;rw [ib];have C:=J (fun w=>lE b 0 0 w (by decide) rfl)
 go_enter func188,ntmps188;go_wp2_with (go_at_call 236;(with_reducible refine(C.out _).q ?_));go_ret;exact⟨rfl,(zg _ _).alloc (za _) _⟩
theorem Sr(b s:Bool)(va:Value)(M:Nat)(P:Int)(w:World)(hM0:M≠0)(hM:nd M≤20000)(Lo: -100000≤P)(QO:P≤100000)(ha:D w va M):
 Calls prog 188 #[.agg #[.bool b,va, .int .i64 P], .bool s] w (jq w (wd b (km (oI (4*M+s.toNat) (P-2)) (jJ (4*M+s.toNat) (P-2))))):=by
 have HA:=J ha;obtain⟨A,c,rfl,_⟩:=ha;have hl0:((nd M:Int)==0)=false:=by have:=wE hM0;rw [zf];omega
 generalize Wm:nd M=nm at *;have Y8:=J Wm;clear Wm;obtain⟨m,hm⟩: ∃m,m=4*M+s.toNat:=⟨_,rfl⟩;rw [←hm];have HM:=J hm;have hm0:m≠0:=by omega
 have hmb:nd m≤20010:=by
  have h1:m≤M*2^3:=by have:s.toNat≤1:=by cases s<;>decide
                      omega
  have h2:=jS h1;have h3:=eC M 3;rw [Y8.out]at h3;omega
 clear hm
 cases s
 case' false=>
  go_enter func188,ntmps188;go_wp2_with fail;refine(gM _ M 2 _ _ (by have:=Y8.out;omega) (by omega) rfl (HA.out.below ((zg _ _).alloc (za _) _))).mono ?_
  rintro e w5 ⟨v5,rfl,ow,_,bT⟩;have dx:=(ai.new w _ #[.bool b, .slice A nm c, .int .i64 P]).below bT (by simp)
  obtain⟨c0,c1,c2⟩:=aH dx;have em:M*2^2=m:=by have:=HM.out;simp at this;omega
  rw [em]at ow;have ya:=J ow;have fE:=J (((zg w.heap.size w).alloc (za _) _).trans (bT.mono (by simp)))
  have Lw:=J dx;clear ow bT dx em HM;go_wp2_with fail
 case' true=>
  go_enter func188,ntmps188;go_wp2_with fail;refine(gM _ M 2 _ _ (by have:=Y8.out;omega) (by omega) rfl (HA.out.below ((zg _ _).alloc (za _) _))).mono ?_
  rintro e w2 ⟨v2,rfl,hv2,_,ba⟩;have jA:=(ai.new w _ #[.bool b, .slice A nm c, .int .i64 P]).below ba (by simp)
  obtain⟨c0,c1,c2⟩:=aH jA;have ln:=J hv2;have bM:=J (((zg w.heap.size w).alloc (za _) _).trans (ba.mono (by simp)))
  have Vo:=J jA;have JO:=eC M 2;rw [Y8.out]at JO;have xL:=J JO;have hs2:=ba.size;clear hv2 ba jA JO;go_wp2_with fail;refine(Di _ _ (M*2^2) 1 _ (by have:=xL.out;omega) (by decide) (ln.out.below ((zg _ _).alloc (za _) _)) (sl w2)).mono ?_
  rintro e w5 ⟨v5,rfl,ow,_,bT⟩;clear c0 c1 c2;have bw:w.heap.size<(w2.alloc (.cells #[.int .u16 1] 254)).heap.size:=by have:=Vo.out.lt;simp;omega
  have dx:=(Vo.out.alloc (.cells #[.int .u16 1] 254)).below bT bw;obtain⟨c0,c1,c2⟩:=aH dx;have em:M*2^2+1=m:=by have:=HM.out;simp at this;omega
  rw [em]at ow;have ya:=J ow;have fE:=J ((bM.out.alloc (by have:=Vo.out.lt;omega) (.cells #[.int .u16 1] 254)).trans (bT.mono (by omega)))
  have Lw:=J dx;clear ow bT dx em HM bw;go_wp2_with fail
 all_goals
  have hq:=Bi m (P-2) 200000 hm0 (by omega)
  have qB:bl m≤16*20010:=by have:=(kl m (16*nd m)).2 (by rw [←jR];exact eQ m);omega
  obtain⟨Q,hQ⟩: ∃Q,Q=jJ m (P-2):=⟨_,rfl⟩;obtain⟨K,hK⟩: ∃K,K=oI m (P-2):=⟨_,rfl⟩
  have Y9:(if(bl m:Int)+(P-2)-53< -1074 then -1074 else(bl m:Int)+(P-2)-53)=Q:=by
   rw [hQ];unfold jJ;split<;>omega
  have HQK:=J (show km (oI m (P-2)) (jJ m (P-2))=km K Q by rw [hQ,hK])
  rw [←hQ,←hK]at hq;have hQ1: -1074≤Q:=by rw [hQ];unfold jJ;omega
  have hQ2:Q≤500000:=by rw [hQ];unfold jJ;omega
  have hQ3:Q-(P-2)≤400000:=by rw [hQ];unfold jJ;omega
  have hK2:=hq.2.1;unfold oI at hK;rw [←hQ]at hK;have HK:=J hK;clear hq hQ hK;refine(Bo v5 m _ (by omega) ya.out).mono ?_
  rintro e w' ⟨rfl,rfl⟩
  by_cases xI:Q≤P-2
  ·have hK3:K=m*2^(P-2-Q).toNat:=by rw [HK.out,zh xI]
   obtain⟨n,hn⟩: ∃n:Nat,(n:Int)=P-2-Q:=⟨(P-2-Q).toNat,by omega⟩
   rw [←hn,zv]at hK3;have hn4:n≤400000:=by omega
   have hw:IntKind.i64.wrap (P-2-Q)=(n:Int):=by rw [←hn];exact Zs _ (by omega)
   have Qg:=J hK3;have hg:=Lw.out.lt;have FB:w.heap.size≤w5.heap.size:=fE.out.size;clear hK3 hn HK;go_wp2_with fail;clear qB Y9
   go_region_held3 (fun w'=>w'.cell? ⟨w.heap.size,0,none⟩=some (.bool b)) (first|go_keep|assumption)
    (first
     |(go_at_call 239;refine(gM v5 m n _ _ (by omega) hn4 rfl (by exact ya.out)).mono ?_;rintro e w6 ⟨v6,rfl,Qj,_,fC⟩;have HV6:=J Qj;have c6:w6.cell? ⟨w.heap.size,0,none⟩=some (.bool b):=(fC.cell (p:=⟨w.heap.size,0,none⟩) (by exact hg)).trans (by exact c0);have lS:=J fC;clear Qj fC)
     |(go_at_call 241;refine(lD v6 (m*2^n) _ (by rw [←Qg.out];omega) (by exact HV6.out)).mono ?_;rintro e w' ⟨rfl,rfl⟩)
     |(go_at_call 249;refine(oO b K _ Q _ hK2 (by rw [Qg.out,Zd,Int.natCast_pow];rfl) hQ1 (by omega)).mono ?_;rintro e w' ⟨rfl,rfl⟩))
   go_wp2_with fail
   go_ret;exact⟨by rw [HQK.out];rfl,fE.out.drew.trans (lS.out.mono FB)⟩
  ·have hK3:K=jE m (2^(Q-(P-2)).toNat):=by rw [HK.out,ze xI]
   obtain⟨n,hn⟩: ∃n:Nat,(n:Int)=Q-(P-2):=⟨(Q-(P-2)).toNat,by omega⟩
   rw [←hn,zv]at hK3;have hn4:n≤400000:=by omega
   have Qg:=J hK3;have HN:=J hn;have hg:=Lw.out.lt;have FB:w.heap.size≤w5.heap.size:=fE.out.size;clear hK3 hn HK;go_wp2_with fail;clear qB Y9;refine(gM _ 1 n _ _ (by decide) hn4 HN.out.symm (sl w5)).mono ?_
   rintro e w6 ⟨v6,rfl,Qj,_,fC⟩;rw [zP]at Qj;have JV:Below w.heap.size w w6:=(fE.out.alloc FB _).trans (fC.mono (by simp;omega))
   have h56:Below w5.heap.size w5 w6:=((zg _ _).alloc (za _) _).trans (fC.mono (by simp))
   have HV6:=J Qj;have lS:=J JV;have akR:=J (ya.out.below h56);have abm:=J (Lw.out.below h56 hg);have hU:=zo n
   have hUn:nd (2^n)≤50000:=by have:=eC 1 n;rw [zP]at this;have:nd 1=1:=by decide
                               omega
   clear Qj fC JV h56 c0 c1 c2;obtain⟨k,hk⟩: ∃k,k=m/2^n:=⟨_,rfl⟩;obtain⟨r,hr⟩: ∃r,r=m%2^n:=⟨_,rfl⟩;have hKr:K=k+(if 2^n<2*r∨(2*r=2^n∧k%2=1)then 1 else 0):=by rw [Qg.out,hk,hr];rfl
   have hrm:nd r≤nd m:=jS (by rw [hr];exact Nat.mod_le _ _)
   have apW:k≤9007199254740992:=by rw [hKr]at hK2;split at hK2<;>omega
   have HKR:=J hKr;have HKK:=J hk;have oj:=J hr;clear hKr hk hr Qg;generalize 2^n=U at *;go_wp2_with fail;refine(sk v5 v6 m U _ (by omega) (by omega) hU akR.out HV6.out).mono ?_
   rintro e w7 ⟨v7,u7,rfl,hv7,hu7,_,_,Lv⟩;rw [←HKK.out]at hv7;rw [←oj.out]at hu7;have vY:=lS.out.size;have HV7:=J hv7;have HU7:=J hu7;have HB7:=J (lS.out.trans (Lv.mono vY));have akO:=J (HV6.out.below Lv);have abn:=J (abm.out.below Lv abm.out.lt);clear hv7 hu7 Lv;go_wp2_with fail;refine(lD v7 k _ (by omega) HV7.out).mono ?_
   rintro e w' ⟨rfl,rfl⟩;go_wp2_with fail;refine(gM u7 r 1 _ _ (by omega) (by omega) rfl HU7.out).mono ?_
   rintro e w8 ⟨v8,rfl,hv8,_,Lu⟩;rw [show r*2^1=2*r by omega]at hv8
   have hs7:=HB7.out.size;have HV8:=J hv8;have HB8:=J (HB7.out.trans (Lu.mono hs7));have akQ:=J (akO.out.below Lu);have dx:=abn.out.below Lu abn.out.lt;have h2r:nd (2*r)≤50000:=by have:=eC r 1;rw [show r*2^1=2*r by omega]at this;omega
   obtain⟨c0,c1,c2⟩:=aH dx;clear hv8 Lu dx;go_wp2_with fail;refine(uI v8 v6 (2*r) U _ (by omega) HV8.out akQ.out).mono ?_
   rintro e w9 ⟨rfl,n9,rfl⟩
   rcases ZG U (2*r)with h|h|h
   ·rw [vK h]
    have Vp:K=k+1:=by rw [HKR.out,zh (.inl h)]
    have HKE:=J Vp;clear Vp h;go_wp2_with fail;refine(oO b K _ Q _ hK2 (by rw [HKE.out];go_num) hQ1 (by omega)).mono ?_
    rintro e w' ⟨rfl,rfl⟩;go_wp2_with fail;go_ret;exact⟨by rw [HQK.out];rfl,below_drewN HB8.out _⟩
   ·rw [sj h.symm]
    by_cases ho:k%2=1
    ·have Vp:K=k+1:=by rw [HKR.out,zh (.inr ⟨h.symm,ho⟩)]
     have HKE:=J Vp;have d1:(((k:Int)%2)==1)=true:=by rw [Zr];omega
     clear Vp h ho;go_wp2_with fail;refine(oO b K _ Q _ hK2 (by rw [HKE.out];go_num) hQ1 (by omega)).mono ?_
     rintro e w' ⟨rfl,rfl⟩;go_wp2_with fail;go_ret;exact⟨by rw [HQK.out];rfl,below_drewN HB8.out _⟩
    ·have Vp:K=k:=by rw [HKR.out,ze (by omega)];omega
     have HKE:=J Vp;have d1:(((k:Int)%2)==1)=false:=by rw [zf];omega
     clear Vp h ho;go_wp2_with fail;refine(oO b K _ Q _ hK2 (by rw [HKE.out]) hQ1 (by omega)).mono ?_
     rintro e w' ⟨rfl,rfl⟩;go_wp2_with fail;go_ret;exact⟨by rw [HQK.out];rfl,below_drewN HB8.out _⟩
   ·rw [vJ h]
    have Vp:K=k:=by rw [HKR.out,ze (by omega)];omega
    have HKE:=J Vp;clear Vp h;go_wp2_with fail;refine(oO b K _ Q _ hK2 (by rw [HKE.out]) hQ1 (by omega)).mono ?_
    rintro e w' ⟨rfl,rfl⟩;go_wp2_with fail;go_ret;exact⟨by rw [HQK.out];rfl,below_drewN HB8.out _⟩
theorem kr(b s:Bool)(va:Value)(M:Nat)(P:Int)(w:World)(hM:nd M≤20000)(Lo: -100000≤P)(QO:P≤100000)(ha:D w va M):
 Calls prog 188 #[.agg #[.bool b,va, .int .i64 P], .bool s] w (jq w (wd b (ig M P s.toNat))):=by
 by_cases h:M=0
 ·have e:ig M P s.toNat=0:=zh h
  rw [e];subst h;exact Mz b s va P w ha
 ·have e:ig M P s.toNat=km (oI (4*M+s.toNat) (P-2)) (jJ (4*M+s.toNat) (P-2)):=ze h
  rw [e];exact Sr b s va M P w h hM Lo QO ha
theorem D.shape{w:World}{v:Value}{N:Nat}(h:D w v N): ∃A c,v= .slice A (nd N) c:=by
 obtain⟨A,c,e,_⟩:=h;exact⟨A,c,e⟩
theorem kt{x:Nat}(h:x<2^64):nd x≤4:=sd h
end Go.Proofs.YtcpmiplofbfmfaaGreatDoor
namespace FloM
theorem ajv(u:Nat)(_h:u<2^64):u/2^52%2048=rg u/2^52:=by unfold rg;omega
theorem ajw(u:Nat):u%2^52=rg u%2^52:=by unfold rg;omega
theorem afQ{u:Nat}(h:rg u/2^52=0):mg (rg u)=rg u%2^52∧pp u= -1074:=by
 have h1:rg u<2^52:=by omega
 unfold mg pp up;rw [zh h1,zA h1,h];exact⟨rfl,by omega⟩
theorem afR{u:Nat}(h:rg u/2^52≠0):mg (rg u)=2^52+rg u%2^52∧pp u=((rg u/2^52:Nat):Int)-1075:=by
 have h1: ¬rg u<2^52:=by omega
 unfold mg pp up;rw [ze h1];exact⟨rfl,by omega⟩
end FloM
namespace Go.Proofs.YtcpmiplofbfmfaaGreatDoor
open Go.Proofs.Tryz
open Lib renaming hid→J
open Go.RowKit FloM
theorem gN(c:Nat)(h:c<2^64):bits .and .u64 (c:Int) 9223372036854775808=((gm c:Nat):Int):=by
 have:=u64_and_nat c (2^63) (by omega) (by decide)
 rw [Rv c h]at this;exact this
theorem Ss(u:Nat)(h:u<2^64):(((gm u:Nat):Int)!=0)=bP u:=by
 obtain⟨_,_,h3⟩:=Be u h;rw [h3];unfold gm
 by_cases hu:u<2^63
 ·rw [zh hu,zb (by omega)];rfl
 ·rw [ze hu,zc (by omega)];rfl
theorem acA(u:Nat)(h:u<2^64):bits .and .u64 ((u:Int)/4503599627370496) 2047=((rg u/2^52:Nat):Int):=by
 have h1:=u64_and_nat (u/2^52) 2047 (by omega) (by decide)
 have h2:u/2^52&&&2047=u/2^52%2048:=by
  have:=Z3 (u/2^52) 11
  rwa [show(2:Nat)^11-1=2047 by decide,show(2:Nat)^11=2048 by decide]at this
 rw [h2,ajv u h]at h1;rw [←h1]
 rfl
theorem MA(m:Nat)(h:m<2^52):bits .or .u64 (m:Int) 4503599627370496=((2^52+m:Nat):Int):=by
 have h1:=u64_or_nat m (2^52) (by omega) (by decide)
 have h2:=acy 1 m h;rw [zP]at h2;rw [Nat.or_comm,h2]at h1;exact h1
theorem ku{w:World}{g:Nat}{t:TypeId}{cs:Array Value}(h:ai w g t cs):w.frozen? ⟨g,0,none⟩=false∧w.frozen? ⟨g,1,none⟩=false∧w.frozen? ⟨g,2,none⟩=false:=⟨h.frozen 0,h.frozen 1,h.frozen 2⟩
def tR(w:World)(g:Nat)(x y z:Value):World:=((w.setCell ⟨g,0,none⟩ x).setCell ⟨g,1,none⟩ y).setCell ⟨g,2,none⟩ z
theorem kw{w:World}{g:Nat}{t:TypeId}{a b c x y z:Value}(h:ai w g t #[a,b,c]):ai (tR w g x y z) g t #[x,y,z]:=((h.set_ 0 x).set_ 1 y).set_ 2 z
theorem D.set3{w:World}{v:Value}{N g:Nat}{x y z:Value}(h:D w v N)(hg:v.ownBlock≠some g):D (tR w g x y z) v N:=((h.set_ hg x).set_ hg y).set_ hg z
theorem gH{w0 w:World}{g:Nat}{x y z:Value}(h:Below w0.heap.size w0 w)(hg:w0.heap.size≤g):Below w0.heap.size w0 (tR w g x y z):=((h.setCell (p:=⟨g,0,none⟩) hg x).setCell (p:=⟨g,1,none⟩) hg y).setCell (p:=⟨g,2,none⟩) hg z
def Gk(w:World)(b:Bool)(M:Nat)(P:Int)(e:Ending)(w':World):Prop:= ∃v,e= .returned (.agg #[.bool b,v, .int .i64 P])∧D w' v M∧Below w.heap.size w w'
theorem lF(u:Nat)(hu:u<2^64)(w:World):Calls prog 181 #[.int .u64 u] w (Gk w (bP u) (mg (rg u)) (pp u)):=by
 have f1:=acA u hu;have f2:=tP u hu;have f3:=gN u hu;have f4:=Ss u hu;rw [ajw u]at f2;have hE:rg u/2^52<2048:=by unfold rg;omega
 have hm:rg u%2^52<2^52:=zU _ (by decide)
 by_cases h0:rg u/2^52=0
 ·obtain⟨e1,e2⟩:=afQ h0
  rw [h0]at f1;have E1:=J e1;have E2:=J e2;have HM:=J hm;clear e1 e2 h0 hE hm hu;generalize rg u%2^52=m at *;generalize gm u=s at *;generalize bP u=b at *;go_enter func181,ntmps181;go_wp2_with fail;refine(pN m _ (by have:=HM.out;omega)).mono ?_
  rintro e w2 ⟨v2,rfl,hv2,hf2,ba⟩;obtain⟨A2,k2,rfl⟩:=hv2.shape;have dx:=(ai.new w 198 #[.bool false, .slice none 0 0, .int .i64 0]).below ba (by simp)
  obtain⟨c0,c1,c2⟩:=aH dx;obtain⟨f0,f1',f2'⟩:=ku dx;have ln:=J hv2;have bM:=J ba;have hs2:=ba.size;have Qn:=J dx;have fa:(Value.slice A2 (nd m) k2).ownBlock≠some w.heap.size:=fun h=>by have:=hf2 _ h;simp at this;omega
  have Wq:=J fa;clear hv2 ba dx hf2 fa;go_wp2_with fail;obtain⟨r0,r1,r2⟩:=aH (kw (x:= .bool b) (y:= .slice A2 (nd m) k2) (z:= .int .i64 (-1074)) Qn.out);unfold tR at r0 r1 r2;refine zi (v:= .agg #[.bool b, .slice A2 (nd m) k2, .int .i64 (-1074)]) (by simp [results,results181,go_sem,r0,r1,r2]) rfl ⟨_,by rw [E2.out],?_,?_⟩
  ·rw [E1.out];exact ln.out.set3 Wq.out
  ·exact gH (((zg _ _).alloc (za _) _).trans (bM.out.mono (by simp))) (za _)
 ·obtain⟨e1,e2⟩:=afR h0
  have f5:=MA _ hm;have E1:=J e1;have HM:=J (show 2^52+rg u%2^52<2^53 by omega)
  clear e1 hm hu;generalize 2^52+rg u%2^52=m2 at *;generalize rg u%2^52=m at *;generalize rg u/2^52=E at *;have hE0:((E:Int)==0)=false:=by rw [zf];omega
  have E2:=J e2;clear e2 h0;generalize gm u=s at *;generalize bP u=b at *;go_enter func181,ntmps181;go_wp2_with fail;refine(pN m2 _ (by have:=HM.out;omega)).mono ?_
  rintro e w2 ⟨v2,rfl,hv2,hf2,ba⟩;obtain⟨A2,k2,rfl⟩:=hv2.shape;have dx:=(ai.new w 198 #[.bool false, .slice none 0 0, .int .i64 0]).below ba (by simp)
  obtain⟨c0,c1,c2⟩:=aH dx;obtain⟨f0,f1',f2'⟩:=ku dx;have ln:=J hv2;have bM:=J ba;have hs2:=ba.size;have Qn:=J dx;have fa:(Value.slice A2 (nd m2) k2).ownBlock≠some w.heap.size:=fun h=>by have:=hf2 _ h;simp at this;omega
  have Wq:=J fa;clear hv2 ba dx hf2 fa;go_wp2_with fail;obtain⟨r0,r1,r2⟩:=aH (kw (x:= .bool b) (y:= .slice A2 (nd m2) k2) (z:= .int .i64 ((E:Int)-1075)) Qn.out);unfold tR at r0 r1 r2;refine zi (v:= .agg #[.bool b, .slice A2 (nd m2) k2, .int .i64 ((E:Int)-1075)]) (by simp [results,results181,go_sem,r0,r1,r2]) rfl ⟨_,by rw [E2.out],?_,?_⟩
  ·rw [E1.out];exact ln.out.set3 Wq.out
  ·exact gH (((zg _ _).alloc (za _) _).trans (bM.out.mono (by simp))) (za _)
end Go.Proofs.YtcpmiplofbfmfaaGreatDoor
namespace FloM
theorem sn(u:Nat):nd (mg (rg u))≤4:=sd (zy (lB (rg u)) (by decide))
theorem yY(u:Nat): -1074≤pp u∧(u<2^64→pp u≤972):=by
 unfold pp up;refine⟨by omega,fun _=> ?_⟩
 have:rg u/2^52<2048:=by unfold rg;omega
 omega
end FloM
namespace Go.Proofs.YtcpmiplofbfmfaaGreatDoor
open Go.Proofs.Tryz
open Lib renaming hid→J
open Go.RowKit FloM
theorem iS(w:World)(o o':Obj):Below w.heap.size w ((w.alloc o).alloc o'):=((zg _ _).alloc (za _) o).alloc (by simp) o'
theorem iT{w:World}{g g':Nat}{t t':TypeId}{a b c a' b' c':Value}(h:ai w g t #[a,b,c])(h':ai w g' t' #[a',b',c']):
 w.cell? ⟨g,1,none⟩=some b∧w.cell? ⟨g,2,none⟩=some c∧w.cell? ⟨g',1,none⟩=some b'∧w.cell? ⟨g',2,none⟩=some c':=⟨h.cell 1,h.cell 2,h'.cell 1,h'.cell 2⟩
set_option maxHeartbeats 8000000
theorem vL(n:Nat):nd (10^n)≤n+1:=by
 rw [fJ];exact zW (Nat.pow_le_pow_left (by decide:10≤65536) n) (Nat.pow_lt_pow_right (by decide) (Nat.lt_succ_self n))
theorem nu(a b:Nat):nd (a*b)≤nd a+nd b:=by
 rw [fJ,zu];exact Nat.mul_lt_mul'' (eQ a) (eQ b)
theorem ij(vd vm:Value)(b:Bool)(d M n q:Nat)(w:World)(hd:nd d≤10000)(hM:nd M≤10000):(∀(hn:n≤2000) (hq:q≤4000) (ha:D w vd d) (hm:D w vm M),Calls prog 294 #[vd, .int .i64 (n:Int), .agg #[.bool b,vm, .int .i64 (q:Int)]] w fun e w'=>e= .returned (.int .i64 (cW (d*10^n) ((M)*2^q)))∧Below w.heap.size w w')∧(∀(hn:n≤2000) (AL:0<q) (hq:q≤4000) (ha:D w vd d) (hm:D w vm M),Calls prog 294 #[vd, .int .i64 (n:Int), .agg #[.bool b,vm, .int .i64 (-(q:Int))]] w fun e w'=>e= .returned (.int .i64 (cW ((d*10^n)*2^q) (M)))∧Below w.heap.size w w')∧(∀(JR:0<n) (hn:n≤2000) (hq:q≤4000) (ha:D w vd d) (hm:D w vm M),Calls prog 294 #[vd, .int .i64 (-(n:Int)), .agg #[.bool b,vm, .int .i64 (q:Int)]] w fun e w'=>e= .returned (.int .i64 (cW (d) ((M*10^n)*2^q)))∧Below w.heap.size w w')∧(∀(JR:0<n) (hn:n≤2000) (AL:0<q) (hq:q≤4000) (ha:D w vd d) (hm:D w vm M),Calls prog 294 #[vd, .int .i64 (-(n:Int)), .agg #[.bool b,vm, .int .i64 (-(q:Int))]] w fun e w'=>e= .returned (.int .i64 (cW ((d)*2^q) (M*10^n)))∧Below w.heap.size w w'):=by
 refine⟨?_,?_,?_,?_⟩;intro hn hq ha hm;have aj:=J (rfl:0=0)
 rotate_left;intro hn AL hq ha hm;have aG:=J (rfl:0=0)
 rotate_left;intro JR hn hq ha hm;have aP:=J (rfl:0=0)
 rotate_left;intro JR hn AL hq ha hm
 all_goals
  obtain⟨A,c,rfl⟩:=ha.shape;obtain⟨B,k,rfl⟩:=hm.shape;have HA:=J ha;have HM:=J hm;have ht:=vL n
  first
   |(first|replace aj:=aj|replace aG:=aG)
    have hdt:=nu d (10^n)
   |have hdt:=nu M (10^n)
  have HT:=J ht;have Wr:=J hdt;clear ht hdt;generalize hld:nd d=ld at *;generalize Vr:nd M=lm at *;have JW:=J hld;have pz:=J Vr;clear hld Vr;have JX:=J hd;have pD:=J hM;clear ha hm hd hM;go_enter func294,ntmps294;go_wp2_with fail
  first
   |(first|replace aj:=aj|replace aP:=aP)
    have dx:=ai.new w 198 #[.bool b, .slice B lm k, .int .i64 (q:Int)]
   |have dx:=ai.new w 198 #[.bool b, .slice B lm k, .int .i64 (-(q:Int))]
  obtain⟨c0,c1,c2⟩:=aH dx;have Qn:=J dx;clear dx;go_quiet (fail)
  rename_i nq;go_wp2_with fail;refine(Kw n _ (by omega)).mono ?_
  rintro e w1 ⟨v1,rfl,j8,Qp,bW⟩
  first
   |(first|replace aj:=aj|replace aP:=aP)
    have Lx:ai ((w.alloc (.cells #[.bool b, .slice B lm k, .int .i64 (q:Int)] 198)).drewN nq) w.heap.size 198 #[.bool b, .slice B lm k, .int .i64 (q:Int)]:=Qn.out
   |have Lx:ai ((w.alloc (.cells #[.bool b, .slice B lm k, .int .i64 (-(q:Int))] 198)).drewN nq) w.heap.size 198 #[.bool b, .slice B lm k, .int .i64 (-(q:Int))]:=Qn.out
  have abp:=Lx.below bW Lx.lt;have rK:=J j8
  first
   |(first|replace aj:=aj|replace aP:=aP)
    have bi:=J (below_drewN ((zg w.heap.size w).alloc (za _) (.cells #[.bool b, .slice B lm k, .int .i64 (q:Int)] 198)) nq)
   |have bi:=J (below_drewN ((zg w.heap.size w).alloc (za _) (.cells #[.bool b, .slice B lm k, .int .i64 (-(q:Int))] 198)) nq)
  have bp:=J bW;have qy:=bW.size;have Ln:=J abp;clear j8 Qp bW abp Lx c0 c1 c2;go_wp2_with fail
  first
   |(first|replace aj:=aj|replace aG:=aG)
    refine(uJ _ v1 d (10^n) _ (by have:=JW.out;have:=JX.out;omega) (by have:=HT.out;omega) ((HA.out.below bi.out).below bp.out) rK.out).mono ?_
   |refine(uJ _ v1 M (10^n) _ (by have:=pz.out;have:=pD.out;omega) (by have:=HT.out;omega) ((HM.out.below bi.out).below bp.out) rK.out).mono ?_
  rintro e w2 ⟨v2,rfl,hv2,hf2,ba⟩;have jA:=Ln.out.below ba Ln.out.lt;have ln:=J hv2;have bM:=J ba;have hs2:=ba.size;have UW:=J jA;obtain⟨c0,c1,c2⟩:=aH jA;clear hv2 hf2 ba jA;go_wp2_with fail
  first
   |replace aj:=aj
    refine(gM _ M q _ _ (by have:=Wr.out;have:=HT.out;have:=JW.out;have:=JX.out;have:=pz.out;have:=pD.out;omega) (by omega) (by go_num) (((HM.out.below bi.out).below bp.out).below bM.out)).mono ?_
   |replace aG:=aG
    refine(gM v2 (d*10^n) q _ _ (by have:=Wr.out;have:=HT.out;have:=JW.out;have:=JX.out;have:=pz.out;have:=pD.out;omega) (by omega) (by go_num) ln.out).mono ?_
   |replace aP:=aP
    refine(gM v2 (M*10^n) q _ _ (by have:=Wr.out;have:=HT.out;have:=JW.out;have:=JX.out;have:=pz.out;have:=pD.out;omega) (by omega) (by go_num) ln.out).mono ?_
   |refine(gM _ d q _ _ (by have:=Wr.out;have:=HT.out;have:=JW.out;have:=JX.out;have:=pz.out;have:=pD.out;omega) (by omega) (by go_num) (((HA.out.below bi.out).below bp.out).below bM.out)).mono ?_
  rintro e w3 ⟨v3,rfl,ll,JP,bq⟩;have ou:=J ll;have dF:=J bq;have Cp:=bq.size;clear ll JP bq c0 c1 c2;go_wp2_with fail
  first
   |replace aj:=aj
    have qX:=J (eC (d*10^n) q);refine(uI v2 v3 (d*10^n) ((M)*2^q) _ (by have:=Wr.out;have:=HT.out;have:=JW.out;have:=JX.out;have:=pz.out;have:=pD.out;have:=qX.out;omega) (ln.out.below dF.out) ou.out).mono ?_
   |replace aG:=aG
    have qX:=J (eC (d*10^n) q);refine(uI v3 _ ((d*10^n)*2^q) (M) _ (by have:=Wr.out;have:=HT.out;have:=JW.out;have:=JX.out;have:=pz.out;have:=pD.out;have:=qX.out;omega) ou.out ((((HM.out.below bi.out).below bp.out).below bM.out).below dF.out)).mono ?_
   |replace aP:=aP
    have qX:=J (eC (d) q);refine(uI _ v3 (d) ((M*10^n)*2^q) _ (by have:=Wr.out;have:=HT.out;have:=JW.out;have:=JX.out;have:=pz.out;have:=pD.out;have:=qX.out;omega) ((((HA.out.below bi.out).below bp.out).below bM.out).below dF.out) ou.out).mono ?_
   |have qX:=J (eC (d) q)
    refine(uI v3 v2 ((d)*2^q) (M*10^n) _ (by have:=Wr.out;have:=HT.out;have:=JW.out;have:=JX.out;have:=pz.out;have:=pD.out;have:=qX.out;omega) ou.out (ln.out.below dF.out)).mono ?_
  rintro e w4 ⟨rfl,n4,rfl⟩;go_wp2_with fail;go_ret;refine⟨rfl,below_drewN ?_ _⟩;have b1:Below w.heap.size w w1:=bi.out.trans (bp.out.mono bi.out.size);exact(b1.trans (bM.out.mono (by have:=b1.size;omega))).trans (dF.out.mono (by have:=b1.size;omega))
def Gp a b c d e f g h i j:=(ij a b c d e f g h i j).1
def Gq a b c d e f g h i j:=(ij a b c d e f g h i j).2.1
def Gr a b c d e f g h i j:=(ij a b c d e f g h i j).2.2.1
def Gs a b c d e f g h i j:=(ij a b c d e f g h i j).2.2.2
end Go.Proofs.YtcpmiplofbfmfaaGreatDoor
namespace FloM
theorem Sy(n:Nat):tA (n:Int)=10^n∧tB (n:Int)=1:=by
 unfold tA tB;rw [zv,show(-(n:Int)).toNat=0 by omega];exact⟨rfl,rfl⟩
theorem Sz(n:Nat):tA (-(n:Int))=1∧tB (-(n:Int))=10^n:=by
 unfold tA tB;rw [Int.neg_neg,zv,show(-(n:Int)).toNat=0 by omega];exact⟨rfl,rfl⟩
end FloM
namespace Go.Proofs.YtcpmiplofbfmfaaGreatDoor
open Go.Proofs.Tryz
open Lib renaming hid→J
open Go.RowKit FloM
theorem uK(vd vm:Value)(b:Bool)(d M:Nat)(s P:Int)(w:World)(hd:nd d≤10000)(hM:nd M≤10000)(qy: -2000≤s)(hs2:s≤2000)(Lo: -4000≤P)(QO:P≤4000)(ha:D w vd d)(hm:D w vm M):Calls prog 294 #[vd, .int .i64 s, .agg #[.bool b,vm, .int .i64 P]] w fun e w'=>e= .returned (.int .i64 (cW (d*tA s*2^(-P).toNat) (M*tB s*2^P.toNat)))∧Below w.heap.size w w':=by
 rcases Zy s 0 with h1|h1
 have fD:=J (rfl:0=0)
 all_goals
  first
   |replace fD:=fD
    obtain⟨n,rfl⟩: ∃n:Nat,s= -(n:Int):=⟨(-s).toNat,by omega⟩
    obtain⟨t1,t2⟩:=Sz n
   |obtain⟨n,rfl⟩: ∃n:Nat,s=(n:Int):=⟨s.toNat,by omega⟩
    obtain⟨t1,t2⟩:=Sy n
  rw [t1,t2]
  rcases Zy P 0 with h2|h2
  ·obtain⟨q,rfl⟩: ∃q:Nat,P= -(q:Int):=⟨(-P).toNat,by omega⟩
   rw [Int.neg_neg,zv,show(-(q:Int)).toNat=0 by omega,Zl,Zj,Zj]
   first
    |replace fD:=fD
     exact Gs vd vm b d M n q w hd hM (by omega) (by omega) (by omega) (by omega) ha hm
    |exact Gq vd vm b d M n q w hd hM (by omega) (by omega) (by omega) ha hm
  ·obtain⟨q,rfl⟩: ∃q:Nat,P=(q:Int):=⟨P.toNat,by omega⟩
   rw [zv,show(-(q:Int)).toNat=0 by omega,Zl,Zj,Zj]
   first
    |replace fD:=fD
     exact Gr vd vm b d M n q w hd hM (by omega) (by omega) (by omega) ha hm
    |exact Gp vd vm b d M n q w hd hM (by omega) (by omega) ha hm
set_option maxHeartbeats 8000000
theorem nw(vm:Value)(b:Bool)(M n q:Nat)(w:World)(hM:nd M≤10000)(hn:n≤2000)(hq:q≤4000)(o:Nat)(ho:o=1):(∀(hm:D w vm M),Calls prog 244 #[.agg #[.bool b,vm, .int .i64 ((q:Int))], .int .i64 ((n:Int))] w (dR w (M*2^q/(o*10^n))))∧(∀(AL:0<q) (hm:D w vm M),Calls prog 244 #[.agg #[.bool b,vm, .int .i64 (-(q:Int))], .int .i64 ((n:Int))] w (dR w (M/(o*2^q*10^n))))∧(∀(JR:0<n) (hm:D w vm M),Calls prog 244 #[.agg #[.bool b,vm, .int .i64 ((q:Int))], .int .i64 (-(n:Int))] w (dR w (M*2^q*10^n/(o))))∧(∀(JR:0<n) (AL:0<q) (hm:D w vm M),Calls prog 244 #[.agg #[.bool b,vm, .int .i64 (-(q:Int))], .int .i64 (-(n:Int))] w (dR w (M*10^n/(o*2^q)))):=by
 refine⟨?_,?_,?_,?_⟩;intro hm;have aj:=J (rfl:0=0)
 rotate_left;intro AL hm;have aG:=J (rfl:0=0)
 rotate_left;intro JR hm;have aP:=J (rfl:0=0)
 rotate_left;intro JR AL hm
 all_goals
  obtain⟨B,k,rfl⟩:=hm.shape;have HM:=J hm;have HT:=J (vL n)
  first
   |(first|replace aj:=aj|replace aP:=aP)
    have xL:=J (eC M q)
   |have xL:=J (eC o q)
  have oo:=J (show nd o≤1 by rw [ho];decide)
  have HO:=J (show 0<o by omega)
  generalize Vr:nd M=lm at *;have pz:=J Vr;have pD:=J hM;clear Vr hm hM;go_enter func244,ntmps244
  first
   |(first|replace aj:=aj|replace aP:=aP)
    have dx:=ai.new w 198 #[.bool b, .slice B lm k, .int .i64 ((q:Int))]
   |have dx:=ai.new w 198 #[.bool b, .slice B lm k, .int .i64 (-(q:Int))]
  obtain⟨c0,c1,c2⟩:=aH dx
  first
   |(first|replace aj:=aj|replace aP:=aP)
    have jA:ai ((w.alloc (.cells #[.bool b, .slice B lm k, .int .i64 ((q:Int))] 198)).alloc (.cells #[.int .u16 1] 254)) w.heap.size 198 #[.bool b, .slice B lm k, .int .i64 ((q:Int))]:=dx.alloc (.cells #[.int .u16 1] 254)
    have mW:D ((w.alloc (.cells #[.bool b, .slice B lm k, .int .i64 ((q:Int))] 198)).alloc (.cells #[.int .u16 1] 254)) (.slice (some ⟨w.heap.size+1,0,none⟩) 1 1) o:=by
     rw [ho];have:=sl (w.alloc (.cells #[.bool b, .slice B lm k, .int .i64 ((q:Int))] 198))
     simpa using this
   |have jA:ai ((w.alloc (.cells #[.bool b, .slice B lm k, .int .i64 (-(q:Int))] 198)).alloc (.cells #[.int .u16 1] 254)) w.heap.size 198 #[.bool b, .slice B lm k, .int .i64 (-(q:Int))]:=dx.alloc (.cells #[.int .u16 1] 254)
    have mW:D ((w.alloc (.cells #[.bool b, .slice B lm k, .int .i64 (-(q:Int))] 198)).alloc (.cells #[.int .u16 1] 254)) (.slice (some ⟨w.heap.size+1,0,none⟩) 1 1) o:=by
     rw [ho];have:=sl (w.alloc (.cells #[.bool b, .slice B lm k, .int .i64 (-(q:Int))] 198))
     simpa using this
  clear ho
  first
   |(first|replace aj:=aj|replace aP:=aP)
    have hW:=iS w (.cells #[.bool b, .slice B lm k, .int .i64 ((q:Int))] 198) (.cells #[.int .u16 1] 254)
   |have hW:=iS w (.cells #[.bool b, .slice B lm k, .int .i64 (-(q:Int))] 198) (.cells #[.int .u16 1] 254)
  go_wp2_with fail
  first
   |(first|replace aj:=aj|replace aP:=aP)
    generalize hWW:(w.alloc (.cells #[.bool b, .slice B lm k, .int .i64 ((q:Int))] 198)).alloc (.cells #[.int .u16 1] 254)=W at *
   |generalize hWW:(w.alloc (.cells #[.bool b, .slice B lm k, .int .i64 (-(q:Int))] 198)).alloc (.cells #[.int .u16 1] 254)=W at *
  obtain⟨c0',c1',c2'⟩:=aH jA;have tu:=J jA;have ux:=J (HM.out.below hW);have yH:=J mW;have HW:=J hW;have x_:=hW.size;have hlW:=jA.lt;clear dx jA mW hW hWW c0 c1 c2
  first
   |(first|replace aj:=aj|replace aP:=aP)
    refine(gM _ M q _ _ (by have:=HT.out;have:=pz.out;have:=pD.out;have:=xL.out;have:=oo.out;omega) (by omega) (by go_num) ux.out).mono ?_
   |refine(gM _ o q _ _ (by have:=HT.out;have:=pz.out;have:=pD.out;have:=xL.out;have:=oo.out;omega) (by omega) (by go_num) yH.out).mono ?_
  rintro e w3 ⟨v3,rfl,ll,JP,bq⟩;have ou:=J ll;have dF:=J bq;have Cp:=bq.size;have Wd:=J (tu.out.below bq hlW);clear ll JP bq c0' c1' c2';obtain⟨c0,c1,c2⟩:=aH Wd.out;go_wp2_with fail;refine(Kw n _ (by omega)).mono ?_
  rintro e w4 ⟨v4,rfl,vg,Wi,cu⟩;have yE:=J vg;have ce:=J cu;have Y_:=cu.size;clear vg Wi cu c0 c1 c2;go_wp2_with fail
  first
   |replace aj:=aj
    refine(uJ _ v4 (o) (10^n) _ (by have:=HT.out;have:=pz.out;have:=pD.out;have:=xL.out;have:=oo.out;omega) (by have:=HT.out;have:=pz.out;have:=pD.out;have:=xL.out;have:=oo.out;omega) ((yH.out.below dF.out).below ce.out) yE.out).mono ?_
   |replace aG:=aG
    refine(uJ _ v4 (o*2^q) (10^n) _ (by have:=HT.out;have:=pz.out;have:=pD.out;have:=xL.out;have:=oo.out;omega) (by have:=HT.out;have:=pz.out;have:=pD.out;have:=xL.out;have:=oo.out;omega) (ou.out.below ce.out) yE.out).mono ?_
   |replace aP:=aP
    refine(uJ _ v4 (M*2^q) (10^n) _ (by have:=HT.out;have:=pz.out;have:=pD.out;have:=xL.out;have:=oo.out;omega) (by have:=HT.out;have:=pz.out;have:=pD.out;have:=xL.out;have:=oo.out;omega) (ou.out.below ce.out) yE.out).mono ?_
   |refine(uJ _ v4 (M) (10^n) _ (by have:=HT.out;have:=pz.out;have:=pD.out;have:=xL.out;have:=oo.out;omega) (by have:=HT.out;have:=pz.out;have:=pD.out;have:=xL.out;have:=oo.out;omega) ((ux.out.below dF.out).below ce.out) yE.out).mono ?_
  rintro e w5 ⟨v5,rfl,ow,Fz,bT⟩;have ya:=J ow;have fE:=J bT
  first
   |replace aj:=aj
    have Vs:=J (nu (o) (10^n))
   |replace aG:=aG
    have Vs:=J (nu (o*2^q) (10^n))
   |replace aP:=aP
    have Vs:=J (nu (M*2^q) (10^n))
   |have Vs:=J (nu (M) (10^n))
  have FB:=bT.size;clear ow Fz bT;go_wp2_with fail
  first
   |replace aj:=aj
    refine(sk _ _ (M*2^q) (o*10^n) _ (by have:=HT.out;have:=pz.out;have:=pD.out;have:=xL.out;have:=Vs.out;have:=oo.out;omega) (by have:=HT.out;have:=pz.out;have:=pD.out;have:=xL.out;have:=Vs.out;have:=oo.out;omega) (zL HO.out (Zz (by decide))) ((ou.out.below ce.out).below fE.out) ya.out).mono ?_
   |replace aG:=aG
    refine(sk _ _ (M) (o*2^q*10^n) _ (by have:=HT.out;have:=pz.out;have:=pD.out;have:=xL.out;have:=Vs.out;have:=oo.out;omega) (by have:=HT.out;have:=pz.out;have:=pD.out;have:=xL.out;have:=Vs.out;have:=oo.out;omega) (zL (zL HO.out (zo q)) (Zz (by decide))) (((ux.out.below dF.out).below ce.out).below fE.out) ya.out).mono ?_
   |replace aP:=aP
    refine(sk _ _ (M*2^q*10^n) (o) _ (by have:=HT.out;have:=pz.out;have:=pD.out;have:=xL.out;have:=Vs.out;have:=oo.out;omega) (by have:=HT.out;have:=pz.out;have:=pD.out;have:=xL.out;have:=Vs.out;have:=oo.out;omega) HO.out ya.out (((yH.out.below dF.out).below ce.out).below fE.out)).mono ?_
   |refine(sk _ _ (M*10^n) (o*2^q) _ (by have:=HT.out;have:=pz.out;have:=pD.out;have:=xL.out;have:=Vs.out;have:=oo.out;omega) (by have:=HT.out;have:=pz.out;have:=pD.out;have:=xL.out;have:=Vs.out;have:=oo.out;omega) (zL HO.out (zo q)) ya.out ((ou.out.below ce.out).below fE.out)).mono ?_
  rintro e w6 ⟨v6,u6,rfl,Qj,hu6,hf6,hg6,fC⟩;have HV6:=J Qj;have lS:=J fC;have HF6:=J hf6;clear Qj hu6 hf6 hg6 fC;go_wp2_with fail;go_ret;have b1:=HW.out.trans (dF.out.mono x_);have b2:=b1.trans (ce.out.mono (by omega))
  have b3:=b2.trans (fE.out.mono (by omega))
  exact⟨v6,rfl,HV6.out,fun g hg=>zQ (by omega) (HF6.out g hg),b3.trans (lS.out.mono (by omega))⟩
def acB a b c d e f g h i j k:=(nw a b c d e f g h i j k).1
def acC a b c d e f g h i j k:=(nw a b c d e f g h i j k).2.1
def acD a b c d e f g h i j k:=(nw a b c d e f g h i j k).2.2.1
def acE a b c d e f g h i j k:=(nw a b c d e f g h i j k).2.2.2
theorem XG(vm:Value)(b:Bool)(M:Nat)(s P:Int)(w:World)(hM:nd M≤10000)(qy: -2000≤s)(hs2:s≤2000)(Lo: -4000≤P)(QO:P≤4000)(hm:D w vm M):Calls prog 244 #[.agg #[.bool b,vm, .int .i64 P], .int .i64 s] w (dR w (M*2^P.toNat*tB s/(2^(-P).toNat*tA s))):=by
 rcases Zy s 0 with h1|h1
 have fD:=J (rfl:0=0)
 all_goals
  first
   |replace fD:=fD
    obtain⟨n,rfl⟩: ∃n:Nat,s= -(n:Int):=⟨(-s).toNat,by omega⟩
    obtain⟨t1,t2⟩:=Sz n
   |obtain⟨n,rfl⟩: ∃n:Nat,s=(n:Int):=⟨s.toNat,by omega⟩
    obtain⟨t1,t2⟩:=Sy n
  rw [t1,t2]
  rcases Zy P 0 with h2|h2
  ·obtain⟨q,rfl⟩: ∃q:Nat,P= -(q:Int):=⟨(-P).toNat,by omega⟩
   first
    |replace fD:=fD
     have h:=acE vm b M n q w hM (by omega) (by omega) 1 rfl (by omega) (by omega) hm
    |have h:=acC vm b M n q w hM (by omega) (by omega) 1 rfl (by omega) hm
   rw [Int.neg_neg,zv,show(-(q:Int)).toNat=0 by omega,Zl,Zj,Zj]
   rwa [zP]at h
  ·obtain⟨q,rfl⟩: ∃q:Nat,P=(q:Int):=⟨P.toNat,by omega⟩
   first
    |replace fD:=fD
     have h:=acD vm b M n q w hM (by omega) (by omega) 1 rfl (by omega) hm
    |have h:=acB vm b M n q w hM (by omega) (by omega) 1 rfl hm
   rw [zv,show(-(q:Int)).toNat=0 by omega,Zl,Zj]
   exact h
end Go.Proofs.YtcpmiplofbfmfaaGreatDoor
