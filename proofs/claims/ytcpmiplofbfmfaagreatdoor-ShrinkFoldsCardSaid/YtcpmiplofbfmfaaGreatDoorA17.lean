/- Plain facts for the reference's texts: what decimal, cut and -/
import Derived.Test.YtcpmiplofbfmfaaGreatDoorA16
import Derived.Test.YtcpmiplofbfmfaaGreatDoorRows
import Derived.Test.YtcpmiplofbfmfaaGreatDoorA00
set_option linter.all false
namespace FloM
theorem afV(n:Nat):tA (n:Int)=10^n∧tB (n:Int)=1:=by
 unfold tA tB;rw [zv,show(-(n:Int)).toNat=0 by omega];exact⟨rfl,rfl⟩
theorem afW(n:Nat):tA (-(n:Int))=1∧tB (-(n:Int))=10^n:=by
 unfold tA tB;rw [Int.neg_neg,zv,show(-(n:Int)).toNat=0 by omega];exact⟨rfl,rfl⟩
theorem XO(d n:Nat):ig (d*10^n) 0 0=rq (d*tA (n:Int)*KK) (tB (n:Int)):=by
 rw [se _ _ 0 (by omega),(afV n).1,(afV n).2,show((0:Int)+1074+((0:Nat):Int)).toNat=1074 from rfl,←Gf,Zl]
theorem SQ(n L:Nat)(d:Nat)(hl:n<2^L)(ht:0<n)(h0:0<d):53≤(d*2^(L+128)/n).log2:=by
 have this:2^53≤d*2^(L+128)/n:=by
  rw [Zu ht];have h1:2^53*n≤2^53*2^L:=Zg _ (Zc hl);have h2:2^(L+128)=2^53*2^L*2^75:=by rw [←zu,←zu];congr 1;omega
  have h3:2^53*2^L≤2^53*2^L*2^75:=Nat.le_mul_of_pos_right _ (zo _);have h4:2^(L+128)≤d*2^(L+128):=Nat.le_mul_of_pos_left _ h0;rw [←h2]at h3;exact zQ h1 (zQ h3 h4)
 exact(Nat.le_log2 (Nat.ne_of_gt (zy (zo 53) this))).2 this
theorem XP(d n L:Nat)(hL:bl (10^n)=L):ig (d*2^(L+128)/10^n) (-((L+128:Nat):Int)) (if d*2^(L+128)%10^n=0 then 0 else 1)=rq (d*tA (-(n:Int))*KK) (tB (-(n:Int))):=by
 rw [(afW n).1,(afW n).2,Zj];have hl:10^n<2^L:=(kl _ _).1 (Nat.le_of_eq hL);have ht:0<10^n:=Zz (by decide)
 clear hL;generalize 10^n=t at *
 rcases zX d with rfl|h0
 ·rw [Zk,Nat.zero_div,Zk,sa];rfl
 rw [wt _ _ _ (L+128) ht (SQ t L d hl ht h0) (by omega)]
 have e:(-((L+128:Nat):Int)+1074+((L+128:Nat):Int)).toNat=1074:=by omega
 rw [e,←Gf];refine oD (zL ht (zo _)) ht ?_;generalize 2^(L+128)=X
 grind
theorem SR(P:Int)(i:Nat)(h:P=(i:Int)-1074):2^P.toNat*KK=2^i*2^(-P).toNat:=by
 subst h;have h2:=kj;rw [kk,←zu,←zu];congr 1;omega
theorem acG(r:Nat)(P s:Int)(h:P=(up r:Int)-1074):mg r*2^P.toNat*tB s/(2^(-P).toNat*tA s)=gr r s:=by
 have e:=SR P (up r) h;unfold gr;rw [cH];refine tG (zL (zo _) (kn s)) (zL (kn s) gG) ?_;generalize 2^P.toNat=X at *;generalize 2^(-P).toNat=Y at *;generalize 2^up r=Z at *;generalize tA s=A;generalize tB s=B;generalize mg r=M;generalize KK=K at *;have:M*X*B*(A*K)=M*B*A*(X*K):=by grind
 rw [this,e];grind
theorem wI{a b c:Nat}(hc:0<c):cW (a*c) (b*c)=cW a b:=by
 unfold cW;simp only [zG hc]
theorem wJ(r d m:Nat)(P s:Int)(h:P=(up r:Int)-1074):cW (d*tA s*2^(-P).toNat) (m*mg r*tB s*2^P.toNat)=cW (d*tA s*KK) (m*val r*tB s):=by
 have e:=SR P (up r) h;rw [cH];have hX:0<2^P.toNat:=zo _;have hZ:0<2^up r:=zo _;generalize 2^P.toNat=X at *;generalize 2^(-P).toNat=Y at *;generalize 2^up r=Z at *;generalize tA s=A;generalize tB s=B;generalize mg r=M;generalize KK=K at *;rw [←wI hZ,←wI (a:=d*A*K) hX]
 have e1:d*A*Y*Z=d*A*K*X:=by
  have:d*A*Y*Z=d*A*(Z*Y):=by grind
  rw [this,←e];grind
 have e2:m*M*B*X*Z=m*(M*Z)*B*X:=by grind
 rw [e1,e2]
theorem KE{a b:Nat}:cW a b≤0↔a≤b:=by
 unfold cW
 split
 ·omega
 ·split<;>omega
theorem Dp{a b:Nat}:0<cW a b↔b<a:=by
 unfold cW
 split
 ·omega
 ·split<;>omega
theorem SU{a b:Nat}:cW a b=0↔a=b:=by
 unfold cW
 split
 ·omega
 ·split<;>omega
def jK(L:Int):Int:=(L*30103).tdiv 100000-2
def ik(j:Nat):Bool:=Nat.ble (tA (jK ((j:Int)-1100))*2^(1-((j:Int)-1100)).toNat) (tB (jK ((j:Int)-1100))*2^((j:Int)-1100-1).toNat)
theorem MJ:ay (fun j=>ik (0+j)) 256=true:=by decide+kernel
theorem MK:ay (fun j=>ik (256+j)) 256=true:=by decide+kernel
theorem ML:ay (fun j=>ik (512+j)) 256=true:=by decide+kernel
theorem MM:ay (fun j=>ik (768+j)) 256=true:=by decide+kernel
theorem MN:ay (fun j=>ik (1024+j)) 256=true:=by decide+kernel
theorem MO:ay (fun j=>ik (1280+j)) 256=true:=by decide+kernel
theorem MP:ay (fun j=>ik (1536+j)) 256=true:=by decide+kernel
theorem MQ:ay (fun j=>ik (1792+j)) 256=true:=by decide+kernel
theorem MR:ay (fun j=>ik (2048+j)) 256=true:=by decide+kernel
theorem SV(j:Nat)(hj:j<2304):ik j=true:=by
 rcases zj j 256 with h0|h0
 ·have:=bn MJ (j-0) (by omega)
  rwa [show 0+(j-0)=j by omega]at this
 rcases zj j 512 with h1|h1
 ·have:=bn MK (j-256) (by omega)
  rwa [show 256+(j-256)=j by omega]at this
 rcases zj j 768 with h2|h2
 ·have:=bn ML (j-512) (by omega)
  rwa [show 512+(j-512)=j by omega]at this
 rcases zj j 1024 with h3|h3
 ·have:=bn MM (j-768) (by omega)
  rwa [show 768+(j-768)=j by omega]at this
 rcases zj j 1280 with h4|h4
 ·have:=bn MN (j-1024) (by omega)
  rwa [show 1024+(j-1024)=j by omega]at this
 rcases zj j 1536 with h5|h5
 ·have:=bn MO (j-1280) (by omega)
  rwa [show 1280+(j-1280)=j by omega]at this
 rcases zj j 1792 with h6|h6
 ·have:=bn MP (j-1536) (by omega)
  rwa [show 1536+(j-1536)=j by omega]at this
 rcases zj j 2048 with h7|h7
 ·have:=bn MQ (j-1792) (by omega)
  rwa [show 1792+(j-1792)=j by omega]at this
 rcases zj j 2304 with h8|h8
 ·have:=bn MR (j-2048) (by omega)
  rwa [show 2048+(j-2048)=j by omega]at this
 omega
theorem Gv{M:Nat}(hM:M≠0):1≤bl M∧2^(bl M-1)≤M:=by
 have h1:bl M≠0:=fun h=>by have:=(kl M 0).1 (by omega);omega
 refine⟨by omega,Nat.le_of_not_lt fun h=> ?_⟩
 have:=(kl M (bl M-1)).2 h;omega
theorem Dq(M:Nat)(P:Int)(hM:M≠0)(h1: -1100≤(bl M:Int)+P)(h2:(bl M:Int)+P≤1200):
 tA (jK ((bl M:Int)+P))*2^(-P).toNat≤M*tB (jK ((bl M:Int)+P))*2^P.toNat:=by
 have g:=SV ((bl M:Int)+P+1100).toNat (by omega)
 unfold ik at g;rw [Nat.ble_eq,show(((((bl M:Int)+P+1100).toNat:Nat):Int)-1100)=bl M+P by omega]at g
 obtain⟨cT,hb⟩:=Gv hM
 have e1:2^P.toNat*2^(bl M-1)*2^(1-((bl M:Int)+P)).toNat=2^((bl M:Int)+P-1).toNat*2^(-P).toNat:=by
  rw [←zu,←zu,←zu];congr 1;omega
 have hZ:0<2^(1-((bl M:Int)+P)).toNat:=zo _;generalize tA (jK ((bl M:Int)+P))=A at *;generalize tB (jK ((bl M:Int)+P))=B at *;generalize 2^(1-((bl M:Int)+P)).toNat=Z at *;generalize 2^((bl M:Int)+P-1).toNat=W at *;generalize 2^(bl M-1)=H at *;generalize 2^P.toNat=X at *;generalize 2^(-P).toNat=Y at *;refine Ia ?_ hZ
 calc A*Y*Z=A*Z*Y:=by grind
  _≤B*W*Y:=zn _ g
  _=B*(X*H*Z):=by rw [e1];grind
  _=H*(B*X*Z):=by grind
  _≤M*(B*X*Z):=zn _ hb
  _=M*B*X*Z:=by grind
theorem XQ: ∃a b:Nat,a=1024∧b=310∧2^a<10^b:=⟨1024,310,rfl,rfl,by decide+kernel⟩
theorem aaV{u:Nat}(hu:u<cap){e:Int}(he:310≤e):val u*tB e<tA e*KK:=by
 obtain⟨a,b,ha,hb,h⟩:=XQ;have e1:tB e=1:=by unfold tB;rw [show(-e).toNat=0 by omega]
 have e2:10^b≤tA e:=zF (by decide) (by omega)
 have e3:val u≤2^a*KK:=by
  rw [cH,kk,←zu];have h1:up u≤2045:=by unfold up;have:cap=2047*2^52:=rfl;omega
  have h2:=kj;refine zQ (zn _ (Zc (lB u))) ?_;rw [←zu];exact zF (by decide) (by omega)
 rw [e1,Zj];exact zW e3 (Nat.mul_lt_mul_of_pos_right (zy h e2) gG)
theorem Dr{u n:Nat}{e:Int}(h1:val u*tB e<tA e*KK):gr u (e-n)<10^n:=by
 have ht:=uH (e-n) n;rw [show e-(n:Int)+(n:Int)=e by omega]at ht
 unfold gr;rw [Z0 (zL (kn _) gG)];have hB:=gn e;have hb:=gn (e-n);generalize tA (e-n)=a at *;generalize tB (e-n)=b at *;generalize tA e=A at *;generalize tB e=B at *;generalize val u=V at *;generalize KK=K at *;generalize 10^n=t at *;refine Nat.lt_of_mul_lt_mul_right (a:=B) ?_
 calc V*b*B=V*B*b:=by grind
  _<A*K*b:=Nat.mul_lt_mul_of_pos_right h1 hb
  _=A*b*K:=by grind
  _=t*(a*K)*B:=by rw [ht];grind
theorem SW{u n:Nat}{e:Int}(hn:1≤n)(h2:tA (e-1)*KK≤val u*tB (e-1)):10^(n-1)≤gr u (e-n):=by
 have ht:=uH (e-n) (n-1);rw [show e-(n:Int)+((n-1:Nat):Int)=e-1 by omega]at ht
 unfold gr;rw [Zu (zL (kn _) gG)];have hB:=gn (e-1);generalize tA (e-n)=a at *;generalize tB (e-n)=b at *;generalize tA (e-1)=A at *;generalize tB (e-1)=B at *;generalize val u=V at *;generalize KK=K at *;generalize 10^(n-1)=t at *;refine Ia ?_ hB
 calc t*(a*K)*B=t*a*B*K:=by grind
  _=A*b*K:=by rw [ht]
  _=A*K*b:=by grind
  _≤V*B*b:=zn _ h2
  _=V*b*B:=by grind
theorem Ad{u k:Nat}{s:Int}(h:nT u s k):mX u k s∧(k=gr u s∨k=gr u s+1):=by
 rcases h with⟨h1,h2,h3⟩|⟨h1,_,h3⟩|⟨_,h2,h3⟩
 ·split at h3
  ·subst h3;exact⟨h1, .inl rfl⟩
  ·subst h3;exact⟨h2, .inr rfl⟩
 ·subst h3;exact⟨h1, .inl rfl⟩
 ·subst h3;exact⟨h2, .inr rfl⟩
theorem MT{u k:Nat}{s:Int}(h:nT u s k)(h0:k%10=0):jU u (s+1):=by
 obtain⟨h1,h2⟩:=Ad h;have hk:k=k/10*10^1:=by omega
 rw [hk]at h1;have h3:mX u (k/10) (s+1):=(tH u (k/10) s 1).2 h1;have h4:=RY u s
 rcases h2 with h2|h2
 ·exact .inl (by rw [h4,←h2];exact h3)
 ·exact .inr (by rw [h4,show gr u s/10+1=k/10 by omega];exact h3)
end FloM
set_option maxRecDepth 100000
set_option maxHeartbeats 400000
namespace Go.Proofs.YtcpmiplofbfmfaaGreatDoor
open Go.Proofs.Tryz
open Lib renaming hid→J
open Go.RowKit FloM
@[go_sem] theorem aio (u:Nat) (w:World):(callFunc 80 #[.int .u64 (u:Int)]).run prog w= .ok (.value (.float .f64 u)) w:=by
 rw [run_callFunc_extern (e:=Extern.MathFloatBits.float64frombits) func80 (by kernel_rfl) (by kernel_rfl) (by kernel_rfl) (by kernel_rfl)];rfl
@[go_sem] theorem aip (u:Nat) (w:World):(callFunc 144 #[.float .f64 u]).run prog w= .ok (.value (.int .u64 (u:Int))) w:=by
 rw [run_callFunc_extern (e:=Extern.MathFloatBits.float64bits) func144 (by kernel_rfl) (by kernel_rfl) (by kernel_rfl) (by kernel_rfl)];rfl
theorem VY:FloatKind.f64.format=Ieee.double:=rfl
def aw(u:Nat):Nat:=if cap<rg u then 9221120237041090560 else u
theorem wQ{u:Nat}(h:cap<rg u):FloatKind.f64.format.order u u=none:=uD u h
theorem Gy{u:Nat}(h:rg u≤cap):FloatKind.f64.format.order u u=some .eq:=by
 rw [VY,mD h h];simp [Std.ReflCmp.compare_self]
theorem nz{u:Nat}(h:cap<rg u):(FloatKind.f64.format.order u u !=some Ordering.eq)=true:=by rw [wQ h];rfl
theorem wS{u:Nat}(h:rg u≤cap):(FloatKind.f64.format.order u u !=some Ordering.eq)=false:=by rw [Gy h];rfl
theorem sx(u:Nat)(w:World):Calls prog 32 #[.int .u64 u] w fun e w'=>e= .returned (.float .f64 u)∧w=w':=by
 go_enter func32,ntmps32
 go_wp2
 go_ret;exact⟨rfl,rfl⟩
theorem jW{k:IntKind}{a b:Int}(h:a=b):Ending.returned (.int k a)= .returned (.int k b):=by rw [h]
theorem il(u:Nat)(w:World):Calls prog 81 #[.float .f64 u] w fun e w'=>e= .returned (.int .u64 (aw u:Nat))∧w=w':=by
 rcases zj cap (rg u)with h|h
 focus
  have hc:aw u=9221120237041090560:=zh h;rw [hc];have hn:=nz h
 rotate_left
 focus
  have hc:aw u=u:=ze (by omega)
  rw [hc];have hn:=wS h
 all_goals
  go_enter func81,ntmps81
  go_wp2
  go_ret;exact⟨rfl,rfl⟩
def Tb(r:Option Nat)(z:Nat):Prop:=z<2^64∧match r with|some a=>z=a|none=>cap<rg z
theorem Tb.of_some{a z:Nat}(h:Tb (some a) z):z=a:=h.2
theorem Tb.of_none{z:Nat}(h:Tb none z):cap<rg z:=h.2
theorem X6(t:Nat):Tb none ((t%2)*2^63+0x7ff0000000000000+1+(t/2)%(2^52-1)):=by
 have h1:t%2<2:=zU _ (by omega)
 have h2:(t/2)%(2^52-1)<2^52-1:=zU _ (by omega)
 generalize t%2=a at *;generalize(t/2)%(2^52-1)=b at *;refine⟨by omega,?_⟩
 show cap<rg _;unfold cap rg
 rcases zj a 1 with h|h
 ·have:a=0:=by omega
  subst this;omega
 ·have:a=1:=by omega
  subst this;omega
theorem jh{P:Program}(w:World)(op:BinOp)(t:TypeId)(x y:Nat)(hop:op= .add∨op= .sub∨op= .mul∨op= .quo)(h:floatBits op .f64 x y=none): ∃z,Tb none z∧(binOp op t (.float .f64 x) (.float .f64 y)).run P w= .ok (.float .f64 z) w.drew:=by
 refine⟨_,X6 (w.tape w.drawn (.nanBits .f64 x y)),?_⟩;unfold floatBits at h
 rcases hop with rfl|rfl|rfl|rfl<;>simp only at h<;>simp [binOp,Op.floatArith,h]<;>rfl
theorem lG(r:Option Nat)(h: ∃x y,r=Ieee.double.add x y∨r=Ieee.double.sub x y∨r=Ieee.double.mul x y∨r=Ieee.double.div x y)(a:Nat)(hr:r=some a):a<2^64:=by
 obtain⟨x,y,rfl|rfl|rfl|rfl⟩:=h
 ·exact Ieee.double.add_lt hr
 ·exact Ieee.double.sub_lt hr
 ·exact Ieee.double.mul_lt hr
 ·exact Ieee.double.div_lt hr
theorem X7(u v:Nat)(w:World):Calls prog 44 #[.float .f64 u, .float .f64 v] w fun e w'=> ∃z n,e= .returned (.float .f64 z)∧Tb (Ieee.double.add u v) z∧w'=w.drewN n:=by
 cases hr:Ieee.double.add u v with
 |some a=>
  have hw:a<2^64:=lG _ ⟨u,v,by simp⟩ a hr
  have lr:=fun(w:World) (t:TypeId)=>run_float_arith (P:=prog) w .add t .f64 u v a hr
  have Ct:=J hr;clear hr;go_enter func44,ntmps44
  go_wp2
  go_ret;exact⟨a,0,rfl,⟨hw,rfl⟩,rfl⟩
 |none=>
  obtain⟨z,hz,lr⟩:=jh (P:=prog) w .add 75 u v (by simp) hr
  have hz':=J hz;clear hz hr;go_enter func44,ntmps44
  go_wp2
  go_ret;exact⟨z,1,rfl,hz'.out,rfl⟩
def fZ(c:Nat):Nat:=c%2^63
def qL(c:Nat):Nat:=if c<2^63 then 2^63+c else c-2^63
theorem kM(c:Nat)(h:c<2^64):bits .andNot .u64 (c:Int) 9223372036854775808=((fZ c:Nat):Int):=by
 unfold fZ;rw [←ab1 c h]
 rfl
theorem tU(c:Nat)(h:c<2^64):bits .xor .u64 (c:Int) 9223372036854775808=((qL c:Nat):Int):=by
 unfold qL;rw [←ab0 c h]
 rfl
def co(u:Nat):Int:=if cap<rg u then 0 else if rg u=cap then 1 else if rg u=0 then 2 else if rg u<2^52 then 3 else 4
theorem sy{u:Nat}(hu:u<2^64):aw u<2^64:=by unfold aw;split<;>omega
theorem Tc{u:Nat}(h:cap<rg u):fZ (aw u)=9221120237041090560:=by unfold aw fZ;rw [zh h]
theorem Td{u:Nat}(h:rg u≤cap):fZ (aw u)=rg u:=by unfold aw fZ;rw [ze (by omega)];rfl
theorem tV(u:Nat)(hu:u<2^64)(w:World):Calls prog 41 #[.float .f64 u] w fun e w'=>e= .returned (.int .i64 (co u))∧w=w':=by
 have hb:=kM (aw u) (sy hu)
 have Fg:co u=if 9218868437227405312<fZ (aw u)then 0 else if fZ (aw u)=9218868437227405312 then 1 else if fZ (aw u)=0 then 2 else if fZ (aw u)<4503599627370496 then 3 else 4:=by
  have pu:cap=9218868437227405312:=by decide
  unfold co
  rcases zj cap (rg u)with h|h
  ·rw [Tc h,zh h,zh (show 9218868437227405312<9221120237041090560 by decide)]
  ·rw [Td h,pu,show(2:Nat)^52=4503599627370496 by decide]
 rw [Fg];generalize hc:aw u=c at *;generalize fZ c=r at *;have hc':=J hc;clear hu Fg hc
 by_cases h1:9218868437227405312<r
 ·rw [zh h1]
  have d1:decide ((9218868437227405312:Int)<(r:Int))=true:=zc (by omega)
  clear h1;go_enter func41,ntmps41;go_wp2_with (go_at_call 81;refine(il _ _).mono ?_;rintro e w' ⟨rfl,rfl⟩;rw [hc'.out]);go_ret;exact⟨rfl,rfl⟩
 rw [ze h1];have d1:decide ((9218868437227405312:Int)<(r:Int))=false:=zb (by omega)
 by_cases h2:r=9218868437227405312
 ·rw [zh h2]
  have d2:((r:Int)==9218868437227405312)=true:=by rw [Zr];omega
  clear h1 h2;go_enter func41,ntmps41;go_wp2_with (go_at_call 81;refine(il _ _).mono ?_;rintro e w' ⟨rfl,rfl⟩;rw [hc'.out]);go_ret;exact⟨rfl,rfl⟩
 rw [ze h2];have d2:((r:Int)==9218868437227405312)=false:=by rw [zf];omega
 by_cases h3:r=0
 ·rw [zh h3]
  subst h3;clear h1 h2;go_enter func41,ntmps41;go_wp2_with (go_at_call 81;refine(il _ _).mono ?_;rintro e w' ⟨rfl,rfl⟩;rw [hc'.out]);go_ret;exact⟨rfl,rfl⟩
 rw [ze h3];have d3:((r:Int)==0)=false:=by rw [zf];omega
 by_cases h4:r<4503599627370496
 focus
  rw [zh h4];have d4:decide ((r:Int)<4503599627370496)=true:=zc (by omega)
 rotate_left
 focus
  rw [ze h4];have d4:decide ((r:Int)<4503599627370496)=false:=zb (by omega)
 all_goals
  clear h1 h2 h3 h4;go_enter func41,ntmps41;go_wp2_with (go_at_call 81;refine(il _ _).mono ?_;rintro e w' ⟨rfl,rfl⟩;rw [hc'.out]);go_ret;exact⟨rfl,rfl⟩
def wT(u:Nat):Nat:=if cap<rg u then u else qL u
def Dx(u:Nat):Nat:=fZ (aw u)
theorem KJ(u:Nat)(hu:u<2^64)(w:World):Calls prog 35 #[.float .f64 u] w fun e w'=>e= .returned (.float .f64 (Dx u))∧w=w':=by
 unfold Dx;have hb:=kM (aw u) (sy hu);generalize fZ (aw u)=r at *;go_enter func35,ntmps35;go_wp2_with (first|(go_at_call 81;refine(il _ _).mono ?_;rintro e w' ⟨rfl,rfl⟩)|(go_at_call 32;go_simp;refine(sx _ _).mono ?_;rintro e w' ⟨rfl,rfl⟩))
 go_ret;exact⟨rfl,rfl⟩
set_option maxHeartbeats 1600000
def cR(ds:List Nat):List Value:=ds.map fun d:Nat=>Value.int .u16 (d:Int)
theorem Dd(ds:List Nat):(cR ds).length=ds.length:=by unfold cR;simp
theorem wA{n N k:Nat}(h:k<n):(cR (fd n N))[k]? =some (.int .u16 (dg N k:Nat)):=by
 unfold cR;rw [zT,lY h];rfl
theorem De(ds:List Nat): ∀u∈cR ds,u.oneCell'=true:=by
 intro u hu;unfold cR at hu;obtain⟨d,_,rfl⟩:=Ik.1 hu;rfl
theorem Df(a b:List Nat):cR (a++b)=cR a++cR b:=by unfold cR;simp
def DS(w:World)(v:Value)(n N:Nat):Prop:= ∃A c,v= .slice A n c∧n≤c∧c≤maxLen∧N<65536^n∧aT w w.heap.size 1 A n (cR (fd n N))
def D(w:World)(v:Value)(N:Nat):Prop:=DS w v (nd N) N
theorem DS.below{w w':World}{v:Value}{n N:Nat}(h:DS w v n N)(hb:Below w.heap.size w w'):DS w' v n N:=by
 obtain⟨A,c,e,hc,hm,hN,hr⟩:=h;exact⟨A,c,e,hc,hm,hN,(hr.below hb).more hb.size⟩
theorem D.below{w w':World}{v:Value}{N:Nat}(h:D w v N)(hb:Below w.heap.size w w'):D w' v N:=DS.below h hb
theorem DS.drewN{w:World}{v:Value}{n N:Nat}(h:DS w v n N)(k:Nat):DS (w.drewN k) v n N:=h
theorem DS.take{w:World}{A:Option Addr}{c n m N:Nat}(hc:n≤c)(hx:c≤maxLen)(hr:aT w w.heap.size 1 A n (cR (fd n N)))(hm:m≤n)(hN:N<65536^m):DS w (.slice A m c) m N:=by
 refine⟨A,c,rfl,by omega,hx,hN,?_⟩
 refine⟨by rw [Dd,nr];omega,fun h=> ?_⟩
 obtain⟨ad,e,hb,eb⟩:=hr.2 (by omega)
 refine⟨ad,e,hb,fun j u hu=>eb j u ?_⟩
 have hj:j<m:=by
  rcases zj j m with h|h
  ·exact h
  ·rw [zK (by rw [Dd,nr];exact h)]at hu;cases hu
 rw [wA hj]at hu;rw [wA (by omega)];exact hu
theorem DS.at_{w:World}{A:Option Addr}{n N k:Nat}(hr:aT w w.heap.size 1 A n (cR (fd n N)))(hk:k<n): ∃ad,A=some ad∧ad.block<w.heap.size∧w.cell? (ad.add k)=some (.int .u16 (dg N k:Nat)):=by
 obtain⟨ad,u,e,hb,hx,hc⟩:=hr.at_ hk;rw [wA hk]at hx;injection hx with hx
 subst hx;exact⟨ad,e,hb,hc⟩
theorem Sa(A:Option Addr)(n c N:Nat)(w:World)(hc:n≤c)(hx:c≤9223372036854775807)(hN:N<65536^n)(hr:aT w w.heap.size 1 A n (cR (fd n N))):Calls prog 248 #[.slice A n c] w fun e w'=>e= .returned (.slice A (nd N) c)∧w=w':=by
 have Wm:=J ((fJ N n).2 hN);have hR:=J hr;clear hr hN;go_enter func248,ntmps248
 go_wp2
 go_loop [3] (fun i=> ∃k:Nat,k≤n∧nd N≤k∧i= .int .i64 k) (fun i=>(intOf i).toNat)
 case atStart=>exact⟨n,za _,Wm.out,rfl⟩
 case round=>
  obtain⟨k,hk,hk2,rfl⟩:=hrel
  by_cases bw:nd N<k
  ·obtain⟨ad,rfl,_,eb⟩:=DS.at_ hR.out (show k-1<n by omega)
   have hz:dg N (k-1)=0:=je ((fJ N _).1 (by omega))
   rw [hz]at eb;have h0:0<k:=by omega
   clear hz
   go_wp2
   go_round
   case rel=>exact⟨k-1,by omega,by omega,by go_num⟩
   case measure=>simp [intOf];omega
  ·have e:nd N=k:=by omega
   by_cases h0:k=0
   focus
    subst h0;have HE:=J e;clear e bw hk2
   rotate_left
   focus
    obtain⟨ad,rfl,_,eb⟩:=DS.at_ hR.out (show k-1<n by omega)
    have hN0:N≠0:=by rintro rfl;rw [ib]at e;omega
    have Y5:=WR hN0;rw [e]at Y5;have h1:0<k:=by omega
    have hb:(((dg N (k-1):Nat):Int)==0)=false:=by rw [zf];omega
    have HE:=J e;clear e bw hk2 hN0 Y5 h0;generalize dg N (k-1)=x at *
   all_goals
    go_wp2
    go_ret;exact⟨by rw [HE.out];rfl,rfl⟩
theorem Dg{a b:Nat}(h:nd a<nd b):cW a b= -1:=by have:=Km h;unfold cW;rw [zh this]
theorem Dh{a b:Nat}(h:nd b<nd a):cW a b=1:=by have:=Km h;unfold cW;rw [ze (by omega),zh this]
theorem vJ{a b:Nat}(h:a<b):cW a b= -1:=by unfold cW;rw [zh h]
theorem vK{a b:Nat}(h:b<a):cW a b=1:=by unfold cW;rw [ze (by omega),zh h]
theorem sj{a b:Nat}(h:a=b):cW a b=0:=by unfold cW;rw [ze (by omega),ze (by omega)]
theorem Sb(A B:Option Addr)(c d a b n:Nat)(w:World)(cT:n≤100000)(Qc:a<65536^n)(Ll:b<65536^n)(hr:aT w w.heap.size 1 A n (cR (fd n a)))(hs:aT w w.heap.size 1 B n (cR (fd n b))):Calls prog 242 #[.slice A n c, .slice B n d] w fun e w'=>e= .returned (.int .i64 (cW a b))∧∃k,w'=w.drewN k:=by
 have hR:=J hr;have hS:=J hs;have hA:Hid (a/65536^n=b/65536^n):=by rw [Ze Qc,Ze Ll];exact rfl
 clear hr hs Qc Ll;have d1:((n:Int)!=(n:Int))=false:=by simp
 go_enter func242,ntmps242
 go_wp2
 go_loopw [5] (fun i wr=>(∃q,wr=w.drewN q)∧((i= .int .i64 (-1)∧a=b)∨(∃j:Nat,j<n∧i= .int .i64 (j:Int)∧a/65536^(j+1)=b/65536^(j+1)))) (fun i _=>(intOf i+1).toNat)
 case atStart=>
  refine⟨⟨0,rfl⟩,?_⟩
  rcases n with _|n
  ·left
   have:=hA.out;simp at this;exact⟨by go_num,this⟩
  ·right
   exact⟨n,by omega,by go_num,hA.out⟩
 case round=>
  obtain⟨⟨q,rfl⟩,⟨rfl,vU⟩|⟨j,hj,rfl,vU⟩⟩:=hrel
  ·have HC:=J (sj vU)
   clear vU
   go_wp2
   go_ret;exact⟨by rw [HC.out];rfl,q,rfl⟩
  ·obtain⟨ad,rfl,_,eb⟩:=DS.at_ hR.out hj
   obtain⟨bd,rfl,_,py⟩:=DS.at_ hS.out hj;have st:=RE vU;have hx:=ia a j;have hy:=ia b j;clear vU
   rcases ZG (dg a j) (dg b j)with h|h|h
   ·have HC:=J (vJ (st.1 h))
    have e1:decide (((dg a j:Nat):Int)<((dg b j:Nat):Int))=true:=zc (by omega)
    clear st;generalize dg a j=x at *;generalize dg b j=y at *
    go_wp2
    go_quiet (fail)
    go_wp2
    go_ret;exact⟨by rw [HC.out];rfl,_,Im _ _ _⟩
   ·have HC:=J (st.2.2 h)
    clear st;rw [h]at eb;have e1: ∀x:Nat,decide ((x:Int)<(x:Int))=false:=fun x=>zb (by omega)
    clear h hx;generalize dg b j=y at *
    go_wp2
    go_quiet (fail)
    go_wp2
    go_quiet (fail)
    go_wp2
    go_roundw
    case rel=>
     refine⟨⟨_,rfl⟩,?_⟩
     rcases j with _|j
     ·left
      have:=HC.out;simp at this;exact⟨by go_num,this⟩
     ·right
      exact⟨j,by omega,by go_num,HC.out⟩
    case measure=>simp [intOf]
   ·have HC:=J (vK (st.2.1 h))
    have e1:decide (((dg a j:Nat):Int)<((dg b j:Nat):Int))=false:=zb (by omega)
    have e2:decide (((dg b j:Nat):Int)<((dg a j:Nat):Int))=true:=zc (by omega)
    clear st;generalize dg a j=x at *;generalize dg b j=y at *
    go_wp2
    go_quiet (fail)
    go_wp2
    go_quiet (fail)
    go_wp2
    go_ret;exact⟨by rw [HC.out];rfl,_,by rw [Im,Im]⟩
theorem Xr(A B:Option Addr)(c d a b:Nat)(w:World)(cT:nd a≤100000)(hr:aT w w.heap.size 1 A (nd a) (cR (fd (nd a) a)))(hs:aT w w.heap.size 1 B (nd b) (cR (fd (nd b) b))):Calls prog 242 #[.slice A (nd a) c, .slice B (nd b) d] w fun e w'=>e= .returned (.int .i64 (cW a b))∧∃n,w'=w.drewN n:=by
 have hR:=J hr;have hS:=J hs;clear hr hs;have Qc:=eQ a;have Ll:=eQ b
 rcases ZG (nd a) (nd b)with h|h|h
 have fD:=J (rfl:0=0)
 rotate_left;have Vk:=J (rfl:0=0)
 all_goals
  first
   |replace Vk:=Vk
    rw [←h]at hS Ll⊢;exact Sb A B c d a b (nd a) w cT Qc Ll hR.out hS.out
   |first
     |replace fD:=fD
      have HC:=J (Dg h)
     |have HC:=J (Dh h)
    have d1:((nd a:Int)!=(nd b:Int))=true:=by rw [bne_iff_ne];omega
    first
     |replace fD:=fD
      have d2:decide (nd a<nd b)=true:=zc h
     |have d2:decide (nd a<nd b)=false:=zb (by omega)
    clear Qc Ll h;generalize nd a=m at *;generalize nd b=n at *;go_enter func242,ntmps242
    go_wp2
    go_ret;exact⟨by rw [HC.out];rfl,0,rfl⟩
theorem tK:(prog.info? 254).map (fun i=>(i.zero,i.size,i.bytes))=some (some (.int .u16 0),1,2):=by kernel_rfl
theorem oN:prog.underlying 196=some (.slice 254):=by kernel_rfl
def qj(base:Nat)(w:World)(v:Value)(k N:Nat):Prop:=w.ownsRow base 254 1 v k (cR (fd k N))
theorem qj.DS{base:Nat}{w:World}{v:Value}{k N:Nat}(h:qj base w v k N)(hN:N<65536^k):DS w v k N:=by
 rcases h.2 with⟨rfl,h0⟩|⟨g,cap,Co,rfl,h1,h2,h3,h4,h5⟩
 ·subst h0
  exact⟨none,0,rfl,za _,by unfold maxLen;omega,hN,aT.none_⟩
 ·exact⟨_,_,rfl,h3,h4,hN,aT.of_own (c:=cap) h⟩
theorem qj.more{base:Nat}{w:World}{v:Value}{k N:Nat}{d:Int}(h:w.ownsRow base 254 1 v (k+1) (cR (fd k N)++[.int .u16 d]))(hd:d=(dg N k:Nat)):qj base w v (k+1) N:=by
 unfold qj;rw [WQ,Df];subst hd;exact h
theorem j_(w:World)(d:Int)(t:TypeId): ∀j u,[Value.int .u16 d][j]? =some u→(w.alloc (.cells #[.int .u16 d] t)).cell? ((⟨w.heap.size,0,none⟩:Addr).add j)=some u:=by
 intro j u hj
 match j,hj with
 |0,hj=>simp at hj;subst hj;simp [Addr.add]
theorem mF(d:Int): ∀u∈[Value.int .u16 d],u.oneCell'=true:=by
 intro u hu;simp at hu;subst hu;rfl
theorem Sd(A B:Option Addr)(c d a b:Nat)(w:World)(cT:nd a≤100000)(cB:nd b≤100000)(hr:aT w w.heap.size 1 A (nd a) (cR (fd (nd a) a)))(hs:aT w w.heap.size 1 B (nd b) (cR (fd (nd b) b))):Calls prog 245 #[.slice A (nd a) c, .slice B (nd b) d] w fun e w'=> ∃v,e= .returned v∧qj w.heap.size w' v (nd (a+b)) (a+b)∧Below w.heap.size w w':=by
 obtain⟨i0,gF,gX,dw,eU⟩:=Zv tK;have hR:=J hr;have hS:=J hs
 have kZ:nd (a+b)≤100001:=by
  have:=C3 (a:=a) (b:=b) (i:=max (nd a) (nd b)+1) (by omega) (by omega) (by
   unfold qF;have h1:a<65536^max (nd a) (nd b):=(fJ a _).1 (by omega)
   have h2:b<65536^max (nd a) (nd b):=(fJ b _).1 (by omega)
   apply Ze;have h3:=Nat.mod_le a (65536^(max (nd a) (nd b)+1));have h4:=Nat.mod_le b (65536^(max (nd a) (nd b)+1));rw [zH]at *;omega)
  omega
 clear hr hs;go_enter func245,ntmps245
 go_wp2
 go_loopw [5,6,7] (fun o cy i wr=> ∃k:Nat,k≤nd (a+b)∧qj w.heap.size wr o k (a+b)∧cy= .int .u32 (qF a b k:Nat)∧i= .int .i64 k∧Below w.heap.size w wr) (fun _ _ i _=>nd (a+b)-(intOf i).toNat)
 case atStart=>exact⟨0,zO _,ZE _ _ _ _,by rw [CZ];rfl,rfl,zg _ _⟩
 case round=>
  obtain⟨k,hk,bS,rfl,rfl,bu⟩:=hrel;have hcy:=wn a b k;have nY:=C0 a b k
  by_cases h1:k<nd a
  ·have hm:=wq (b:=b) (.inl h1)
   obtain⟨ad,rfl,ha,eb⟩:=DS.at_ hR.out h1;rw [←bu.cell (by rw [ak];exact ha)]at eb
   have hx:=ia a k
   by_cases h2:k<nd b
   focus
    obtain⟨bd,rfl,hb,py⟩:=DS.at_ hS.out h2;rw [←bu.cell (by rw [ak];exact hb)]at py
    have hy:=ia b k;have HS:=J nY;clear nY;generalize dg a k=x at *;generalize dg b k=y at *
   rotate_left
   focus
    have d2:decide (k<nd b)=false:=zb h2;rw [je ((fJ b k).1 (by omega)),Z4]at nY
    clear h2;have HS:=J nY;clear nY;generalize dg a k=x at *
   all_goals
    generalize qF a b k=cy at *;have ep:wr.ownsRow w.heap.size 254 1 _ k (cR (fd k (a+b))):=bS;have dq:=bu.size;clear bS;go_wp2_with (at_builtin;refine wpList_append_own _ rfl _ _ 196 rfl w.heap.size 254 i0 (.int .u16 0) 1 2 oN gF gX dw eU rfl (by decide) _ _ _ rfl (ep.alloc _) ⟨wr.heap.size,0,none⟩ 1 1 [_] rfl rfl (j_ wr _ _) (mF _) (by unfold maxLen;omega) (by omega) (by simp;omega) ?_)
    intro v' w1 cm jz _;have bX:=qj.more cm (by have:=HS.out.1;first|(rw [Z6];omega)|omega)
    have xR:=(bu.alloc dq _).grown jz (by simp;omega) (fun j hj=>(ep.lt j hj).1)
    clear cm jz ep bu
    go_wp2
    go_roundw
    case rel=>exact⟨k+1,hm,bX,by have:=HS.out.2;go_num,by go_num,xR⟩
    case measure=>simp [intOf];omega
  ·have d1:decide (k<nd a)=false:=zb h1
   by_cases h2:k<nd b
   ·have hm:=wq (a:=a) (.inr (.inl h2))
    obtain⟨bd,rfl,hb,py⟩:=DS.at_ hS.out h2;rw [←bu.cell (by rw [ak];exact hb)]at py
    have hy:=ia b k;rw [je ((fJ a k).1 (by omega)),Z4]at nY
    clear h1;have HS:=J nY;clear nY;generalize dg b k=y at *;generalize qF a b k=cy at *;have ep:wr.ownsRow w.heap.size 254 1 _ k (cR (fd k (a+b))):=bS;have dq:=bu.size;clear bS;go_wp2_with (at_builtin;refine wpList_append_own _ rfl _ _ 196 rfl w.heap.size 254 i0 (.int .u16 0) 1 2 oN gF gX dw eU rfl (by decide) _ _ _ rfl (ep.alloc _) ⟨wr.heap.size,0,none⟩ 1 1 [_] rfl rfl (j_ wr _ _) (mF _) (by unfold maxLen;omega) (by omega) (by simp;omega) ?_)
    intro v' w1 cm jz _;have bX:=qj.more cm (by have:=HS.out.1;first|(rw [Z6];omega)|omega)
    have xR:=(bu.alloc dq _).grown jz (by simp;omega) (fun j hj=>(ep.lt j hj).1)
    clear cm jz ep bu
    go_wp2
    go_roundw
    case rel=>exact⟨k+1,hm,bX,by have:=HS.out.2;go_num,by go_num,xR⟩
    case measure=>simp [intOf];omega
   ·have d2:decide (k<nd b)=false:=zb h2
    rw [je ((fJ a k).1 (by omega)),je ((fJ b k).1 (by omega)),Z4,Z4]at nY
    by_cases h3:0<qF a b k
    ·have hm:=wq (.inr (.inr h3))
     clear h1 h2;have HS:=J nY;clear nY;generalize qF a b k=cy at *;have ep:wr.ownsRow w.heap.size 254 1 _ k (cR (fd k (a+b))):=bS;have dq:=bu.size;clear bS;go_wp2_with (at_builtin;refine wpList_append_own _ rfl _ _ 196 rfl w.heap.size 254 i0 (.int .u16 0) 1 2 oN gF gX dw eU rfl (by decide) _ _ _ rfl (ep.alloc _) ⟨wr.heap.size,0,none⟩ 1 1 [_] rfl rfl (j_ wr _ _) (mF _) (by unfold maxLen;omega) (by omega) (by simp;omega) ?_)
     intro v' w1 cm jz _;have bX:=qj.more cm (by have:=HS.out.1;first|(rw [Z6];omega)|omega)
     have xR:=(bu.alloc dq _).grown jz (by simp;omega) (fun j hj=>(ep.lt j hj).1)
     clear cm jz ep bu
     go_wp2
     go_roundw
     case rel=>exact⟨k+1,hm,bX,by have:=HS.out.2;go_num,by go_num,xR⟩
     case measure=>simp [intOf];omega
    ·have HE:=J (show nd (a+b)=k from Nat.le_antisymm (C3 (by omega) (by omega) (by omega)) hk)
     have hcz:qF a b k=0:=by omega
     rw [hcz];have HO:=J bS;have HB:=J bu;clear nY hcz h3 hcy h1 h2 bS bu hk
     go_wp2
     go_ret;refine⟨_,rfl,?_,HB.out⟩;rw [HE.out];exact HO.out
def Fr(lo:Nat)(v:Value):Prop:= ∀g,v.ownBlock=some g→lo≤g
theorem qj.fr{base:Nat}{w:World}{v:Value}{k N:Nat}(h:qj base w v k N):Fr base v:=fun g hg=>(zr h g hg).1
theorem Fr.of{lo:Nat}{v v':Value}(h:Fr lo v)(e:v'.ownBlock=v.ownBlock):Fr lo v':=fun g hg=>h g (e.symm.trans hg)
def dR(w:World)(N:Nat)(e:Ending)(w':World):Prop:= ∃v,e= .returned v∧D w' v N∧Fr w.heap.size v∧Below w.heap.size w w'
theorem ry(v:Value)(n N:Nat)(w:World)(h:DS w v n N):Calls prog 248 #[v] w fun e w'=>(∃v',e= .returned v'∧D w v' N∧v'.ownBlock=v.ownBlock)∧w=w':=by
 obtain⟨A,c,rfl,hc,hx,hN,hr⟩:=h;refine(Sa A n c N w hc hx hN hr).mono ?_;rintro e w' ⟨rfl,rfl⟩;exact⟨⟨_,rfl,DS.take hc hx hr ((fJ N n).2 hN) (eQ N),by cases A<;>rfl⟩,rfl⟩
theorem Di(va vb:Value)(a b:Nat)(w:World)(cT:nd a≤100000)(cB:nd b≤100000)(ha:D w va a)(hb:D w vb b):Calls prog 245 #[va,vb] w (dR w (a+b)):=by
 obtain⟨A,c,rfl,_,_,_,hr⟩:=ha;obtain⟨B,d,rfl,_,_,_,hs⟩:=hb;refine(Sd A B c d a b w cT cB hr hs).mono ?_;rintro e w' ⟨v,rfl,ho,bu⟩;exact⟨v,rfl,ho.DS (eQ _),ho.fr,bu⟩
theorem uI(va vb:Value)(a b:Nat)(w:World)(cT:nd a≤100000)(ha:D w va a)(hb:D w vb b):Calls prog 242 #[va,vb] w fun e w'=>e= .returned (.int .i64 (cW a b))∧∃n,w'=w.drewN n:=by
 obtain⟨A,c,rfl,_,_,_,hr⟩:=ha;obtain⟨B,d,rfl,_,_,_,hs⟩:=hb;exact Xr A B c d a b w cT hr hs
theorem Se(A B:Option Addr)(c d b r:Nat)(w:World)(cT:nd (b+r)≤100000)(hr:aT w w.heap.size 1 A (nd (b+r)) (cR (fd (nd (b+r)) (b+r))))(hs:aT w w.heap.size 1 B (nd b) (cR (fd (nd b) b))):Calls prog 291 #[.slice A (nd (b+r)) c, .slice B (nd b) d] w (dR w r):=by
 obtain⟨i0,gF,gX,dw,eU⟩:=Zv tK;have hR:=J hr;have hS:=J hs;have hbn:nd b≤nd (b+r):=jS (by omega)
 have hrn:=J (zW (show r≤b+r by omega) (eQ (b+r)))
 clear hr hs;go_enter func291,ntmps291
 go_wp2
 go_loopw [5,6,7] (fun o cy i wr=> ∃k:Nat,k≤nd (b+r)∧qj w.heap.size wr o k r∧cy= .int .i32 (qF b r k:Nat)∧i= .int .i64 k∧Below w.heap.size w wr) (fun _ _ i _=>nd (b+r)-(intOf i).toNat)
 case atStart=>exact⟨0,zO _,ZE _ _ _ _,by rw [CZ];rfl,rfl,zg _ _⟩
 case round=>
  obtain⟨k,hk,bS,rfl,rfl,bu⟩:=hrel
  by_cases h1:k<nd (b+r)
  ·have hcy:=wn b r k
   have akJ:=wn b r (k+1);have st:=Rw b r k;obtain⟨ad,rfl,ha,eb⟩:=DS.at_ hR.out h1;rw [←bu.cell (by rw [ak];exact ha)]at eb
   have hx:=ia (b+r) k;generalize dg (b+r) k=x at *;generalize qF b r k=cy at *
   by_cases h2:k<nd b
   have mz:=J (rfl:0=0)
   all_goals
    first
     |replace mz:=mz
      obtain⟨bd,rfl,hb,py⟩:=DS.at_ hS.out h2;rw [←bu.cell (by rw [ak];exact hb)]at py
      have hy:=ia b k;generalize dg b k=y at *
      by_cases Qh:(((x:Nat):Int)-(cy:Nat)-(y:Nat))<0
     |have d2:decide (k<nd b)=false:=zb h2
      rw [je ((fJ b k).1 (by omega))]at st
      clear h2
      by_cases Qh:(((x:Nat):Int)-(cy:Nat))<0
    have xS:=J (rfl:0=0)
    all_goals
     have ep:wr.ownsRow w.heap.size 254 1 _ k (cR (fd k r)):=bS
     first
      |replace mz:=mz
       first
        |replace xS:=xS
         have e1:decide ((((x:Nat):Int)-(cy:Nat)-(y:Nat))<0)=true:=zc Qh;have HS:=J (show((dg r k:Nat):Int)=(((x:Nat):Int)-(cy:Nat)-(y:Nat))+65536∧qF b r (k+1)=1 from by omega)
        |have e1:decide ((((x:Nat):Int)-(cy:Nat)-(y:Nat))<0)=false:=zb Qh
         have HS:=J (show((dg r k:Nat):Int)=(((x:Nat):Int)-(cy:Nat)-(y:Nat))∧qF b r (k+1)=0 from by omega)
      |first
        |replace xS:=xS
         have e1:decide ((((x:Nat):Int)-(cy:Nat))<0)=true:=zc Qh;have HS:=J (show((dg r k:Nat):Int)=(((x:Nat):Int)-(cy:Nat))+65536∧qF b r (k+1)=1 from by omega)
        |have e1:decide ((((x:Nat):Int)-(cy:Nat))<0)=false:=zb Qh
         have HS:=J (show((dg r k:Nat):Int)=(((x:Nat):Int)-(cy:Nat))∧qF b r (k+1)=0 from by omega)
     clear st akJ;have dq:=bu.size;clear bS;go_wp2_with (at_builtin;refine wpList_append_own _ rfl _ _ 196 rfl w.heap.size 254 i0 (.int .u16 0) 1 2 oN gF gX dw eU rfl (by decide) _ _ _ rfl (ep.alloc _) ⟨wr.heap.size,0,none⟩ 1 1 [_] rfl rfl (j_ wr _ _) (mF _) (by unfold maxLen;omega) (by omega) (by simp;omega) ?_)
     intro v' w1 cm jz _;have bX:=qj.more cm (by have:=HS.out;first|(rw [Z6];omega)|omega)
     have xR:=(bu.alloc dq _).grown jz (by simp;omega) (fun j hj=>(ep.lt j hj).1)
     clear cm jz ep bu
     go_wp2
     go_roundw
     case rel=>exact⟨k+1,by omega,bX,by have:=HS.out;go_num,by go_num,xR⟩
     case measure=>simp [intOf];omega
  ·have e:k=nd (b+r):=by omega
   have hds:DS wr u5 k r:=qj.DS bS (by rw [e];exact hrn.out)
   have hT:=J (ry u5 k r wr hds);have hF:=J (qj.fr bS);have HB:=J bu;clear bS bu hds e hk;go_wp2_with (go_at_call 248;refine hT.out.mono ?_;rintro e w' ⟨⟨v',rfl,uu,E_⟩,rfl⟩;have HV:=J uu;have HO:=J E_;clear uu E_);go_ret;exact⟨_,rfl,HV.out,Fr.of hF.out HO.out,HB.out⟩
theorem Sf(va vb:Value)(a b:Nat)(w:World)(cT:nd a≤100000)(xI:b≤a)(ha:D w va a)(hb:D w vb b):Calls prog 291 #[va,vb] w (dR w (a-b)):=by
 obtain⟨r,rfl⟩: ∃r,a=b+r:=⟨a-b,by omega⟩
 rw [Nat.add_sub_cancel_left];obtain⟨A,c,rfl,_,_,_,hr⟩:=ha;obtain⟨B,d,rfl,_,_,_,hs⟩:=hb;exact Se A B c d b r w cT hr hs
theorem Gj(A:Option Addr)(c a n:Nat)(w:World)(cT:nd a≤100000)(hn:n<65536)(hr:aT w w.heap.size 1 A (nd a) (cR (fd (nd a) a))):Calls prog 293 #[.slice A (nd a) c, .int .u32 n] w (dR w (a*n)):=by
 obtain⟨i0,gF,gX,dw,eU⟩:=Zv tK;have hR:=J hr;have Qc:=J (eQ a);clear hr;go_enter func293,ntmps293
 go_wp2
 go_loopw [5,6,7] (fun o cy i wr=> ∃k:Nat,k≤nd a∧qj w.heap.size wr o k (a*n)∧cy= .int .u32 (Kk a n k:Nat)∧i= .int .i64 k∧Below w.heap.size w wr) (fun _ _ i _=>nd a-(intOf i).toNat)
 case atStart=>exact⟨0,zO _,ZE _ _ _ _,by rw [Rx];rfl,rfl,zg _ _⟩
 case round=>
  obtain⟨k,hk,bS,rfl,rfl,bu⟩:=hrel;have hcy:=ab4 a n k hn;have ep:wr.ownsRow w.heap.size 254 1 _ k (cR (fd k (a*n))):=bS
  by_cases h1:k<nd a
  ·have HS:=J (Ry a n k)
   obtain⟨ad,rfl,ha,eb⟩:=DS.at_ hR.out h1;rw [←bu.cell (by rw [ak];exact ha)]at eb
   have hx:=ia a k;generalize dg a k=x at *;generalize Kk a n k=cy at *
   have hxn:(x:Int)*(n:Int)≤4294836225:=by
    have:x*n≤65535*65535:=Nat.mul_le_mul (by omega) (by omega)
    have h2:((x*n:Nat):Int)≤4294836225:=by omega
    rwa [Zd]at h2
   have YV:0≤(x:Int)*(n:Int):=Int.mul_nonneg (by omega) (by omega)
   have HP:=J (Zd x n);have dq:=bu.size;clear bS;go_wp2_with (at_builtin;refine wpList_append_own _ rfl _ _ 196 rfl w.heap.size 254 i0 (.int .u16 0) 1 2 oN gF gX dw eU rfl (by decide) _ _ _ rfl (ep.alloc _) ⟨wr.heap.size,0,none⟩ 1 1 [_] rfl rfl (j_ wr _ _) (mF _) (by unfold maxLen;omega) (by omega) (by simp;omega) ?_)
   intro v' w1 cm jz _;have bX:=qj.more cm (by have:=HS.out;have:=HP.out;first|(rw [Z6];omega)|omega)
   have xR:=(bu.alloc dq _).grown jz (by simp;omega) (fun j hj=>(ep.lt j hj).1)
   clear cm jz ep bu
   go_wp2
   go_roundw
   case rel=>exact⟨k+1,by omega,bX,by have:=HS.out;have:=HP.out;go_num,by go_num,xR⟩
   case measure=>simp [intOf];omega
  ·have e:k=nd a:=by omega
   have Wl:=Kl (a:=a) (n:=n) (i:=k) (by rw [e];exact Qc.out) hn
   have HS:=J Wl;have HB:=J bu;have dq:=bu.size;clear Wl bS e;generalize Kk a n k=cy at *;go_wp2_with (first|(at_builtin;refine wpList_append_own _ rfl _ _ 196 rfl w.heap.size 254 i0 (.int .u16 0) 1 2 oN gF gX dw eU rfl (by decide) _ _ _ rfl (ep.alloc _) ⟨wr.heap.size,0,none⟩ 1 1 [_] rfl rfl (j_ wr _ _) (mF _) (by unfold maxLen;omega) (by omega) (by simp;omega) ?_)|fail)
   intro v' w1 cm jz _;have bX:=qj.more cm (by have:=HS.out;first|(rw [Z6];omega)|omega)
   have xR:=J ((bu.alloc dq _).grown jz (by simp;omega) (fun j hj=>(ep.lt j hj).1))
   have hT:=J (ry v' (k+1) (a*n) w1 (bX.DS HS.out.2));have hF:=J (qj.fr bX);clear cm jz ep bu bX;go_wp2_with (go_at_call 248;refine hT.out.mono ?_;rintro e w' ⟨⟨v',rfl,uu,E_⟩,rfl⟩;have HV:=J uu;have HO:=J E_;clear uu E_);go_ret;exact⟨_,rfl,HV.out,Fr.of hF.out HO.out,xR.out⟩
theorem Ku(va:Value)(a n:Nat)(w:World)(cT:nd a≤100000)(hn:n<65536)(ha:D w va a):Calls prog 293 #[va, .int .u32 n] w (dR w (a*n)):=by
 obtain⟨A,c,rfl,_,_,_,hr⟩:=ha;exact Gj A c a n w cT hn hr
theorem Bn(va:Value)(a n:Nat)(x:Int)(w:World)(cT:nd a≤100000)(hn:n<65536)(ha:D w va a)(hx:x=(n:Int)):Calls prog 293 #[va, .int .u32 x] w (dR w (a*n)):=by
 subst hx;exact Ku va a n w cT hn ha
theorem wB(a n:Nat)(hn:n<65536):nd (a*n)≤nd a+1:=(fJ _ _).2 (Kl (eQ a) hn).2
def acr(w:World)(q r:Nat)(e:Ending)(w':World):Prop:= ∃v,e= .returned (.tuple #[.int .u16 (q:Int),v])∧D w' v r∧Fr w.heap.size v∧Below w.heap.size w w'
theorem Xs(va vb:Value)(a b:Nat)(w:World)(cT:nd a≤90000)(cB:nd b≤90000)(bJ:0<b)(vU:a<65536*b)(ha:D w va a)(hb:D w vb b):Calls prog 292 #[va,vb] w (acr w (a/b) (a%b)):=by
 have hq:a/b≤65535:=by
  have:a/b<65536:=Zh (by rw [zB];exact vU)
  omega
 have HM:=J (fun(m:Nat)=>(Zu bJ:m≤a/b↔m*b≤a))
 have agP:=J (zR a b);have HA:=J ha;have HB:=J hb;clear ha hb vU;generalize a/b=q at *;generalize a%b=r at *;go_enter func292,ntmps292
 go_wp2
 go_loopw [6,7] (fun l h wr=> ∃lo hi:Nat,lo≤q∧q≤hi∧hi≤65535∧l= .int .u32 lo∧h= .int .u32 hi∧Below w.heap.size w wr) (fun l h _=>(intOf h-intOf l).toNat)
 case atStart=>exact⟨0,65535,by omega,hq,by omega,rfl,rfl,zg _ _⟩
 case round=>
  obtain⟨lo,hi,h1,h2,h3,rfl,rfl,bu⟩:=hrel;have hDa:=J (D.below HA.out bu);have hDb:=J (D.below HB.out bu);have dq:=bu.size
  by_cases bw:lo<hi
  have nZ:=J (rfl:0=0)
  all_goals
   first
    |replace nZ:=nZ
     obtain⟨mY,adZ⟩: ∃mY,mY=(lo+hi+1)/2:=⟨_,rfl⟩;have rP:lo<mY:=by omega
     have uq:mY≤hi:=by omega
     have Y7:=J adZ;have HMm:=HM.out mY;have Y6:=wB b mY (by omega)
    |have e:lo=q:=by omega
     have e2:hi=q:=by omega
     subst e;subst e2;have Y6:=wB b hi (by omega)
     have xI:b*hi≤a:=by have:=agP.out;omega
     have hr:a-b*hi=r:=by have:=agP.out;omega
     have HR:=J hr
   have Vl:=J bu
   first
    |replace nZ:=nZ
     clear adZ bu
    |clear hr bu
   go_wp2_with fail
   first
    |replace nZ:=nZ
     refine(Bn vb b mY _ _ (by omega) (by omega) hDb.out (by have:=Y7.out;omega)).mono ?_
    |refine(Bn vb b hi _ _ (by omega) (by omega) hDb.out rfl).mono ?_
   rintro e w2 ⟨v2,rfl,hv2,_,ba⟩;have ln:=J hv2;have bM:=J ba;clear hv2 ba;go_wp2_with fail
   first
    |replace nZ:=nZ
     refine(uI v2 va (b*mY) a _ (by omega) ln.out (hDa.out.below bM.out)).mono ?_
     rintro e w3 ⟨rfl,n3,rfl⟩
     by_cases xI:mY≤q
     focus
      have e1:decide (cW (b*mY) a≤0)=true:=by
       have:b*mY≤a:=by rw [zB];exact HMm.1 xI
       apply zc;unfold cW;(repeat' split)<;>omega
      clear HMm Y6;generalize cW (b*mY) a=x at *;go_wp2_with fail
      go_roundw
      case rel=>exact⟨mY,hi,xI,h2,h3,by have:=Y7.out;go_num,rfl,below_drewN (Vl.out.trans (bM.out.mono dq)) n3⟩
     rotate_left
     focus
      have e1:decide (cW (b*mY) a≤0)=false:=by
       have: ¬b*mY≤a:=by rw [zB];exact fun h=>xI (HMm.2 h)
       apply zb;unfold cW;(repeat' split)<;>omega
      clear HMm Y6;generalize cW (b*mY) a=x at *;go_wp2_with fail
      go_roundw
      case rel=>exact⟨lo,mY-1,h1,by omega,by omega,rfl,by have:=Y7.out;go_num,below_drewN (Vl.out.trans (bM.out.mono dq)) n3⟩
     all_goals
      case measure=>have:=Y7.out;simp [intOf];omega
    |refine(Sf va v2 a (b*hi) _ (by omega) xI (hDa.out.below bM.out) ln.out).mono ?_
     rintro e w3 ⟨v3,rfl,ll,JP,bq⟩;have HF3:=J JP;clear JP;rw [HR.out]at ll;have ou:=J ll;have dF:=J bq;have hs2:=bM.out.size;clear ll bq xI Y6;go_wp2_with fail
     go_ret2
     exact⟨v3,rfl,ou.out,fun g hg=>zQ (zQ dq hs2) (HF3.out g hg),Vl.out.trans ((bM.out.trans (dF.out.mono hs2)).mono dq)⟩
end Go.Proofs.YtcpmiplofbfmfaaGreatDoor
