/- The rounding of exact numbers to 64-bit reals, as plain arithmetic on natural numbers: what the model's 'nearest' is. What the model's operations on the 64 bits of reals are, in whole numbers of the least real. The order of the 64-bit reals, and that rounding keeps it: plain. Whole numbers out of 64-bit reals, and back: plain. The laws of the order, of sums and products, of ints: plain. Bits of a 64-bit word: the sign turned, and left out. The reference's order of bits, plain. Amounts as digits of base 65536, the lowest first: plain. The reference's rounding, and its sums, products, quotients, as plain numbers. -/
import Derived.Laws.BitsAllLaws
import Derived.Laws.BitsLemmas
import Derived.Test.YtcpmiplofbfmfaaGreatDoorAl
set_option linter.all false
namespace FloM
open Ieee
def jE(n d:Nat):Nat:=n/d+(if d<2*(n%d)∨(2*(n%d)=d∧n/d%2=1)then 1 else 0)
theorem wi(n d:Nat):n/d≤jE n d∧jE n d≤n/d+1:=by
 unfold jE;split<;>omega
theorem jd(n d c:Nat)(hc:0<c):jE (n*c) (d*c)=jE n d:=by
 unfold jE;rw [Ie _ _ hc,Nat.mul_mod_mul_right]
 have e1:(d*c<2*(n%d*c))↔d<2*(n%d):=by
  rw [←zw];exact zG hc
 have e2:(2*(n%d*c)=d*c)↔2*(n%d)=d:=by
  rw [←zw];exact Nat.mul_left_inj (by omega)
 simp only [e1,e2]
theorem nh(n:Nat):jE n 1=n:=by
 unfold jE;simp [Nat.mod_one]
theorem Mq(k d:Nat)(hd:0<d):jE (k*d) d=k:=by
 have:=jd k 1 d hd;rw [zP]at this;rw [this,nh]
theorem Ro{a b a' b':Nat}(hb:0<b)(Cs:0<b')(h:a*b'≤a'*b):jE a b≤jE a' b':=by
 have e1:jE a b=jE (a*b') (b*b'):=(jd a b b' Cs).symm;have e2:jE a' b'=jE (a'*b) (b*b'):=by rw [zB b b'];exact(jd a' b' b hb).symm
 rw [e1,e2];have hd:0<b*b':=zL hb Cs;generalize a*b'=x at *;generalize a'*b=y at *;generalize b*b'=d at *;have q1:x/d≤y/d:=Ii h
 rcases zj (x/d) (y/d)with bw|iE
 ·have:=(wi x d).2;have:=(wi y d).1;omega
 ·have hq:x/d=y/d:=by omega
  have m1:=zR x d;have m2:=zR y d;rw [hq]at m1;have hm:x%d≤y%d:=by omega
  unfold jE;rw [hq]
  split<;>split<;>omega
def cap:Nat:=2047*2^52
def rq(A B:Nat):Nat:=min (((A/B).log2-52)*2^52+jE A (B*2^((A/B).log2-52))) cap
theorem sa(B:Nat):rq 0 B=0:=by
 unfold rq jE;simp
theorem fW(n:Nat):n<2^(n.log2+1):=Nat.lt_log2_self
theorem h_(n:Nat)(h:n≠0):2^n.log2≤n:=Nat.log2_self_le h
theorem Mr{a b:Nat}(h:a≤b):a.log2≤b.log2:=by
 rcases zX a with rfl|ha
 ·simp
 ·rw [Nat.le_log2 (by omega)];exact zQ (Nat.log2_self_le (by omega)) h
theorem ni{n k:Nat}(h1:2^k≤n)(h2:n<2^(k+1)):n.log2=k:=by
 have hn:n≠0:=by have:=zo k;omega
 have a:=(Nat.le_log2 hn).2 h1;have b:=(Nat.log2_lt hn).2 h2;omega
theorem Kb(A B:Nat):jE A (B*2^((A/B).log2-52))≤2^53:=by
 have h:=(wi A (B*2^((A/B).log2-52))).2
 have h2:A/(B*2^((A/B).log2-52))<2^53:=by
  rw [←Zf];generalize A/B=x;apply Zh;rw [←zu];exact zy (fW x) (zF (by omega) (by omega))
 omega
theorem Kc(A B:Nat)(hk:0<(A/B).log2-52):2^52≤jE A (B*2^((A/B).log2-52)):=by
 have h:=(wi A (B*2^((A/B).log2-52))).1;refine zQ ?_ h;rw [←Zf];generalize hx:A/B=x at *;have xK:x≠0:=by rintro rfl;simp at hk
 rw [Zu (zo _),←zu];have:52+(x.log2-52)=x.log2:=by omega
 rw [this];exact h_ x xK
theorem tD(a b c:Nat)(h:a≤b):min a c≤min b c:=by omega
theorem lA{A B A' B':Nat}(hB:0<B)(Qk:0<B')(h:A*B'≤A'*B):rq A B≤rq A' B':=by
 have hq:A/B≤A'/B':=by
  rw [Zu Qk];have:=Nat.div_mul_le_self A B;have h3:A/B*B*B'≤A'*B:=zQ (zn _ this) h;rw [Nat.mul_right_comm]at h3;exact Ia h3 hB
 have hl:=Mr hq;unfold rq;have k1:=Kb A B;have k2:=Kc A' B';generalize hk:(A/B).log2-52=k at *;generalize hk':(A'/B').log2-52=k' at *;have Wk:k≤k':=by omega
 have QP:k*2^52+jE A (B*2^k)≤k'*2^52+jE A' (B'*2^k'):=by
  rcases zj k k' with bw|iE
  ·have:=k2 (by omega)
   have:(k+1)*2^52≤k'*2^52:=zn _ bw;omega
  ·have:k=k':=by omega
   subst this
   have:jE A (B*2^k)≤jE A' (B'*2^k):=by
    apply Ro (zL hB (zo _)) (zL Qk (zo _));rw [←zw,←zw];exact zn _ h
   omega
 exact tD _ _ _ QP
def val(r:Nat):Nat:=if r<2^52 then r else(2^52+r%2^52)*2^(r/2^52-1)
theorem Rp(r:Nat)(h:2^52≤r):(val r).log2=52+(r/2^52-1):=by
 unfold val;rw [ze (by omega)]
 have hm:r%2^52<2^52:=zU _ (by omega)
 apply ni
 ·rw [zu];exact zn _ (by omega)
 ·rw [show 52+(r/2^52-1)+1=53+(r/2^52-1)by omega,zu]
  exact(zG (zo _)).2 (by omega)
theorem Bb(r:Nat):rq (val r) 1=min r cap:=by
 unfold rq;rw [Nat.div_one,zP]
 rcases zj r (2^52)with h|h
 ·have hv:val r=r:=by unfold val;rw [zh h]
  rw [hv]
  have:r.log2-52=0:=by
   rcases zX r with rfl|h0
   ·simp
   ·have:=(Nat.log2_lt (by omega)).2 h;omega
  rw [this];simp [nh]
 ·rw [Rp r h]
  rw [show 52+(r/2^52-1)-52=r/2^52-1 by omega]
  have hv:val r=(2^52+r%2^52)*2^(r/2^52-1):=by unfold val;rw [ze (by omega)]
  rw [hv,Mq _ _ (zo _)];have h1:1≤r/2^52:=by omega
  have h2:=zR r (2^52);have h3:(r/2^52-1)*2^52+(2^52+r%2^52)=r:=by omega
  rw [h3]
theorem rh{r s:Nat}(h:r<s):val r<val s:=by
 rcases zj s (2^52)with hs|hs
 ·unfold val;rw [zh hs,zh (by omega)];exact h
 ·rcases zj r (2^52)with hr|hr
  ·have:val r=r:=by unfold val;rw [zh hr]
   rw [this]
   have:2^52≤val s:=by
    unfold val;rw [ze (by omega)]
    exact zQ (zl _ _) (Nat.le_mul_of_pos_right _ (zo _))
   omega
  ·have e1:val r=(2^52+r%2^52)*2^(r/2^52-1):=by unfold val;rw [ze (by omega)]
   have e2:val s=(2^52+s%2^52)*2^(s/2^52-1):=by unfold val;rw [ze (by omega)]
   rw [e1,e2];have hq:r/2^52≤s/2^52:=Ii (by omega)
   rcases zj (r/2^52) (s/2^52)with bw|iE
   ·have hm:r%2^52<2^52:=zU _ (by omega)
    have:2^(s/2^52-1)=2^(s/2^52-1-1-(r/2^52-1))*2*2^(r/2^52-1):=by
     rw [←zH,←zu];congr 1;omega
    rw [this,←zw];apply(zG (zo _)).2;have hp:=zo (s/2^52-1-1-(r/2^52-1))
    have:(2^52+s%2^52)*2≤(2^52+s%2^52)*(2^(s/2^52-1-1-(r/2^52-1))*2):=
     Zg _ (by omega)
    omega
   ·have he:r/2^52=s/2^52:=by omega
    rw [he];apply(zG (zo _)).2;have:=zR r (2^52);have:=zR s (2^52);omega
theorem nj{r s:Nat}:val r<val s↔r<s:=by
 constructor
 ·intro h
  rcases zj r s with h1|h1
  ·exact h1
  ·rcases zj s r with h2|h2
   ·have:=rh h2;omega
   ·have:r=s:=by omega
    subst this;omega
 ·exact rh
theorem Kd{r s:Nat}:val r=val s↔r=s:=by
 constructor
 ·intro h
  rcases ZG r s with h1|h1|h1
  ·have:=rh h1;omega
  ·exact h1
  ·have:=rh h1;omega
 ·rintro rfl;rfl
theorem jp:val 0=0:=by unfold val;simp
theorem oC{r:Nat}:val r=0↔r=0:=by
 have:= @Kd r 0
 rwa [jp]at this
theorem CU(fV:Bool)(n drop:Nat):Toward.even.cut fV n drop=jE n (2^drop):=by
 unfold Toward.cut;simp only [ZT,zP];have bt: ∀b:Bool,b.toNat=if b=true then 1 else 0:=by intro b;cases b<;>rfl
 rcases Nat.le_total drop (n.log2+2)with h|h
 ·rw [Nat.min_eq_left h]
  unfold jE;rw [bt];have e:(2*(n%2^drop)=2^drop)=(2^drop=2*(n%2^drop)):=propext ⟨Eq.symm,Eq.symm⟩;simp only [Ig,Zb,Zm,Zr,e]
 ·rw [Nat.min_eq_right h]
  have h1:n<2^(n.log2+1):=fW n;have h2:(2:Nat)^(n.log2+2)=2*2^(n.log2+1):=by rw [zH,zB]
  have h3:(2:Nat)^(n.log2+2)≤2^drop:=zF (by omega) h
  unfold jE
  rw [Ze (show n<2^(n.log2+2)by omega),zA (show n<2^(n.log2+2)by omega),
   Ze (show n<2^drop by omega),zA (show n<2^drop by omega)]
  rw [bt];rw [ze (show¬(2^drop<2*n∨2*n=2^drop∧0%2=1)by omega),ze]
  intro hc;simp only [Ig,Zb,Zm,Zr]at hc;omega
theorem nk(m k:Nat)(h:m≠0):(m*2^k).log2=m.log2+k:=by
 apply ni
 ·rw [zu];exact zn _ (h_ m h)
 ·rw [show m.log2+k+1=(m.log2+1)+k by omega,zu]
  exact(zG (zo _)).2 (fW m)
theorem jQ(x b:Nat):(x/2^b).log2-52=x.log2-(b+52):=by
 rcases zj x (2^b)with h|h
 ·rw [Ze h]
  simp
  rcases zX x with rfl|h0
  ·simp
  ·have:=(Nat.log2_lt (by omega)).2 h;omega
 ·have hx:x≠0:=by have:=zo b;omega
  have hb:=(Nat.le_log2 hx).2 h
  have:(x/2^b).log2=x.log2-b:=by
   apply ni
   ·rw [Zu (zo _),←zu,show x.log2-b+b=x.log2 by omega];exact h_ x hx
   ·apply Zh
    rw [←zu,show b+(x.log2-b+1)=x.log2+1 by omega];exact fW x
  omega
theorem cP:double.infRung=cap:=by decide
theorem kh(fV:Bool)(m:Nat)(p:Int)(b:Nat)(hp: -1074-(b:Int)≤p):
 double.nearest fV m p=double.word fV (rq (m*2^(p+1074+b).toNat) (2^b)):=by
 unfold Format.nearest
 split
 ·next h=>subst h;rw [Zk,sa]
 ·next h=>
  have hl:double.leastPlace= -1074:=by decide
  have hf:(double.fractionBits:Int)=52:=rfl;have akx:double.binade=2^52:=rfl;simp only [hl,hf,akx,cP];unfold rq;generalize cap=CC;generalize(2:Nat)^52=TT;rw [jQ,nk _ _ h,CU,ZT,←zu];obtain⟨t,ht⟩: ∃t:Nat,(t:Int)=p+1074+b:=⟨(p+1074+b).toNat,by omega⟩
  rw [←ht,zv];generalize hL:m.log2=L at *;have agG:(max (p+ ↑L-52) (-1074)- -1074).toNat=L+t-(b+52):=by omega
  rw [agG]
  suffices h0:jE (m*2^(p-max (p+ ↑L-52) (-1074)).toNat) (2^(max (p+ ↑L-52) (-1074)-p).toNat)=jE (m*2^t) (2^(b+(L+t-(b+52))))by rw [h0]
  generalize hk:L+t-(b+52)=k at *;have e1:(p-max (p+ ↑L-52) (-1074)).toNat=t-(b+k):=by omega
  have e2:(max (p+ ↑L-52) (-1074)-p).toNat=(b+k)-t:=by omega
  rw [e1,e2]
  rcases Nat.le_total (b+k) t with h1|h1
  ·rw [Nat.sub_eq_zero_of_le h1,Zl]
   have:=jd (m*2^(t-(b+k))) 1 (2^(b+k)) (zo _);rw [←this,zP,zw,←zu,show t-(b+k)+(b+k)=t by omega]
  ·rw [Nat.sub_eq_zero_of_le h1,Zl,Zj]
   have:=jd m (2^(b+k-t)) (2^t) (zo _);rw [←this,←zu,show b+k-t+t=b+k by omega]
def my:Nat:=1074
theorem kj:my=1074:=rfl
def KK:Nat:=2^my
theorem kk:KK=2^my:=rfl
theorem gG:0<KK:=zo _
theorem tE(N D a b:Nat)(hD:0<D)(hq:53≤(N/D).log2):
 rq (N*2^a) (D*2^b)=rq ((2*(N/D)+(if N%D=0 then 0 else 1))*2^a) (2^(b+1)):=by
 have hdm:=zR N D;have hr:N%D<D:=zU _ hD;have AL:N/D≠0:=by intro h;rw [h]at hq;simp at hq
 generalize hqq:N/D=q at *;generalize hrr:N%D=r at *;generalize hs:(if r=0 then 0 else 1)=s
 have qy:s≤1:=by subst hs;split<;>omega
 have agI:(2*q+s).log2=q.log2+1:=by
  have h1:=h_ q AL;have h2:=fW q;apply ni
  ·rw [zH];omega
  ·rw [zH];omega
 have QP:(N*2^a/(D*2^b)).log2-52=q.log2+a-(b+52):=by
  rcases Nat.le_total a b with vU|vU
  ·have e:N*2^a/(D*2^b)=q/2^(b-a):=by
    rw [show D*2^b=D*2^(b-a)*2^a by rw [zw,←zu,show b-a+a=b by omega],
     Ie _ _ (zo _),←Zf,hqq]
   rw [e,jQ];omega
  ·have e:N*2^a/(D*2^b)=N*2^(a-b)/D:=by
    rw [show N*2^a=N*2^(a-b)*2^b by rw [zw,←zu,show a-b+b=a by omega],
     Ie _ _ (zo _)]
   rw [e]
   have:(N*2^(a-b)/D).log2=q.log2+(a-b):=by
    apply ni
    ·rw [Zu hD,zu]
     have h1:=h_ q AL
     have:2^q.log2*D≤N:=by
      have:=zn D h1;rw [zB q D]at this;omega
     calc 2^q.log2*2^(a-b)*D=2^q.log2*D*2^(a-b):=by rw [Nat.mul_right_comm]
      _≤N*2^(a-b):=zn _ this
    ·apply Zh
     rw [show q.log2+(a-b)+1=(q.log2+1)+(a-b)by omega,zu,←zw]
     apply(zG (zo _)).2;have h2:=fW q;have:D*(q+1)≤D*2^(q.log2+1):=Zg _ h2;rw [Nat.mul_succ]at this;omega
   rw [this];omega
 have aky:((2*q+s)*2^a/2^(b+1)).log2-52=q.log2+a-(b+52):=by
  rw [jQ,nk _ _ (by omega),agI]
  omega
 unfold rq;rw [QP,aky]
 congr 2
 generalize hk:q.log2+a-(b+52)=k at *;obtain⟨g,hg⟩: ∃g,b+k=a+1+g:=⟨b+k-(a+1),by omega⟩
 have e1:jE (N*2^a) (D*2^b*2^k)=jE N (D*2^(g+1)):=by
  rw [zw,←zu,hg,show a+1+g=g+1+a by omega,zu 2 (g+1) a,←zw,jd _ _ _ (zo _)]
 have e2:jE ((2*q+s)*2^a) (2^(b+1)*2^k)=jE (2*q+s) (2^(g+2)):=by
  rw [←zu,show b+1+k=g+2+a by omega,zu 2 (g+2) a,jd _ _ _ (zo _)]
 rw [e1,e2];have hG:(2:Nat)^(g+1)=2*2^g:=by rw [zH,zB]
 have hG2:(2:Nat)^(g+2)=4*2^g:=by rw [zH,zH];omega
 have hGp:=zo g;have f1:N/(D*2^(g+1))=q/2^(g+1):=by rw [←Zf,hqq]
 have f2:(2*q+s)/2^(g+2)=q/2^(g+1):=by
  rw [show(2:Nat)^(g+2)=2*2^(g+1)by rw [zH,zB],←Zf]
  congr 1;omega
 have q1:=zR q (2^(g+1));have q2:q%2^(g+1)<2^(g+1):=zU _ (zo _)
 have m1:N%(D*2^(g+1))=D*(q%2^(g+1))+r:=by
  rw [Nat.mod_mul,hqq,hrr];omega
 have m2:(2*q+s)%2^(g+2)=2*(q%2^(g+1))+s:=by
  rw [show(2:Nat)^(g+2)=2*2^(g+1)by rw [zH,zB],Nat.mod_mul]
  have a1:(2*q+s)%2=s:=by omega
  have a2:(2*q+s)/2=q:=by omega
  rw [a1,a2];omega
 unfold jE;rw [f1,f2,m1,m2];generalize q/2^(g+1)=f;generalize q%2^(g+1)=t at *
 congr 1
 rw [hG,hG2];generalize 2^g=G at *
 rcases ZG t G with ht|ht|ht
 ·
  have c1:D*(t+1)≤D*G:=Zg _ ht;rw [Nat.mul_succ]at c1;have c2:D*(2*G)=2*(D*G):=by rw [ZB]
  rw [c2,ze (by omega),ze (by omega)]
 ·subst ht
  have c2:D*(2*t)=2*(D*t):=by rw [ZB]
  rw [c2]
  by_cases Wj:r=0
  ·subst Wj
   have:s=0:=by rw [←hs];simp
   subst this
   congr 1
   apply propext;omega
  ·have:s=1:=by rw [←hs,ze Wj]
   subst this;rw [zh (by omega),zh (by omega)]
 ·have c1:D*(G+1)≤D*t:=Zg _ ht
  rw [Nat.mul_succ]at c1;have c2:D*(2*G)=2*(D*G):=by rw [ZB]
  rw [c2,zh (by omega),zh (by omega)]
def bP(u:Nat):Bool:=u/2^63%2==1
def rg(u:Nat):Nat:=u%2^63
def mg(r:Nat):Nat:=if r<2^52 then r else 2^52+r%2^52
def up(r:Nat):Nat:=r/2^52-1
theorem cH(r:Nat):val r=mg r*2^up r:=by
 unfold val mg up
 split
 ·next h=>rw [Ze h];simp
 ·rfl
theorem bN{u:Nat}(h:rg u<cap):double.read u= .number (bP u) (mg (rg u)) (-1074+(up (rg u):Int)):=by
 unfold Format.read;have hw:double.signWeight=2^63:=by decide
 have hb:double.binade=2^52:=rfl;have hl:double.leastPlace= -1074:=by decide
 simp only [hw,hb,hl,cP];show(if rg u<2^52 then _ else _)=_
 unfold mg up
 by_cases h1:rg u<2^52
 ·rw [zh h1,zh h1,Ze h1];rfl
 ·rw [ze h1,ze h1]
  show(if rg u<cap then _ else _)=_
  rw [zh h];rfl
theorem cz{u:Nat}(h:rg u=cap):double.read u= .infinity (bP u):=by
 unfold Format.read;have hw:double.signWeight=2^63:=by decide
 have hb:double.binade=2^52:=rfl;simp only [hw,hb,cP];show(if rg u<2^52 then _ else if rg u<cap then _ else if rg u=cap then _ else _)=_
 rw [ze (by rw [h];decide),ze (by omega),zh h];rfl
theorem fb{u:Nat}(h:cap<rg u):double.read u= .nan (bP u) (rg u-cap):=by
 unfold Format.read;have hw:double.signWeight=2^63:=by decide
 have hb:double.binade=2^52:=rfl;simp only [hw,hb,cP];show(if rg u<2^52 then _ else if rg u<cap then _ else if rg u=cap then _ else _)=_
 have hc:2^52≤cap:=by decide
 rw [ze (by omega),ze (by omega),ze (by omega)];rfl
def wd(fV:Bool)(r:Nat):Nat:=if fV then 2^63+r else r
theorem eX(fV:Bool)(r:Nat):double.word fV r=wd fV r:=by
 unfold Format.word wd;have hw:double.signWeight=2^63:=by decide
 rw [hw]
theorem afH(A B:Nat):rq A B≤cap:=Nat.min_le_right _ _
theorem np:cap<2^63:=by decide
theorem Ke(fV:Bool)(r:Nat)(h:r<2^63):rg (wd fV r)=r:=by
 unfold rg wd;split<;>omega
theorem F_(fV:Bool)(r:Nat)(h:r<2^63):bP (wd fV r)=fV:=by
 unfold bP wd
 cases fV
 ·simp only [zJ,ZD]
  rw [Ze h];rfl
 ·simp only [Ic]
  have:(2^63+r)/2^63=1:=by omega
  rw [this];rfl
theorem CV{u:Nat}(h:u<2^64):wd (bP u) (rg u)=u:=by
 unfold wd bP rg;have hd:=zR u (2^63);have h2:u/2^63<2:=by omega
 rcases zj (u/2^63) 1 with h1|h1
 ·have:u/2^63=0:=by omega
  rw [this];simp;omega
 ·have:u/2^63=1:=by omega
  rw [this];simp;omega
theorem afI(fV:Bool)(r:Nat)(h:r<2^63):wd fV r<2^64:=by
 unfold wd;split<;>omega
def sv(u:Nat):Int:=if bP u then -(val (rg u):Int)else val (rg u)
theorem yR(fV:Bool)(m k:Nat):signed fV m k=if fV then -((m*2^k:Nat):Int)else((m*2^k:Nat):Int):=by
 unfold signed;rw [ZT]
theorem vF(u:Nat)(base:Nat)(h:base≤up (rg u)):
 sv u=signed (bP u) (mg (rg u)) (up (rg u)-base)*(2^base:Nat):=by
 unfold sv;rw [yR,cH]
 have:mg (rg u)*2^up (rg u)=mg (rg u)*2^(up (rg u)-base)*2^base:=by
  rw [zw,←zu,show up (rg u)-base+base=up (rg u)by omega]
 rw [this]
 split
 ·rw [Int.neg_mul,Zd]
 ·rw [Zd]
theorem Rq(s t:Bool)(m n i j:Nat)(x y:Int)
 (hx:x=signed s m (i-min i j)*(2^min i j:Nat)) (hy:y=signed t n (j-min i j)*(2^min i j:Nat)):
 ((Datum.number s m (-1074+(i:Int))).sum (.number t n (-1074+(j:Int)))).map double.write
   =some (wd (if x+y=0 then s&&t else decide (x+y<0)) (rq (x+y).natAbs 1)):=by
 simp only [Datum.sum,ZO];have hb:min (-1074+(i:Int)) (-1074+(j:Int))= -1074+((min i j:Nat):Int):=by omega
 rw [hb];have e1:(-1074+(i:Int)-(-1074+((min i j:Nat):Int))).toNat=i-min i j:=by omega
 have e2:(-1074+(j:Int)-(-1074+((min i j:Nat):Int))).toNat=j-min i j:=by omega
 rw [e1,e2];generalize bJ:min i j=b at *;generalize hS:signed s m (i-b)=S at *;generalize hT:signed t n (j-b)=T at *;have adS:x+y=(S+T)*((2^b:Nat):Int):=by rw [hx,hy,Int.add_mul]
 have hp:(0:Int)<((2^b:Nat):Int):=by exact_mod_cast zo b
 have hz:(x+y=0)↔(S+T=0):=by
  rw [adS]
  constructor
  ·intro h;rcases Int.mul_eq_zero.1 h with h|h
   ·exact h
   ·omega
  ·intro h;rw [h,Int.zero_mul]
 have hn:(x+y<0)↔(S+T<0):=by
  rw [adS]
  constructor
  ·intro h
   rcases Zy (S+T) 0 with h1|h1
   ·exact h1
   ·have:=Int.mul_nonneg h1 (Int.le_of_lt hp);omega
  ·intro h;exact Int.mul_neg_of_neg_of_pos h hp
 have ha:(x+y).natAbs=(S+T).natAbs*2^b:=by rw [adS,Int.natAbs_mul,Int.natAbs_natCast]
 simp only [Format.write];rw [kh _ _ _ 0 (by omega),eX]
 have e3:(-1074+(b:Int)+1074+((0:Nat):Int)).toNat=b:=by omega
 rw [e3,←ha,Zl];simp only [hz,hn]
theorem Kf{u v:Nat}(hu:rg u<cap)(hv:rg v<cap):
 double.add u v=some (wd (if sv u+sv v=0 then bP u&&bP v else decide (sv u+sv v<0)) (rq (sv u+sv v).natAbs 1)):=by
 unfold Format.add;rw [bN hu,bN hv];exact Rq _ _ _ _ _ _ _ _ (vF u _ (Nat.min_le_left _ _)) (vF v _ (Nat.min_le_right _ _))
theorem WK{u v:Nat}(hu:rg u<cap)(hv:rg v<cap):
 double.mul u v=some (wd (bP u^^bP v) (rq (val (rg u)*val (rg v)) KK)):=by
 unfold Format.mul;rw [bN hu,bN hv];simp only [Datum.product,ZO,Format.write];have h74:=kj;rw [kh _ _ _ my (by omega),eX,←kk]
 have:(-1074+(up (rg u):Int)+(-1074+(up (rg v):Int))+1074+(my:Int)).toNat=up (rg u)+up (rg v):=by omega
 rw [this,cH,cH,zu]
 suffices h:mg (rg u)*mg (rg v)*(2^up (rg u)*2^up (rg v))=mg (rg u)*2^up (rg u)*(mg (rg v)*2^up (rg v))by rw [h]
 generalize 2^up (rg u)=a;generalize 2^up (rg v)=b;rw [zw,zw]
 congr 1
 rw [ZB]
theorem oD{A B A' B':Nat}(hB:0<B)(Qk:0<B')(h:A*B'=A'*B):rq A B=rq A' B':=
 Nat.le_antisymm (lA hB Qk (Nat.le_of_eq h)) (lA Qk hB (Nat.le_of_eq h.symm))
theorem WL(m n more:Nat)(i j:Nat)(fV:Bool)(hm:m≠0)(hn:n≠0)(agK:54+n.log2≤m.log2+more):
 double.nearest fV (2*(m*2^more/n)+(m*2^more%n !=0).toNat) ((i:Int)-(j:Int)-(more:Int)-1)
  =wd fV (rq (m*2^i*KK) (n*2^j)):=by
 have hb:(m*2^more%n !=0).toNat=if m*2^more%n=0 then 0 else 1:=by
  by_cases h:m*2^more%n=0<;>simp [h]
 have JR:0<n:=by omega
 rw [hb,kh _ _ _ (j+more+1) (by omega),eX]
 have e:((i:Int)-(j:Int)-(more:Int)-1+1074+((j+more+1:Nat):Int)).toNat=i+my:=by rw [kj];omega
 rw [e,←tE (m*2^more) n (i+my) (j+more) JR]
 ·refine ZW (wd fV) ?_
  apply oD (zL JR (zo _)) (zL JR (zo _));rw [zu,zu,←kk];generalize 2^more=a;generalize 2^i=b;generalize 2^j=c;generalize KK=d;simp only [zB,ZB]
 ·rw [Nat.le_log2]
  ·rw [Zu JR]
   have h1:=h_ m hm;have h2:=fW n
   calc 2^53*n≤2^53*2^(n.log2+1):=Zg _ (Zc h2)
    _=2^(54+n.log2):=by rw [←zu];congr 1;omega
    _≤2^(m.log2+more):=zF (by omega) agK
    _=2^m.log2*2^more:=zu _ _ _
    _≤m*2^more:=zn _ h1
  ·have:0<m*2^more/n:=by
    apply Nat.div_pos _ JR;have h1:=h_ m hm;have h2:=fW n
    calc n≤2^(n.log2+1):=Zc h2
     _≤2^(m.log2+more):=zF (by omega) (by omega)
     _=2^m.log2*2^more:=zu _ _ _
     _≤m*2^more:=zn _ h1
   omega
theorem fX{r:Nat}:mg r=0↔r=0:=by
 unfold mg;split<;>omega
theorem Kg{x c B:Nat}(h:x=0):rq (x*c) B=0:=by rw [h,Zk,sa]
theorem Kh{u v:Nat}(hu:rg u<cap)(hv:rg v<cap)(h0:rg v≠0):
 double.div u v=some (wd (bP u^^bP v) (rq (val (rg u)*KK) (val (rg v)))):=by
 unfold Format.div;rw [bN hu,bN hv];have hn:mg (rg v)≠0:=fun h=>h0 (fX.1 h)
 simp only [Datum.quotient];rw [ze hn];simp only [ZO,Format.write]
 congr 1
 rcases zX (rg u)with hz|hz
 ·have hm:mg (rg u)=0:=fX.2 hz
  rw [hm,Kg (by rw [hz,jp])]
  simp only [ZT,Zk,Nat.zero_div,Nat.zero_mod,Nat.mul_zero,bne_self_eq_false,Bool.toNat_false,Z4,Format.nearest,eX,Ic]
 ·have hm:mg (rg u)≠0:=fun h=>by have:=fX.1 h;omega
  have hf:double.fractionBits+2=54:=rfl;rw [hf,ZT,cH,cH];have:=WL (mg (rg u)) (mg (rg v)) (54+(mg (rg v)).log2-(mg (rg u)).log2) (up (rg u)) (up (rg v)) (bP u^^bP v) hm hn (by omega)
  rw [←this]
  congr 1
  omega
theorem oE(x y:Int)(c:Nat)(hc:0<c):compare (x*(c:Int)) (y*(c:Int))=compare x y:=by
 have hp:(0:Int)<(c:Int):=by exact_mod_cast hc
 rcases Int.lt_trichotomy x y with h|h|h
 ·rw [ZC.2 h,ZC.2 (Int.mul_lt_mul_of_pos_right h hp)]
 ·subst h;simp
 ·rw [Il.2 h,Il.2 (Int.mul_lt_mul_of_pos_right h hp)]
theorem Ms{u v:Nat}(hu:rg u<cap)(hv:rg v<cap):double.order u v=some (compare (sv u) (sv v)):=by
 unfold Format.order;rw [bN hu,bN hv];simp only [Datum.order]
 congr 1
 have hb:min (-1074+(up (rg u):Int)) (-1074+(up (rg v):Int))= -1074+((min (up (rg u)) (up (rg v)):Nat):Int):=by omega
 rw [hb];have e1:(-1074+(up (rg u):Int)-(-1074+((min (up (rg u)) (up (rg v)):Nat):Int))).toNat=up (rg u)-min (up (rg u)) (up (rg v)):=by omega
 have e2:(-1074+(up (rg v):Int)-(-1074+((min (up (rg u)) (up (rg v)):Nat):Int))).toNat=up (rg v)-min (up (rg u)) (up (rg v)):=by omega
 rw [e1,e2,vF u _ (Nat.min_le_left _ (up (rg v))),vF v _ (Nat.min_le_right (up (rg u)) _),oE _ _ _ (zo _)]
theorem uC:0<val cap:=by
 have:= @rh 0 cap (by decide)
 rw [jp]at this;exact this
theorem mD{u v:Nat}(hu:rg u≤cap)(hv:rg v≤cap):double.order u v=some (compare (sv u) (sv v)):=by
 rcases zj (rg u) cap with hu1|hu1
 ·rcases zj (rg v) cap with j8|j8
  ·exact Ms hu1 j8
  ·have hv2:rg v=cap:=by omega
   unfold Format.order;rw [bN hu1,cz hv2];have h1:=rh hu1;simp only [Datum.order];unfold sv;rw [hv2];generalize val cap=C at *;generalize val (rg u)=x at *
   cases bP v
   ·simp only [zJ,ZD]
    rw [ZC.2]
    split<;>omega
   ·simp only [Ic]
    rw [Il.2]
    split<;>omega
 ·have Vg:rg u=cap:=by omega
  rcases zj (rg v) cap with j8|j8
  ·unfold Format.order
   rw [cz Vg,bN j8];have h1:=rh j8;simp only [Datum.order];unfold sv;rw [Vg];generalize val cap=C at *;generalize val (rg v)=x at *
   cases bP u
   ·simp only [zJ,ZD]
    rw [Il.2]
    split<;>omega
   ·simp only [Ic]
    rw [ZC.2]
    split<;>omega
  ·have hv2:rg v=cap:=by omega
   unfold Format.order;rw [cz Vg,cz hv2];simp only [Datum.order];unfold sv;rw [Vg,hv2];have h1:=uC;generalize val cap=C at *
   cases bP u<;>cases bP v<;>simp only [zJ,ZD,Ic]
   ·simp [Std.ReflCmp.compare_self]
   ·rw [Il.2 (by omega)];rfl
   ·rw [ZC.2 (by omega)];rfl
   ·simp [Std.ReflCmp.compare_self]
theorem uD{u:Nat}(v:Nat)(hu:cap<rg u):double.order u v=none:=by
 unfold Format.order;rw [fb hu];cases double.read v<;>rfl
theorem CW(u:Nat){v:Nat}(hv:cap<rg v):double.order u v=none:=by
 unfold Format.order;rw [fb hv];cases double.read u<;>rfl
def gw(u v:Nat):Int:=if cap<rg u∨cap<rg v then 2 else if sv u<sv v then -1 else if sv v<sv u then 1 else 0
def rv(S:Int):Int:=if S<0 then -(val (rq S.natAbs 1):Int)else val (rq S.natAbs 1)
theorem afJ{fV:Bool}{r:Nat}(h:r<2^63):sv (wd fV r)=if fV then -(val r:Int)else val r:=by
 unfold sv;rw [F_ _ _ h,Ke _ _ h]
theorem afK(A B:Nat):rq A B<2^63:=zW (afH A B) np
def pv(S:Int):Int:=if S<0 then -(val (rq S.natAbs KK):Int)else val (rq S.natAbs KK)
theorem yS(u:Nat):(sv u).natAbs=val (rg u):=by
 unfold sv;split<;>omega
theorem CX{n drop:Nat}(h:n.log2+2≤drop):n<2^drop:=by
 have h1:n<2^(n.log2+1):=fW n;have h3:(2:Nat)^(n.log2+1)≤2^drop:=zF (by omega) (by omega)
 omega
def rj(ch:Toward)(fV:Bool)(n d:Nat):Nat:=
 match ch with
 | .even=>jE n d
 | .down=>n/d+(fV&&n%d !=0).toNat
 | .up=>n/d+(!fV&&n%d !=0).toNat
 | .zero=>n/d
theorem WM(ch:Toward)(fV:Bool)(n drop:Nat):ch.cut fV n drop=rj ch fV n (2^drop):=by
 cases ch
 case even=>exact CU fV n drop
 all_goals
  unfold Toward.cut rj;simp only [ZT,zP]
  rcases Nat.le_total drop (n.log2+2)with h|h
  ·rw [Nat.min_eq_left h]
   try simp
  ·rw [Nat.min_eq_right h]
   have h1:n<2^(n.log2+1):=fW n;have h2:(2:Nat)^(n.log2+2)=2*2^(n.log2+1):=by rw [zH,zB]
   have h3:=CX h
   simp only [Ze (show n<2^(n.log2+2)by omega),zA (show n<2^(n.log2+2)by omega),
    Ze h3,zA h3,Ih,Bool.toNat_false]
theorem oF(ch:Toward)(fV:Bool)(n d c:Nat)(hc:0<c):rj ch fV (n*c) (d*c)=rj ch fV n d:=by
 have hm:(n%d*c !=0)=(n%d !=0):=by
  by_cases h:n%d=0
  ·rw [h,Zk]
  ·have:n%d*c≠0:=Nat.mul_ne_zero h (by omega)
   rw [bne_iff_ne.2 h,bne_iff_ne.2 this]
 cases ch<;>simp only [rj,jd _ _ _ hc,Ie _ _ hc,Nat.mul_mod_mul_right,hm]
def iv(ch:Toward)(u:Nat):Nat:=rj ch (bP u) (val (rg u)) KK
theorem sb{u:Nat}(h:rg u<cap)(ch:Toward):(double.read u).integral ch= .number (bP u) (iv ch u) 0:=by
 rw [bN h];simp only [Datum.integral];rw [WM,ZT];refine ZW (fun z=>Datum.number (bP u) z 0) ?_
 unfold iv;rw [cH,kk];have h74:=kj
 rcases Nat.le_total (up (rg u)) my with hu|hu
 ·have e1:(-1074+(up (rg u):Int)).toNat=0:=by omega
  have e2:(-(-1074+(up (rg u):Int))).toNat=my-up (rg u):=by omega
  rw [e1,e2,Zl,Zj,←oF ch (bP u) (mg (rg u)) (2^(my-up (rg u))) (2^up (rg u)) (zo _),←zu,
   show my-up (rg u)+up (rg u)=my by omega]
 ·have e1:(-1074+(up (rg u):Int)).toNat=up (rg u)-my:=by omega
  have e2:(-(-1074+(up (rg u):Int))).toNat=0:=by omega
  rw [e1,e2,Zl,←oF ch (bP u) (mg (rg u)*2^(up (rg u)-my)) 1 (2^my) (zo _),zP,zw,←zu,
   show up (rg u)-my+my=up (rg u)by omega]
theorem Rr(n e:Nat)(hn:n<2^53)(he:e≤1900): ∃r,r<cap∧val r=n*2^e:=by
 have pu:cap=2047*2^52:=rfl
 rcases zX n with rfl|h0
 ·exact⟨0,by decide,by rw [jp,Zk]⟩
 have h1:=h_ n (by omega)
 have h2:=fW n;have hL:n.log2<53:=(Nat.log2_lt (by omega)).2 hn
 generalize hl:n.log2=L at *
 rcases zj (L+e) 52 with hs|hs
 ·have:n*2^e<2^52:=by
   calc n*2^e<2^(L+1)*2^e:=(zG (zo _)).2 h2
    _=2^(L+1+e):=(zu _ _ _).symm
    _≤2^52:=zF (by omega) (by omega)
  refine⟨n*2^e,by omega,?_⟩
  unfold val;rw [zh this]
 ·obtain⟨t,ht⟩: ∃t,L+t=52:=⟨52-L,by omega⟩
  obtain⟨x,hx⟩: ∃x,e=t+x:=⟨e-t,by omega⟩
  have b1:2^52≤n*2^t:=by
   calc 2^52=2^L*2^t:=by rw [←zu,ht]
    _≤n*2^t:=zn _ h1
  have b2:n*2^t<2^53:=by
   calc n*2^t<2^(L+1)*2^t:=(zG (zo _)).2 h2
    _=2^(L+1+t):=(zu _ _ _).symm
    _=2^53:=by congr 1;omega
  rw [hx,zu,←zw];generalize n*2^t=M at *;refine⟨(x+1)*2^52+(M-2^52),by omega,?_⟩
  have d1:((x+1)*2^52+(M-2^52))/2^52=x+1:=by omega
  have d2:((x+1)*2^52+(M-2^52))%2^52=M-2^52:=by omega
  unfold val;rw [ze (by omega),d1,d2,show 2^52+(M-2^52)=M by omega,show x+1-1=x by omega]
theorem lB(r:Nat):mg r<2^53:=by
 unfold mg;have:r%2^52<2^52:=zU _ (by omega)
 split<;>omega
theorem WN{u:Nat}(h:rg u<cap)(ch:Toward): ∃r,r<cap∧val r=iv ch u*KK:=by
 have h74:=kj;have hKp:=gG
 rcases zj (up (rg u)) my with hu|hu
 ·have hq:val (rg u)/KK<2^52:=by
   rw [cH,kk];apply Zh;have:=lB (rg u)
   calc mg (rg u)*2^up (rg u)<2^53*2^up (rg u):=(zG (zo _)).2 this
    _=2^(53+up (rg u)):=(zu _ _ _).symm
    _≤2^(my+52):=zF (by omega) (by omega)
    _=2^my*2^52:=zu _ _ _
  have hi:iv ch u≤2^52:=by
   have b1: ∀b:Bool,b.toNat≤1:=by intro b;cases b<;>decide
   unfold iv
   cases ch<;>simp only [rj]
   ·have:=(wi (val (rg u)) KK).2;omega
   ·have:=b1 (bP u&&val (rg u)%KK !=0);omega
   ·have:=b1 (!bP u&&val (rg u)%KK !=0);omega
   ·omega
  exact Rr _ _ (by omega) (by omega)
 ·refine⟨rg u,h,?_⟩
  have hd:val (rg u)=mg (rg u)*2^(up (rg u)-my)*KK:=by
   rw [cH,kk,zw,←zu,show up (rg u)-my+my=up (rg u)by omega]
  unfold iv;rw [hd];generalize mg (rg u)*2^(up (rg u)-my)=k;have:=oF ch (bP u) k 1 KK hKp;rw [zP]at this;rw [this]
  cases ch<;>simp [rj,nh,Nat.mod_one]
theorem wj{u:Nat}(h:rg u<cap)(ch:Toward):
 ∃r,r<cap∧val r=iv ch u*KK∧double.write ((double.read u).integral ch)=wd (bP u) r:=by
 obtain⟨r,hr,hv⟩:=WN h ch;refine⟨r,hr,hv,?_⟩;rw [sb h];simp only [Format.write];have h74:=kj;rw [kh _ _ _ 0 (by omega),eX]
 have e1:((0:Int)+1074+((0:Nat):Int)).toNat=my:=by omega
 rw [e1,←kk,←hv,Zl,Bb,Nat.min_eq_left (by omega)]
def ii(ch:Toward)(u:Nat):Int:=if bP u then -(iv ch u:Int)else iv ch u
def lg(ch:Toward)(u:Nat):Int×Int:=
 if cap<rg u then(0,20)else if rg u=cap then(0,10)
 else if ii ch u< -4611686018427387904∨4611686018427387904≤ii ch u then(0,10)else(ii ch u,0)
def Bc(n:Int):Nat:=wd (decide (n<0)) (rq (n.natAbs*KK) 1)
theorem CY(n:Int):double.write (.number (n<0) n.natAbs 0)=Bc n:=by
 simp only [Format.write];have h74:=kj;rw [kh _ _ _ 0 (by omega),eX]
 have e1:((0:Int)+1074+((0:Nat):Int)).toNat=my:=by omega
 rw [e1,←kk,Zl]
 rfl
theorem vG(u v:Nat):gw u v=(match double.order u v with|some .lt=> -1|some .gt=>1|some .eq=>0|none=>2):=by
 unfold gw
 rcases zj cap (rg u)with h|h
 ·rw [uD v h,zh (.inl h)]
 rcases zj cap (rg v)with h2|h2
 ·rw [CW u h2,zh (.inr h2)]
 rw [mD h h2,ze (by omega)]
 rcases Int.lt_trichotomy (sv u) (sv v)with h3|h3|h3
 ·rw [zh h3,ZC.2 h3]
 ·rw [ze (by omega),ze (by omega),Int.compare_eq_eq.2 h3]
 ·rw [ze (by omega),zh h3,Il.2 h3]
theorem Rs(d e:Datum):d.sum e=e.sum d:=by
 cases d<;>cases e<;>simp only [Datum.sum]
 ·next s m i t n j=>
  rw [Int.min_comm j i,Int.add_comm (signed t n _),Bool.and_comm t s]
 ·next s t=>by_cases h:s=t
            ·subst h;simp
            ·rw [ze h,ze (fun h'=>h h'.symm)]
theorem Rt(u v:Nat):double.add u v=double.add v u:=by unfold Format.add;rw [Rs]
theorem Bd(d e:Datum):d.product e=e.product d:=by
 cases d<;>cases e<;>simp only [Datum.product,zB,Int.add_comm,Bool.xor_comm]
theorem yT(u v:Nat):double.mul u v=double.mul v u:=by unfold Format.mul;rw [Bd]
theorem Ki(b:Nat)(h:b<2^63):b^^^2^63=2^63+b:=by
 apply Nat.eq_of_testBit_eq;intro i;rw [Nat.testBit_xor,Nat.testBit_two_pow]
 rcases ZG i 63 with h1|h1|h1
 ·rw [Nat.testBit_two_pow_add_gt h1,zb (by omega),Bool.xor_false]
 ·subst h1
  rw [Nat.testBit_two_pow_add_eq,Nat.testBit_lt_two_pow h];simp
 ·have:b.testBit i=false:=Nat.testBit_lt_two_pow (zy h (zF (by omega) (by omega)))
  have h2:(2^63+b).testBit i=false:=Nat.testBit_lt_two_pow (zy (show 2^63+b<2^64 by omega) (zF (by omega) (by omega)))
  rw [this,h2];simp;omega
theorem Ru(u:Nat)(h:u<2^64):u^^^2^63=if u<2^63 then 2^63+u else u-2^63:=by
 split
 ·next h1=>exact Ki u h1
 ·next h1=>
  have:=Ki (u-2^63) (by omega)
  rw [show 2^63+(u-2^63)=u by omega]at this
  have h2:u^^^2^63=(u-2^63^^^2^63)^^^2^63:=by rw [this]
  rw [h2,Nat.xor_assoc,Nat.xor_self,Nat.xor_zero]
theorem ab0(u:Nat)(h:u<2^64):(BitVec.ofNat 64 u^^^9223372036854775808#64).toNat%18446744073709551616=if u<2^63 then 2^63+u else u-2^63:=by
 rw [BitVec.toNat_xor,BitVec.toNat_ofNat,BitVec.toNat_ofNat,zA h,zA (show 9223372036854775808<2^64 by decide)]
 rw [←Ru u h];exact zA (Nat.xor_lt_two_pow (n:=64) h (by decide))
theorem ab1(u:Nat)(h:u<2^64):(BitVec.ofNat 64 u&&&9223372036854775807#64).toNat%18446744073709551616=u%2^63:=by
 rw [BitVec.toNat_and,BitVec.toNat_ofNat,BitVec.toNat_ofNat,zA h,zA (show 9223372036854775807<2^64 by decide)]
 have:=Z3 u 63;rw [show(2:Nat)^63-1=9223372036854775807 by decide]at this
 rw [this];exact zA (zy (zU _ (by decide)) (by decide))
end FloM
namespace Go
theorem yU(a:Nat)(ha:a<9223372036854775808):(BitVec.ofInt 64 (a:Int)).toNat=a:=by
 rw [BitVec.ofInt_natCast,BitVec.toNat_ofNat];exact zA (by omega)
theorem uE(a b:Nat)(ha:a<9223372036854775808)(hb:b<9223372036854775808):bits .and .i64 (a:Int) (b:Int)=((a&&&b:Nat):Int):=by
 have hx:a&&&b<2^63:=Nat.and_lt_two_pow _ (by omega)
 show IntKind.i64.wrap ((BitVec.ofInt 64 (a:Int)&&&BitVec.ofInt 64 (b:Int)).toNat:Int)=_;rw [BitVec.toNat_and,yU a ha,yU b hb,IntKind.wrap_i64];omega
end Go
namespace FloM
def gm(u:Nat):Nat:=if u<2^63 then 0 else 2^63
theorem Be(u:Nat)(h:u<2^64):gm u=u-rg u∧rg u≤u∧bP u=decide (2^63≤u):=by
 unfold gm rg bP
 by_cases h1:u<2^63
 ·rw [zh h1,zA h1,Ze h1,zb (by omega)]
  exact⟨by omega,by omega,rfl⟩
 ·rw [ze h1,zc (by omega)]
  have:u/2^63=1:=by omega
  rw [this];exact⟨by omega,by omega,rfl⟩
theorem Rv(u:Nat)(h:u<2^64):u&&&2^63=gm u:=by
 have h1:=Z3 u 63
 have h2:u&&&2^63=if u.testBit 63 then 2^63 else 0:=by
  apply Nat.eq_of_testBit_eq;intro i;rw [Nat.testBit_and,Nat.testBit_two_pow]
  by_cases hi:63=i
  ·subst hi
   cases hb:u.testBit 63<;>simp<;>decide
  ·rw [zb hi,Bool.and_false]
   split
   ·rw [Nat.testBit_two_pow,zb hi]
   ·simp
 rw [h2];unfold gm;rw [Nat.testBit_eq_decide_div_mod_eq]
 by_cases hu:u<2^63
 ·rw [Ze hu,zh hu];rfl
 ·have:u/2^63=1:=by omega
  rw [this,ze hu];rfl
def WO(u v:Nat):Int:=
 if cap<rg u∨cap<rg v then 2 else if(rg u=0∧rg v=0)∨u=v then 0
 else if gm u≠gm v then(if gm u≠0 then -1 else 1)else if(u<v↔gm u=0)then -1 else 1
theorem WP(u v:Nat)(hu:u<2^64)(hv:v<2^64):WO u v=gw u v:=by
 unfold WO gw
 split
 ·rfl
 ·obtain⟨a1,a2,a3⟩:=Be u hu
  obtain⟨b1,b2,b3⟩:=Be v hv;have hzu:= @nj (rg u) (rg v);have hzv:= @nj (rg v) (rg u);have z1:= @nj 0 (rg u);have z2:= @nj 0 (rg v);rw [jp]at z1 z2;have i1:= @Kd (rg u) (rg v);have l1:rg u<2^63:=zU _ (by decide)
  have l2:rg v<2^63:=zU _ (by decide)
  unfold sv;rw [a3,b3];simp only [Zb];rw [a1,b1];generalize rg u=x at *;generalize rg v=y at *;generalize val x=X at *;generalize val y=Y at *;have c1:u-x=0∨u-x=2^63:=by rw [←a1];unfold gm;split<;>simp
  have c2:v-y=0∨v-y=2^63:=by rw [←b1];unfold gm;split<;>simp
  clear a1 b1 a3 b3
  repeat' split
  all_goals omega
def dg(N i:Nat):Nat:=N/65536^i%65536
def fd(n N:Nat):List Nat:=(List.range n).map (dg N)
def nd(N:Nat):Nat:=if N=0 then 0 else N.log2/16+1
def bl(N:Nat):Nat:=if N=0 then 0 else N.log2+1
theorem dN(i:Nat):0<65536^i:=Zz (by decide)
theorem jR(i:Nat):65536^i=2^(16*i):=by rw [Nat.pow_mul]
theorem ia(N i:Nat):dg N i<65536:=zU _ (by decide)
theorem je{N i:Nat}(h:N<65536^i):dg N i=0:=by unfold dg;rw [Ze h]
theorem WQ(n N:Nat):fd (n+1) N=fd n N++[dg N n]:=by unfold fd;rw [List.range_succ,List.map_append];rfl
theorem nr(n N:Nat):(fd n N).length=n:=by unfold fd;simp
theorem lY{n N i:Nat}(h:i<n):(fd n N)[i]? =some (dg N i):=by unfold fd;simp [h]
theorem kl(N k:Nat):bl N≤k↔N<2^k:=by
 unfold bl
 split
 ·next h=>subst h;simp [zo]
 ·next h=>rw [←Nat.log2_lt h];omega
theorem fJ(N k:Nat):nd N≤k↔N<65536^k:=by
 rw [jR];unfold nd
 split
 ·next h=>subst h;simp [zo]
 ·next h=>rw [←Nat.log2_lt h];omega
theorem eQ(N:Nat):N<65536^nd N:=(fJ N _).1 (za _)
theorem Kj(N:Nat):N<2^bl N:=(kl N _).1 (za _)
theorem wk(N k:Nat):k<nd N↔65536^k≤N:=by have:=fJ N k;omega
theorem ib:nd 0=0:=by simp [nd]
theorem iR{N:Nat}:nd N=0↔N=0:=by unfold nd;split<;>simp_all
theorem jS{a b:Nat}(h:a≤b):nd a≤nd b:=(fJ a _).2 (zW h (eQ b))
theorem sd{N k:Nat}(h:N<2^(16*k)):nd N≤k:=(fJ N k).2 (by rw [jR];exact h)
theorem oG(N i:Nat):N%65536^(i+1)=N%65536^i+65536^i*dg N i:=by
 unfold dg;rw [zH,Nat.mod_mul]
theorem oH(N i:Nat):N/65536^i=65536*(N/65536^(i+1))+dg N i:=by
 unfold dg;rw [zH,←Zf];omega
theorem wl{i j:Nat}(h:i≤j):65536^i≤65536^j:=zF (by decide) h
theorem WR{N:Nat}(h:N≠0):0<dg N (nd N-1):=by
 have h0:0<nd N:=by have:= @iR N;omega
 have h1:65536^(nd N-1)≤N:=(wk N _).1 (by omega)
 have h2:=eQ N;obtain⟨k,hk⟩: ∃k,nd N=k+1:=⟨nd N-1,by omega⟩
 rw [hk]at h1 h2⊢;rw [Nat.add_sub_cancel]at h1⊢;unfold dg;rw [zA]
 ·exact Nat.div_pos h1 (dN k)
 ·apply Zh;rw [←zH];exact h2
theorem ab2{N:Nat}(h:N≠0):dg N (nd N-1)=N/65536^(nd N-1):=by
 have h0:0<nd N:=by have:= @iR N;omega
 have h2:=eQ N;obtain⟨k,hk⟩: ∃k,nd N=k+1:=⟨nd N-1,by omega⟩
 rw [hk]at h2⊢;rw [Nat.add_sub_cancel];unfold dg;rw [zA];apply Zh;rw [←zH];exact h2
theorem ab3{N:Nat}(h:N≠0):bl N=16*(nd N-1)+bl (dg N (nd N-1)):=by
 have h0:0<nd N:=by have:= @iR N;omega
 rw [ab2 h,jR];have h1:65536^(nd N-1)≤N:=(wk N _).1 (by omega)
 rw [jR]at h1;generalize 16*(nd N-1)=k at *;have hp:=zo k;have hq:N/2^k≠0:=by have:=Nat.div_pos h1 hp;omega
 have hk:k≤N.log2:=(Nat.le_log2 h).2 h1
 have:(N/2^k).log2=N.log2-k:=by
  apply ni
  ·rw [Zu hp,←zu,show N.log2-k+k=N.log2 by omega];exact h_ N h
  ·apply Zh
   rw [←zu,show k+(N.log2-k+1)=N.log2+1 by omega];exact fW N
 unfold bl;rw [ze h,ze hq,this];omega
theorem WS{N:Nat}(h:N≠0):bl N=bl (N/2)+1:=by
 have h1:N/2<2^bl (N/2):=Kj _;have a:bl N≤bl (N/2)+1:=(kl N _).2 (by rw [zH];omega)
 have b:bl (N/2)≤bl N-1:=by
  rw [kl];have h2:=Kj N;have h3:bl N≠0:=by unfold bl;rw [ze h];omega
  obtain⟨k,hk⟩: ∃k,bl N=k+1:=⟨bl N-1,by omega⟩
  rw [hk,zH]at h2;rw [hk];simp only [Nat.add_sub_cancel];omega
 have h3:bl N≠0:=by unfold bl;rw [ze h];omega
 omega
theorem Bf:bl 0=0:=by simp [bl]
def qF(a b i:Nat):Nat:=(a%65536^i+b%65536^i)/65536^i
theorem CZ(a b:Nat):qF a b 0=0:=by unfold qF;simp [Nat.mod_one]
theorem wn(a b i:Nat):qF a b i≤1:=by
 unfold qF;have h:=dN i;have h1:=zU a h;have h2:=zU b h
 have:(a%65536^i+b%65536^i)/65536^i<2:=by
  apply Zh;omega
 omega
theorem C0(a b i:Nat):(qF a b i+dg a i+dg b i)%65536=dg (a+b) i∧(qF a b i+dg a i+dg b i)/65536=qF a b (i+1):=by
 have hP:=dN i
 constructor
 ·unfold qF dg
  have e:(a+b)/65536^i=a/65536^i+b/65536^i+(a%65536^i+b%65536^i)/65536^i:=by
   have h1:=zR a (65536^i);have h2:=zR b (65536^i);have:a+b=(a%65536^i+b%65536^i)+65536^i*(a/65536^i+b/65536^i):=by rw [ZM];omega
   rw [this,Ij _ _ hP];omega
  rw [e];omega
 ·unfold qF
  rw [oG,oG,zH,←Zf];have:a%65536^i+65536^i*dg a i+(b%65536^i+65536^i*dg b i)=(a%65536^i+b%65536^i)+65536^i*(dg a i+dg b i):=by rw [ZM];omega
  rw [this,Ij _ _ hP]
  congr 1;omega
theorem wq{a b i:Nat}(h:i<nd a∨i<nd b∨0<qF a b i):i<nd (a+b):=by
 rw [wk]
 rcases h with h|h|h
 ·have:=(wk a i).1 h;omega
 ·have:=(wk b i).1 h;omega
 ·have hP:=dN i
  have h1:65536^i≤a%65536^i+b%65536^i:=by
   rcases zj (a%65536^i+b%65536^i) (65536^i)with h2|h2
   ·unfold qF at h;rw [Ze h2]at h;omega
   ·exact h2
  have:=Nat.mod_le a (65536^i);have:=Nat.mod_le b (65536^i);omega
theorem C3{a b i:Nat}(h1:nd a≤i)(h2:nd b≤i)(h3:qF a b i=0):nd (a+b)≤i:=by
 rw [fJ]at *;have hP:=dN i;unfold qF at h3;rw [zA h1,zA h2]at h3
 rcases zj (a+b) (65536^i)with h|h
 ·exact h
 ·have:=Nat.div_pos h hP;omega
theorem Rw(b c i:Nat):((dg (b+c) i:Int)-(qF b c i:Int)-(dg b i:Int)<0↔qF b c (i+1)=1)∧
 (dg c i:Int)=(dg (b+c) i:Int)-(qF b c i:Int)-(dg b i:Int)+65536*(qF b c (i+1):Int):=by
 have h:=C0 b c i;have h1:=wn b c (i+1);have h2:=ia c i;have h3:=ia b i;have h4:=ia (b+c) i;have h5:=wn b c i;generalize dg (b+c) i=x at *;generalize dg b i=y at *;generalize dg c i=z at *;generalize qF b c i=k at *;generalize qF b c (i+1)=m at *;omega
def Kk(a n i:Nat):Nat:=a%65536^i*n/65536^i
theorem Rx(a n:Nat):Kk a n 0=0:=by unfold Kk;simp [Nat.mod_one]
theorem ab4(a n i:Nat)(h:n<65536):Kk a n i<65536:=by
 unfold Kk;have hP:=dN i;apply Zh;exact zW (zn n (Zc (zU a hP))) ((Nat.mul_lt_mul_left hP).2 h)
theorem Ry(a n i:Nat):(Kk a n i+dg a i*n)%65536=dg (a*n) i∧(Kk a n i+dg a i*n)/65536=Kk a n (i+1):=by
 have hP:=dN i
 constructor
 ·unfold Kk dg
  have e:a*n/65536^i=a/65536^i*n+a%65536^i*n/65536^i:=by
   have h1:=zR a (65536^i)
   have:a*n=a%65536^i*n+65536^i*(a/65536^i*n):=by
    conv=>lhs;rw [←h1]
    rw [zV,zw];omega
   rw [this,Ij _ _ hP];omega
  rw [e,Nat.add_comm,Nat.add_mod,Nat.mul_mod]
  conv=>rhs;rw [Nat.add_mod,Nat.mul_mod]
  simp
 ·unfold Kk
  rw [oG,zH,←Zf];have:(a%65536^i+65536^i*dg a i)*n=a%65536^i*n+65536^i*(dg a i*n):=by rw [zV,zw]
  rw [this,Ij _ _ hP]
theorem Kl{a n i:Nat}(h:a<65536^i)(hn:n<65536):dg (a*n) i=Kk a n i∧a*n<65536^(i+1):=by
 have hP:=dN i
 have h1:a*n<65536^(i+1):=by
  rw [zH]
  rcases zX n with rfl|h0
  ·rw [Nat.mul_zero];exact zL hP (by decide)
  ·exact zy ((zG h0).2 h) (Zg _ (by omega))
 refine⟨?_,h1⟩;unfold dg Kk;rw [zA h,zA];apply Zh;rw [←zH];exact h1
theorem Rz(a b i:Nat)(hb:0<b):(a/65536^(i+1)%b*65536+dg a i)/b=dg (a/b) i∧
 (a/65536^(i+1)%b*65536+dg a i)%b=a/65536^i%b:=by
 have e:=oH a i;have h1:=zR (a/65536^(i+1)) b
 have hx:a/65536^i=(a/65536^(i+1)%b*65536+dg a i)+b*(65536*(a/65536^(i+1)/b)):=by
  rw [e]
  conv=>lhs;rw [←h1]
  rw [ZM,ZB];omega
 constructor
 ·have:dg (a/b) i=a/65536^i/b%65536:=by
   unfold dg;rw [Zf,zB b,←Zf]
  rw [this,hx,Ij _ _ hb,Nat.add_mul_mod_self_left]
  symm
  apply zA;have h2:a/65536^(i+1)%b<b:=zU _ hb;have h3:=ia a i;apply Zh;have:(a/65536^(i+1)%b+1)*65536≤b*65536:=zn _ h2;omega
 ·rw [hx,Nat.add_mul_mod_self_left]
theorem RB(a b i:Nat)(hb:0<b):a/65536^(i+1)%b*65536+dg a i<65536*b:=by
 have h2:a/65536^(i+1)%b<b:=zU _ hb;have h3:=ia a i;have:(a/65536^(i+1)%b+1)*65536≤b*65536:=zn _ h2;omega
theorem Bg(N d:Nat)(h:d<65536):dg (N*65536+d) 0=d:=by unfold dg;simp;omega
theorem Bh(N d i:Nat)(h:d<65536):dg (N*65536+d) (i+1)=dg N i:=by
 unfold dg;rw [zH,zB (65536^i),←Zf]
 congr 2;omega
theorem WT(n N d:Nat)(h:d<65536):fd (n+1) (N*65536+d)=d::fd n N:=by
 apply ZY;intro i
 rcases i with _|i
 ·rw [lY (by omega),Bg N d h];rfl
 ·rcases zj i n with hi|hi
  ·rw [lY (by omega),Bh N d i h,List.getElem?_cons_succ,lY hi]
  ·rw [zK (by rw [nr];omega),List.getElem?_cons_succ,zK (by rw [nr];omega)]
theorem WU(n N d:Nat)(h:d<65536)(hN:N<65536^n):N*65536+d<65536^(n+1):=by
 have:(N+1)*65536≤65536^n*65536:=zn _ hN;rw [zH];omega
theorem C4(M z i:Nat)(h:i<z):dg (M*65536^z) i=0:=by
 unfold dg;obtain⟨k,rfl⟩: ∃k,z=i+1+k:=⟨z-i-1,by omega⟩
 rw [zu,zH,show M*(65536^i*65536*65536^k)=65536^i*(65536*(M*65536^k))by simp only [zw,zB,ZB],
  Nat.mul_div_cancel_left _ (dN i),Nat.mul_mod_right]
theorem C5(M z i:Nat):dg (M*65536^z) (z+i)=dg M i:=by
 unfold dg;rw [zu,←Zf,Nat.mul_div_cancel _ (dN z)]
theorem RD(M z n:Nat):fd (z+n) (M*65536^z)=List.replicate z 0++fd n M:=by
 apply ZY;intro i
 rcases zj i z with hi|hi
 ·rw [lY (by omega),C4 M z i hi,List.getElem?_append_left (by simpa using hi),List.getElem?_replicate,zh hi]
 ·obtain⟨k,rfl⟩: ∃k,i=z+k:=⟨i-z,by omega⟩
  rw [List.getElem?_append_right (by simp),List.length_replicate,Nat.add_sub_cancel_left]
  rcases zj k n with hk|hk
  ·rw [lY (by omega),C5,lY hk]
  ·rw [zK (by rw [nr];omega),zK (by rw [nr];omega)]
theorem RE{a b i:Nat}(h:a/65536^(i+1)=b/65536^(i+1)):
 (dg a i<dg b i→a<b)∧(dg b i<dg a i→b<a)∧(dg a i=dg b i→a/65536^i=b/65536^i):=by
 have e1:=oH a i;have e2:=oH b i;refine⟨fun h1=> ?_,fun h1=> ?_,fun h1=>by omega⟩
 ·rcases zj a b with h2|h2
  ·exact h2
  ·have:b/65536^i≤a/65536^i:=Ii h2;omega
 ·rcases zj b a with h2|h2
  ·exact h2
  ·have:a/65536^i≤b/65536^i:=Ii h2;omega
theorem Km{a b:Nat}(h:nd a<nd b):a<b:=by
 have h1:=eQ a;have h2:=(wk b (nd a)).1 h;omega
def cW(a b:Nat):Int:=if a<b then -1 else if b<a then 1 else 0
open Ieee
def yf(m:Nat)(p:Int):Nat:=if m<2^52 then m else if 2047≤p+1075 then cap else(p+1075).toNat*2^52+(m-2^52)
def km(m:Nat)(p:Int):Nat:=if m=2^53 then yf (2^52) (p+1)else yf m p
theorem WV(m k:Nat)(hm:m≤2^53)(hk:0<k→2^52≤m):km m ((k:Int)-1074)=min (k*2^52+m) cap:=by
 have pu:cap=2047*2^52:=rfl;unfold km yf
 by_cases h:m=2^53
 ·rw [zh h,ze (by omega)]
  by_cases h2:2047≤(k:Int)-1074+1+1075
  ·rw [zh h2];omega
  ·rw [ze h2]
   have:((k:Int)-1074+1+1075).toNat=k+2:=by omega
   rw [this];omega
 ·rw [ze h]
  by_cases h1:m<2^52
  ·rw [zh h1];omega
  ·rw [ze h1]
   by_cases h2:2047≤(k:Int)-1074+1075
   ·rw [zh h2];omega
   ·rw [ze h2]
    have:((k:Int)-1074+1075).toNat=k+1:=by omega
    rw [this];omega
def jJ(m:Nat)(p:Int):Int:=max ((bl m:Int)+p-53) (-1074)
def oI(m:Nat)(p:Int):Nat:=if jJ m p≤p then m*2^(p-jJ m p).toNat else jE m (2^(jJ m p-p).toNat)
theorem Bi(m:Nat)(p:Int)(b:Nat)(hm:m≠0)(hp: -1074-(b:Int)≤p):
 km (oI m p) (jJ m p)=rq (m*2^(p+1074+b).toNat) (2^b)∧oI m p≤2^53∧(-1074<jJ m p→2^52≤oI m p):=by
 obtain⟨t,ht⟩: ∃t:Nat,(t:Int)=p+1074+b:=⟨(p+1074+b).toNat,by omega⟩
 rw [←ht,zv];have qB:bl m=m.log2+1:=by unfold bl;rw [ze hm]
 have hk:(m*2^t/2^b).log2-52=m.log2+t-(b+52):=by rw [jQ,nk _ _ hm]
 have k1:=Kb (m*2^t) (2^b);have k2:=Kc (m*2^t) (2^b);unfold rq;rw [hk]at k1 k2⊢;generalize m.log2=L at *;generalize Wk:L+t-(b+52)=k at *;have hQ:jJ m p=(k:Int)-1074:=by unfold jJ;rw [qB];omega
 have hK:oI m p=jE (m*2^t) (2^b*2^k):=by
  unfold oI;rw [hQ,←zu]
  rcases Nat.le_total (b+k) t with h1|h1
  ·rw [zh (by omega)]
   have:(p-((k:Int)-1074)).toNat=t-(b+k):=by omega
   rw [this];have e:=jd (m*2^(t-(b+k))) 1 (2^(b+k)) (zo _);rw [zP,zw,←zu,show t-(b+k)+(b+k)=t by omega,nh]at e
   exact e.symm
  ·have e:=jd m (2^(b+k-t)) (2^t) (zo _)
   rw [←zu,show b+k-t+t=b+k by omega]at e
   rw [e]
   by_cases h2:(k:Int)-1074≤p
   ·rw [zh h2]
    have a1:(p-((k:Int)-1074)).toNat=0:=by omega
    have a2:b+k-t=0:=by omega
    rw [a1,a2,Zl,Zj,nh]
   ·rw [ze h2]
    have a1:((k:Int)-1074-p).toNat=b+k-t:=by omega
    rw [a1]
 rw [hK,hQ];refine⟨WV _ _ k1 k2,k1,fun h=>k2 (by omega)⟩
def ig(M:Nat)(P:Int)(s:Nat):Nat:=if M=0 then 0 else km (oI (4*M+s) (P-2)) (jJ (4*M+s) (P-2))
theorem se(M:Nat)(P:Int)(b:Nat)(hP: -1074-(b:Int)≤P):ig M P 0=rq (M*2^(P+1074+b).toNat) (2^b):=by
 unfold ig
 split
 ·next h=>subst h;rw [Zk,sa]
 ·next h=>
  rw [Z4,(Bi (4*M) (P-2) (b+2) (by omega) (by omega)).1]
  have:(P-2+1074+((b+2:Nat):Int)).toNat=(P+1074+b).toNat:=by omega
  rw [this];apply oD (zo _) (zo _);rw [zu 2 b 2];generalize 2^(P+1074+ ↑b).toNat=x;generalize 2^b=y;rw [show(2:Nat)^2=4 by decide]
  simp only [zw,zB,ZB]
theorem WW(N D a b:Nat)(hD:0<D)(hq:53≤(N/D).log2):
 rq (N*2^a) (D*2^b)=rq ((4*(N/D)+(if N%D=0 then 0 else 1))*2^a) (2^(b+2)):=by
 rw [tE N D a b hD hq];generalize N/D=q at *;generalize hs:(if N%D=0 then 0 else 1)=s
 have qy:s≤1:=by subst hs;split<;>omega
 have e:=tE (4*q+s) 4 a b (by omega) (by rw [show(4*q+s)/4=q by omega];exact hq)
 rw [show(4*q+s)/4=q by omega,show(4*q+s)%4=s by omega]at e
 have hs2:(if s=0 then 0 else 1)=s:=by split<;>omega
 rw [hs2]at e;rw [←e]
 congr 1
 rw [zu,zB]
theorem wt(N D:Nat)(P:Int)(b:Nat)(hD:0<D)(hq:53≤(N/D).log2)(hP: -1074-(b:Int)≤P):
 ig (N/D) P (if N%D=0 then 0 else 1)=rq (N*2^(P+1074+b).toNat) (D*2^b):=by
 have h0:N/D≠0:=by intro h;rw [h]at hq;simp at hq
 unfold ig;rw [ze h0,WW N D _ b hD hq,(Bi _ (P-2) (b+2) (by omega) (by omega)).1]
 have:(P-2+1074+((b+2:Nat):Int)).toNat=(P+1074+b).toNat:=by omega
 rw [this]
def pp(u:Nat):Int:=(up (rg u):Int)-1074
def oJ(s t:Bool)(a b:Nat):Nat:=if s=t then a+b else if a<b then b-a else a-b
def sf(s t:Bool)(a b:Nat):Bool:=if s=t then s else if a=b then false else if b<a then s else t
theorem WX(s t:Bool)(a b:Nat):((if s then -(a:Int)else a)+(if t then -(b:Int)else b)).natAbs=oJ s t a b:=by
 unfold oJ
 cases s<;>cases t<;>simp<;>(repeat' split)<;>omega
theorem aaI(u b:Nat)(h:b≤up (rg u)):val (rg u)=mg (rg u)*2^(up (rg u)-b)*2^b:=by
 rw [cH,zw,←zu,show up (rg u)-b+b=up (rg u)by omega]
theorem RF(s t:Bool)(a b c:Nat)(hc:0<c):oJ s t (a*c) (b*c)=oJ s t a b*c:=by
 unfold oJ;have:= @zG c a b hc
 split
 ·rw [zV]
 ·by_cases h:a<b
  ·rw [zh h,zh (this.2 h),Nat.sub_mul]
  ·rw [ze h,ze (by rw [this];exact h),Nat.sub_mul]
theorem RG(s t:Bool)(a b c:Nat)(hc:0<c):sf s t (a*c) (b*c)=sf s t a b:=by
 unfold sf;have h1:= @zG c b a hc;have h2:a*c=b*c↔a=b:=Nat.mul_left_inj (by omega)
 simp only [h1,h2]
theorem RH(s t:Bool)(a b:Nat)(h: ¬(a=0∧b=0)):
 (if(if s then -(a:Int)else a)+(if t then -(b:Int)else b)=0 then s&&t else decide ((if s then -(a:Int)else a)+(if t then -(b:Int)else b)<0))=sf s t a b:=by
 unfold sf
 rcases ZG a b with h1|h1|h1<;>cases s<;>cases t<;>simp only [zJ,Bool.true_eq_false,ZD,Ic,Bool.and_true,Bool.and_false,Bool.and_self]<;>
  (repeat' first|rw [zh (by omega)]|rw [ze (by omega)])<;>simp<;>omega
def lo(u v:Nat):Nat:=min (up (rg u)) (up (rg v))
theorem RI{u v:Nat}(hu:rg u<cap)(hv:rg v<cap)(h0: ¬(rg u=0∧rg v=0)):
 double.add u v=some (wd (sf (bP u) (bP v) (mg (rg u)*2^(up (rg u)-lo u v)) (mg (rg v)*2^(up (rg v)-lo u v)))
  (ig (oJ (bP u) (bP v) (mg (rg u)*2^(up (rg u)-lo u v)) (mg (rg v)*2^(up (rg v)-lo u v))) ((lo u v:Int)-1074) 0)):=by
 rw [Kf hu hv,se _ _ 0 (by omega)]
 have e:((lo u v:Int)-1074+1074+((0:Nat):Int)).toNat=lo u v:=by omega
 rw [e,Zl];have hp:=zo (lo u v);rw [←RF _ _ _ _ _ hp,←RG _ _ _ _ _ hp,←aaI u (lo u v) (Nat.min_le_left _ _),←aaI v (lo u v) (Nat.min_le_right _ _)];unfold sv;rw [WX,RH _ _ _ _ (by rw [oC,oC];exact h0)]
theorem RJ{u v:Nat}(hu:rg u<cap)(hv:rg v<cap):
 double.mul u v=some (wd (bP u^^bP v) (ig (mg (rg u)*mg (rg v)) (pp u+pp v) 0)):=by
 rw [WK hu hv,se _ _ my (by unfold pp my;omega)]
 have e:(pp u+pp v+1074+(my:Int)).toNat=up (rg u)+up (rg v):=by unfold pp my;omega
 rw [e,←kk,cH,cH,zu];refine ZW some (ZW (wd _) (ZW (fun x=>rq x KK) ?_))
 generalize 2^up (rg u)=a;generalize 2^up (rg v)=b;simp only [zB,ZB]
theorem Ga{u:Nat}(h:rg u≠0):0<mg (rg u):=by
 have:= @fX (rg u);omega
theorem RK{u v:Nat}(hu:rg u<cap)(hv:rg v<cap)(h0:rg u≠0)(h1:rg v≠0):
 double.div u v=some (wd (bP u^^bP v) (ig (mg (rg u)*2^128/mg (rg v)) (pp u-pp v-128) (if mg (rg u)*2^128%mg (rg v)=0 then 0 else 1))):=by
 have hm:=Ga h0;have hn:=Ga h1;have gW:=lB (rg v)
 have hq:53≤(mg (rg u)*2^128/mg (rg v)).log2:=by
  have:2^53≤mg (rg u)*2^128/mg (rg v):=by
   rw [Zu hn]
   calc 2^53*mg (rg v)≤2^53*2^53:=Zg _ (Zc gW)
    _≤1*2^128:=by decide
    _≤mg (rg u)*2^128:=zn _ hm
  rw [Nat.le_log2 (by have:=zo 53;omega)]
  exact this
 have hU:up (rg v)≤2045:=by
  unfold up
  have:rg v/2^52<2047:=Zh (by have:cap=2^52*2047:=by decide
                              omega)
  omega
 rw [Kh hu hv h1,wt _ _ _ (up (rg v)+128) hn hq (by unfold pp;omega)]
 have e:(pp u-pp v-128+1074+((up (rg v)+128:Nat):Int)).toNat=up (rg u)+my:=by unfold pp my;omega
 rw [e];refine ZW some (ZW (wd _) ?_);apply oD (by rw [cH];exact zL hn (zo _)) (zL hn (zo _))
 rw [cH,cH,kk,zu 2 (up (rg v)) 128,zu 2 (up (rg u)) my];generalize 2^up (rg u)=a;generalize 2^up (rg v)=b;generalize 2^my=c;generalize(2:Nat)^128=d;simp only [zB,ZB]
theorem C6(n:Int):Bc n=wd (decide (n<0)) (ig n.natAbs 0 0):=by
 unfold Bc;rw [se _ _ 0 (by omega)]
 have e:((0:Int)+1074+((0:Nat):Int)).toNat=my:=by unfold my;omega
 rw [e,←kk,Zl]
end FloM
