/- The library's uscale is exact where no near miss is. No near miss: reckoned. uscale is exact at every real's significands. -/
import Derived.Test.YtcpmiplofbfmfaaGreatDoorA13
set_option linter.all false
namespace FloM
theorem tT{E D g:Nat}(h1:g*D≤E)(h2:E<(g+1)*D):E/D=g:=by
 have hD:0<D:=by
  rcases zX D with rfl|h
  ·omega
  ·exact h
 have a1:=(Zu hD).2 h1;have a2:=(Z0 hD).2 h2;omega
theorem Gl{E D g:Nat}(h1:g*D<E)(h2:E<(g+1)*D):E%D≠0:=by
 have h:=tT (Zc h1) h2;have h3:=zR E D;rw [h,zB]at h3;omega
theorem St{x hi lo A B W h mY:Nat}(hT1:A+lo*B≤hi*W*B)(hT2:hi*W*B<A+B+lo*B)
 (hm:x*hi=h*W+mY):x*A+x*lo*B≤h*(W*W*B)+mY*(W*B)∧h*(W*W*B)+mY*(W*B)≤x*A+x*B+x*lo*B:=by
 have e:x*(hi*W*B)=h*(W*W*B)+mY*(W*B):=by
  calc x*(hi*W*B)=x*hi*(W*B):=by rw [zw hi,←zw x]
   _=h*W*(W*B)+mY*(W*B):=by rw [hm,zV]
   _=h*(W*W*B)+mY*(W*B):=by rw [zw h,←zw W W B]
 have a1:=Zg x hT1;have a2:=Zg x (Zc hT2);rw [e]at a1 a2;rw [ZM,←zw x lo B]at a1 a2;rw [ZM]at a2;exact⟨a1,a2⟩
theorem yZ(x hi lo s A B:Nat)(hx:x<eL)(Qo:hi<eL)(FA:lo<eL)(hB:0<B)(hT1:A+lo*B≤hi*eL*B)(hT2:hi*eL*B<A+B+lo*B)
 (nm: ∀N,x*A≤N*(2^s*(eL*eL*B))+2*(eL*B)→N*(2^s*(eL*eL*B))≤x*A+2*(eL*B)→x*A=N*(2^s*(eL*eL*B))):
 tj x hi lo s=(x*A/(2^s*(eL*eL*B)))|||(if x*A%(2^s*(eL*eL*B))=0 then 0 else 1):=by
 have hW:2<eL:=by decide
 unfold tj;generalize eL=W at *;have hm:=(zR (x*hi) W).symm;have adZ:=zU (x*hi) (show W>0 by omega)
 have hh:x*hi/W<W:=by
  rw [Z0 (by omega)]
  exact Nat.mul_lt_mul'' hx Qo
 generalize x*hi/W=h at *;generalize x*hi%W=mY at *;rw [zB W h]at hm;obtain⟨r1,r2⟩:=St hT1 hT2 hm;have hl:=(zR (x*lo) W).symm;have hll:=zU (x*lo) (show W>0 by omega)
 have hl2:x*lo/W+1<W:=by
  have:x*lo≤(W-1)*(W-1):=Nat.mul_le_mul (by omega) (by omega)
  have h2:(W-1)*(W-1)<(W-1)*W:=(Nat.mul_lt_mul_left (by omega)).2 (by omega)
  have:x*lo/W<W-1:=by rw [Z0 (by omega)];omega
  omega
 generalize x*lo/W=on at *;generalize x*lo%W=l at *;rw [hl]at r1 r2;have hxB:x*B<W*B:=(zG hB).2 hx;have hlB:l*B<W*B:=(zG hB).2 hll;have e1:(W*on+l)*B=on*(W*B)+l*B:=by rw [zV,zB W on,zw]
 rw [e1]at r1 r2;have hZ:W*W*B=W*(W*B):=zw _ _ _;have hmW:(mY+1)*(W*B)≤W*W*B:=by rw [hZ];exact zn _ (by omega)
 have akX:(on+2)*(W*B)≤W*W*B:=by rw [hZ];exact zn _ (by omega)
 rw [zV]at hmW akX;generalize hz:W*W*B=Z at *;have Vh:x*A<(h+1)*Z:=by rw [zV];omega
 have uw:h*Z<x*A+Z:=by omega
 have hs:=zo s;generalize 2^s=S at *;have hg:=(zR h S).symm;have hr:=zU h hs;have ad8: ∀k,k*(S*Z)=S*k*Z:=fun k=>by rw [←zw,zB k S]
 have Vq:x*A<(h/S+1)*(S*Z):=by
  rw [ad8,ZM,Zj];exact zy Vh (zn _ (by omega))
 simp only
 by_cases hc:h/S*S≠h
 ·rw [zh hc]
  have Wj:0<h%S:=by
   rcases zX (h%S)with h0|h0
   ·rw [h0,Z4,zB]at hg;exact absurd hg.symm hc
   ·exact h0
  have vh:h/S*(S*Z)<x*A:=by
   rw [ad8]
   have:S*(h/S)*Z+Z≤h*Z:=by
    have:=zn Z (show S*(h/S)+1≤h by omega)
    rwa [zV,zP]at this
   omega
  rw [tT (Zc vh) Vq,ze (Gl vh Vq)]
 ·rw [ze hc]
  have hgh:h/S*S=h:=Decidable.not_not.1 hc;have hgZ:h/S*(S*Z)=h*Z:=by rw [ad8,zB S,hgh]
  by_cases bw:mY<on
  ·rw [zh bw]
   have hb:(mY+1)*(W*B)≤on*(W*B):=zn _ (by omega)
   rw [zV,zP]at hb;have akW:x*A<h*Z:=by omega
   have hh0:0<h:=by
    rcases zX h with h0|h0
    ·subst h0;omega
    ·exact h0
   have Y3:(h+W-1)%W=h-1:=by
    rw [show h+W-1=h-1+W by omega,Nat.add_mod_right,zA (by omega)]
   rw [Y3]
   have hg0:0<h/S:=by
    rcases zX (h/S)with h0|h0
    ·rw [h0,Zk]at hgh;omega
    ·exact h0
   obtain⟨g,hgg⟩: ∃g,h/S=g+1:=⟨h/S-1,by omega⟩
   rw [hgg]at hgh hgZ;have hd:(h-1)/S=g:=tT (by rw [zV]at hgh;omega) (by omega)
   have vh:g*(S*Z)<x*A:=by
    rw [zV,zP]at hgZ;have:Z≤S*Z:=Nat.le_mul_of_pos_left _ hs;omega
   have abo:x*A<(g+1)*(S*Z):=by rw [hgZ];exact akW
   rw [hd,tT (Zc vh) abo,ze (Gl vh abo),zA (show mY+W-on<W by omega),zh (by omega)]
  ·rw [ze bw]
   have B_:(mY+W-on)%W=mY-on:=by
    rw [show mY+W-on=mY-on+W by omega,Nat.add_mod_right,zA (by omega)]
   rw [B_]
   by_cases h2:1<mY-on
   ·rw [zh h2]
    have hb:(on+2)*(W*B)≤mY*(W*B):=zn _ (by omega)
    rw [zV]at hb;have vh:h/S*(S*Z)<x*A:=by rw [hgZ];omega
    rw [tT (Zc vh) Vq,ze (Gl vh Vq)]
   ·rw [ze h2]
    have hb:mY*(W*B)≤(on+1)*(W*B):=zn _ (by omega)
    have Cs:on*(W*B)≤mY*(W*B):=zn _ (by omega)
    rw [zV,zP]at hb;have he:=nm (h/S) (by rw [hgZ];omega) (by rw [hgZ];omega)
    have hD:0<S*Z:=by
     rcases zX (S*Z)with h0|h0
     ·rw [h0]at Vq;omega
     ·exact h0
    rw [he,Nat.mul_div_cancel _ hD,Nat.mul_mod_left,zh rfl]
def pA(p:Int):Nat:=10^p.toNat*2^(127-fy p).toNat
def pB(p:Int):Nat:=10^(-p).toNat*2^(fy p-127).toNat
theorem Gm(p:Int):0<pB p:=zL (Zz (by decide)) (zo _)
def eI(i:Nat):Int:=(i:Int)-1085
def pI(i:Nat):Int:= -dP (eI i+11)
def sI(i:Nat):Nat:=(-(eI i+fy (pI i)+3)).toNat
def aI(i:Nat):Nat:=1024*pA (pI i)
def dI(i:Nat):Nat:=2^sI i*(eL*eL*pB (pI i))
def tI(i:Nat):Nat:=2*(eL*pB (pI i))
def ay(f:Nat→Bool):Nat→Bool
 |0=>true
 |n+1=>f n&&ay f n
theorem bn{f:Nat→Bool}: ∀{n:Nat},ay f n=true→∀i,i<n→f i=true
 |0,_,i,hi=>absurd hi (Nat.not_lt_zero _)
 |n+1,h,i,hi=>by
  simp only [ay,Zm]at h
  rcases zj i n with h1|h1
  ·exact bn h.2 i h1
  ·rw [show i=n by omega];exact h.1
def aaO(p:Int)(r:Nat×Nat):Bool:=Nat.blt r.1 eL&&Nat.blt r.2 eL&&Nat.ble (pA p+r.2*pB p) (r.1*eL*pB p)&&Nat.blt (r.1*eL*pB p) (pA p+pB p+r.2*pB p)
theorem XD:ay (fun i=>aaO ((i:Int)-348) (pw i)) 696=true:=by decide+kernel
def nbr(a d:Nat):Nat→Nat→Nat→Nat×Nat
 |f+1,y+1,z+1=>bif Nat.ble 18014398509481982 (y+z)then(y+1,z+1)else
  bif Nat.blt ((y+1)*a%d) (d-(z+1)*a%d)then nbr a d f (y+1) (z+1+Nat.min ((d-(z+1)*a%d-1)/((y+1)*a%d)) ((18014398509481982-y-z+y)/(y+1))*(y+1))
  else nbr a d f (y+1+Nat.min (((y+1)*a%d-1)/(d-(z+1)*a%d)) ((18014398509481982-y-z+z)/(z+1))*(z+1)) (z+1)
 |_,y,z=>(y,z)
def XE(a d t y1 y2:Nat):Bool:=Nat.blt (y1*a/d*d+t) (y1*a)&&Nat.blt (y2*a+t) ((y2*a/d+1)*d)&&Nat.beq ((y2*a/d+1)*y1) (y1*a/d*y2+1)&&Nat.ble 18014398509481984 (y1+y2)
def aaP(a d t:Nat):Nat×Nat→Bool
 |(y+1,z)=>XE a d t (y+1) z
 |_=>false
theorem Su{a d t:Nat}: ∀{p:Nat×Nat},aaP a d t p=true→XE a d t p.1 p.2=true
 |(_+1,_),h=>h
 |(0,_),h=>by cases h
def Sv(i:Nat):Bool:=Nat.blt (tI i) (Nat.gcd (aI i) (dI i))||aaP (aI i) (dI i) (tI i) (nbr (aI i) (dI i) 64 1 1)
theorem XF:ay Sv 2046=true:=by decide+kernel
theorem Sw{a d t:Nat}(h:t<Nat.gcd a d)(y N:Nat)(h1:y*a≤N*d+t)(h2:N*d≤y*a+t):y*a=N*d:=by
 obtain⟨a',ha⟩:=Nat.gcd_dvd_left a d;obtain⟨d',hd⟩:=Nat.gcd_dvd_right a d;generalize Nat.gcd a d=g at *;have e1:y*a=g*(y*a'):=by rw [ha,ZB]
 have e2:N*d=g*(N*d'):=by rw [hd,ZB]
 rw [e1,e2]at h1 h2⊢;generalize y*a'=P at *;generalize N*d'=Q at *
 have hPQ:P=Q:=by
  rcases ZG P Q with h3|h3|h3
  ·have:=Zg g (show P+1≤Q by omega)
   rw [ZM]at this;omega
  ·exact h3
  ·have:=Zg g (show Q+1≤P by omega)
   rw [ZM]at this;omega
 rw [hPQ]
theorem MB{a d t y1 y2 n1 n2 y N:Int}(_ht:0≤t)(h1:n1*d+t<y1*a)(h2:y2*a+t<n2*d)(hd:n2*y1=n1*y2+1)(Fw:0≤y1)(hy2:0≤y2)(hy:0<y)(hyY:y<y1+y2)
 (k1:y*a≤N*d+t) (k2:N*d≤y*a+t):False:=by
 obtain⟨u,hu⟩: ∃u,u=y*n2-N*y2:=⟨_,rfl⟩;obtain⟨v,hv⟩: ∃v,v=N*y1-y*n1:=⟨_,rfl⟩
 have ey:y=u*y1+v*y2:=by
  have:u*y1+v*y2=y*(n2*y1-n1*y2):=by rw [hu,hv];grind
  rw [this,hd];grind
 have eN:N=u*n1+v*n2:=by
  have:u*n1+v*n2=N*(n2*y1-n1*y2):=by rw [hu,hv];grind
  rw [this,hd];grind
 have e:y*a-N*d=u*(y1*a-n1*d)-v*(n2*d-y2*a):=by
  rw [ey,eN];grind
 clear hu hv;obtain⟨D1,hD1⟩: ∃D1,D1=y1*a-n1*d:=⟨_,rfl⟩;obtain⟨D2,hD2⟩: ∃D2,D2=n2*d-y2*a:=⟨_,rfl⟩;rw [←hD1,←hD2]at e;have b1:t<D1:=by omega
 have b2:t<D2:=by omega
 clear hD1 hD2 h1 h2 hd eN
 rcases Zy 0 u with hu|hu
 ·rcases Zy 0 v with hv|hv
  ·have c1:1*y1≤u*y1:=ZA (by omega) Fw
   have c2:1*y2≤v*y2:=ZA (by omega) hy2
   omega
  ·have c1:1*D1≤u*D1:=ZA (by omega) (by omega)
   have c2:v*D2≤0*D2:=ZA hv (by omega)
   omega
 ·have c1:u*D1≤0*D1:=ZA hu (by omega)
  rcases Zy 0 v with hv|hv
  ·have c2:1*D2≤v*D2:=ZA (by omega) (by omega)
   omega
  ·have c3:u*y1≤0*y1:=ZA hu Fw
   have c4:v*y2≤0*y2:=ZA hv hy2;omega
theorem MC{a d t y1 y2:Nat}(h:XE a d t y1 y2=true)(y N:Nat)(h0:0<y)(hy:y<18014398509481984)(k1:y*a≤N*d+t)(k2:N*d≤y*a+t):y*a=N*d:=by
 simp only [XE,Zm,Nat.blt_eq,Nat.ble_eq,Nat.beq_eq]at h;obtain⟨⟨⟨h1,h2⟩,h3⟩,h4⟩:=h;exfalso;generalize y1*a/d=n1 at *;generalize y2*a/d=n2 at *;refine MB (a:=a) (d:=d) (t:=t) (y1:=y1) (y2:=y2) (n1:=n1) (n2:=n2+1) (y:=y) (N:=N) (by omega) ?_ ?_ ?_ (by omega) (by omega) (by omega) (by omega) ?_ ?_
 ·rw [←Zd,←Zd];omega
 ·have:((n2:Int)+1)=((n2+1:Nat):Int):=rfl
  rw [this,←Zd,←Zd];omega
 ·have:((n2:Int)+1)=((n2+1:Nat):Int):=rfl
  rw [this,←Zd,←Zd];omega
 ·rw [←Zd,←Zd];omega
 ·rw [←Zd,←Zd];omega
theorem y9(i:Nat)(hi:i<2046)(y N:Nat)(h0:0<y)(hy:y<18014398509481984)(k1:y*aI i≤N*dI i+tI i)(k2:N*dI i≤y*aI i+tI i):y*aI i=N*dI i:=by
 have h:=bn XF i hi;simp only [Sv,Ig,Nat.blt_eq]at h
 rcases h with h|h
 ·exact Sw h y N k1 k2
 ·exact MC (Su h) y N h0 hy k1 k2
theorem Sx(i:Nat)(hi:i<2046): -348≤pI i∧pI i<348:=by
 unfold pI dP eI;omega
theorem Dn(p:Int)(h1: -348≤p)(h2:p<348):(pw (348+p).toNat).1<eL∧(pw (348+p).toNat).2<eL∧pA p+(pw (348+p).toNat).2*pB p≤(pw (348+p).toNat).1*eL*pB p∧(pw (348+p).toNat).1*eL*pB p<pA p+pB p+(pw (348+p).toNat).2*pB p:=by
 have h:=bn XD (348+p).toNat (by omega)
 rw [show(((348+p).toNat:Nat):Int)-348=p by omega]at h
 simpa only [aaO,Zm,Nat.blt_eq,Nat.ble_eq,and_assoc]using h
theorem Gn(i:Nat)(hi:i<2046)(y:Nat)(h0:0<y)(hy:y<18014398509481984):
 tj (1024*y) (pw (348+pI i).toNat).1 (pw (348+pI i).toNat).2 (sI i)=(y*aI i/dI i)|||(if y*aI i%dI i=0 then 0 else 1):=by
 obtain⟨r1,r2⟩:=Sx i hi;obtain⟨a1,a2,a3,a4⟩:=Dn _ r1 r2;have e:1024*y*pA (pI i)=y*aI i:=by unfold aI;rw [zB 1024,zw]
 have hx:1024*y<eL:=by
  have:eL=18446744073709551616:=by decide
  omega
 have:=yZ (1024*y) _ _ (sI i) _ _ hx a1 a2 (Gm (pI i)) a3 a4 (by rw [e];exact fun N k1 k2=>y9 i hi y N h0 hy k1 k2)
 rw [e]at this;exact this
end FloM
