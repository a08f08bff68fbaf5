/- The reference's way to an int, as plain numbers. -/
import Derived.Test.YtcpmiplofbfmfaaGreatDoorA12
import GoSem.PinnedTables
set_option linter.all false
namespace FloM
open Ieee
def qi(M:Nat)(P:Int):Bool:=decide (63<(bl M:Int)+P)
def wN(M:Nat)(P:Int):Nat:=if 0≤P then M*2^P.toNat else M/2^(-P).toNat
def wR(M:Nat)(P:Int):Nat:=if 0≤P then 0 else M%2^(-P).toNat
def wH(M:Nat)(P:Int):Int:=if wR M P=0 then -1 else cW (2*wR M P) (2^(-P).toNat)+1
def Da:Toward→Int
 | .down=>0
 | .up=>1
 | .zero=>2
 | .even=>3
def wUp(ch:Toward)(s:Bool)(n:Nat)(h:Int):Bool:=
 match ch with
 | .down=>s
 | .up=> !s
 | .zero=>false
 | .even=>decide (h=2)||(decide (h=1)&&decide (n%2=1))
def wK(ch:Toward)(s:Bool)(M:Nat)(P:Int):Nat:=wN M P+(if 0≤wH M P∧wUp ch s (wN M P) (wH M P)=true then 1 else 0)
def Xp(ch:Toward)(u:Nat):Int×Int:=
 if cap<rg u then(0,20)else if rg u=cap then(0,10)
 else if qi (mg (rg u)) (pp u)=true then(0,10)
 else if bP u=true∧wK ch (bP u) (mg (rg u)) (pp u)≤2^62 then(-(wK ch (bP u) (mg (rg u)) (pp u):Int),0)
 else if bP u=false∧wK ch (bP u) (mg (rg u)) (pp u)<2^62 then((wK ch (bP u) (mg (rg u)) (pp u):Int),0)
 else(0,10)
theorem R6(a b:Nat):0≤cW a b+1:=by unfold cW;(repeat' split)<;>omega
theorem R7(a b:Nat):cW a b+1=2↔b<a:=by unfold cW;(repeat' split)<;>omega
theorem R8(a b:Nat):cW a b+1=1↔a=b:=by unfold cW;(repeat' split)<;>omega
theorem acn(ch:Toward)(s:Bool)(n r d:Nat)(h:Int)(hh:h=if r=0 then -1 else cW (2*r) d+1):
 n+(if 0≤h∧wUp ch s n h=true then 1 else 0)=(match ch with
  | .even=>n+(if d<2*r∨(2*r=d∧n%2=1)then(if r=0 then 0 else 1)else 0)
  | .down=>n+(s&&r !=0).toNat
  | .up=>n+(!s&&r !=0).toNat
  | .zero=>n):=by
 by_cases hr:r=0
 ·subst hr
  rw [zh rfl]at hh;subst hh;rw [ze (by omega)]
  cases ch<;>simp
 ·rw [ze hr]at hh
  have h0:=R6 (2*r) d;have h1:=R8 (2*r) d;have h2:=R7 (2*r) d;rw [←hh]at h0 h1 h2;have hb:(r !=0)=true:=by rw [bne_iff_ne];exact hr
  cases ch
  ·unfold wUp
   simp only [h0,true_and,hr,ZD,Ig,Zm,Zb,h1,h2]
  ·unfold wUp
   simp only [h0,true_and,hb,Bool.and_true]
   cases s<;>rfl
  ·unfold wUp
   simp only [h0,true_and,hb,Bool.and_true]
   cases s<;>rfl
  ·unfold wUp
   simp
theorem Xq(ch:Toward)(s:Bool)(M d:Nat)(hd:0<d):rj ch s M d=(match ch with
 | .even=>M/d+(if d<2*(M%d)∨(2*(M%d)=d∧M/d%2=1)then(if M%d=0 then 0 else 1)else 0)
 | .down=>M/d+(s&&M%d !=0).toNat
 | .up=>M/d+(!s&&M%d !=0).toNat
 | .zero=>M/d):=by
 cases ch
 ·unfold rj jE
  congr 1
  by_cases h:M%d=0
  ·rw [h,ze (by omega),ze (by omega)]
  ·simp only [h,ZD]
 all_goals rfl
theorem aco(ch:Toward)(s:Bool)(M d:Nat)(P:Int)(h: ¬0≤P)(hd:d=2^(-P).toNat):wK ch s M P=rj ch s M d:=by
 have hd0:0<d:=by rw [hd];exact zo _
 have e:=acn ch s (M/d) (M%d) d (wH M P) (by unfold wH wR;rw [ze h,←hd])
 rw [Xq ch s M d hd0,←e];unfold wK wN;rw [ze h,←hd]
theorem R9(ch:Toward)(s:Bool)(M:Nat)(P:Int)(h:0≤P):wK ch s M P=rj ch s (M*2^P.toNat) 1:=by
 have hH:wH M P= -1:=by unfold wH wR;rw [zh h,zh rfl]
 unfold wK;rw [hH,ze (by omega)]
 unfold wN;rw [zh h]
 cases ch<;>simp [rj,nh,Nat.mod_one]
theorem aaM(ch:Toward)(u:Nat):wK ch (bP u) (mg (rg u)) (pp u)=iv ch u:=by
 unfold iv;rw [cH,kk];have h74:=kj
 by_cases h:0≤pp u
 ·rw [R9 _ _ _ _ h]
  have e:=oF ch (bP u) (mg (rg u)*2^(pp u).toNat) 1 (2^my) (zo _);rw [←e,zP,zw,←zu,show(pp u).toNat+my=up (rg u)by unfold pp;unfold pp at h;omega]
 ·rw [aco ch (bP u) (mg (rg u)) _ (pp u) h rfl]
  have e:=oF ch (bP u) (mg (rg u)) (2^(-pp u).toNat) (2^up (rg u)) (zo _);rw [←e,←zu,show(-pp u).toNat+up (rg u)=my by unfold pp;unfold pp at h;omega]
theorem acp(ch:Toward)(u:Nat)(h:qi (mg (rg u)) (pp u)=true):2^63≤iv ch u:=by
 have h1:63<(bl (mg (rg u)):Int)+pp u:=by simpa [qi]using h
 have h2:bl (mg (rg u))≤53:=(kl _ _).2 (lB _);rw [←aaM,R9 _ _ _ _ (by omega)]
 have hm:mg (rg u)≠0:=by
  intro e;have h0:=fX.1 e;have hp:pp u= -1074:=by unfold pp up;rw [h0];decide
  rw [e,Bf,hp]at h1;omega
 have hb:bl (mg (rg u))=(mg (rg u)).log2+1:=by unfold bl;rw [ze hm]
 have h4:63≤(mg (rg u)).log2+(pp u).toNat:=by
  rw [hb]at h1 h2;generalize(mg (rg u)).log2=L at *;generalize pp u=p at *;omega
 have h3:2^63≤mg (rg u)*2^(pp u).toNat:=by
  calc 2^63≤2^((mg (rg u)).log2+(pp u).toNat):=zF (by decide) h4
   _=2^(mg (rg u)).log2*2^(pp u).toNat:=zu _ _ _
   _≤_:=zn _ (h_ _ hm)
 cases ch<;>simp [rj,nh,Nat.mod_one]<;>exact h3
theorem acq(ch:Toward)(u:Nat):Xp ch u=lg ch u:=by
 unfold Xp lg
 split
 ·rfl
 ·split
  ·rfl
  ·rw [aaM]
   unfold ii;have e62:(2:Nat)^62=4611686018427387904:=by decide
   by_cases hb:qi (mg (rg u)) (pp u)=true
   ·rw [zh hb]
    have h:=acp ch u hb;have e63:(2:Nat)^63=9223372036854775808:=by decide
    rw [e63]at h;generalize iv ch u=k at *
    cases bP u
    ·rw [zh (by simp;omega)]
    ·rw [zh (by simp;omega)]
   ·rw [ze hb,e62]
    generalize iv ch u=k
    cases bP u
    ·by_cases hk:k<4611686018427387904
     ·simp [hk];omega
     ·simp [hk];omega
    ·by_cases hk:k≤4611686018427387904
     ·simp [hk];omega
     ·simp [hk];omega
def eL:Nat:=2^64
def pw(i:Nat):Nat×Nat:=Go.Pinned.pow10Rows.getD i (0,0)
def dP(x:Int):Int:=x*78913/262144
def fy(x:Int):Int:=x*108853/32768
def vI(x:Int):Int:=(x*631305-261663)/2097152
def tj(x hi lo s:Nat):Nat:=
 let h:=x*hi/eL
 let mY:=x*hi%eL
 if h/2^s*2^s≠h then(h/2^s)|||1
 else
  let on:=x*lo/eL
  let h':=if mY<on then(h+eL-1)%eL else h
  (h'/2^s)|||(if 1<(mY+eL-on)%eL then 1 else 0)
def qK(u:Nat):Nat:=(u+3)%eL/4
def ko(u:Nat):Nat:=u/4
def kq(u:Nat):Nat:=(u+1+u/4%2)%eL/4
def oM(u d:Nat):Nat:=(u+d)%eL
def lZ(u d:Nat):Nat:=(u+eL-d)%eL
def n_(mn mx m hi lo s vA:Nat)(p:Int):Nat×Int:=
 let fF:=qK (oM (tj mn hi lo s) vA)
 let fw:=ko (lZ (tj mx hi lo s) vA)
 let d:=fw/10
 if fF≤d*10 then(d,1-p)
 else(if fF<fw then kq (tj m hi lo s)else fF,-p)
def li(u:Nat):Nat:=if u/2^52=0 then u%2^52*2^(63-(u%2^52).log2)else(u%2^52+2^52)*2048
def tl(u:Nat):Int:=if u/2^52=0 then -1074-((63-(u%2^52).log2:Nat):Int)else((u/2^52:Nat):Int)-1086
def Kt(m:Nat)(e:Int):Nat×Int:=
 n_ (m-1024) (m+1024) m (pw (348-dP (e+11)).toNat).1 (pw (348-dP (e+11)).toNat).2 (-(e+fy (-dP (e+11))+3)).toNat (m/2048%2) (-dP (e+11))
def aaN(m:Nat)(e:Int):Nat×Int:=
 n_ (m-512) (m+1024) m (pw (348-vI (e+11)).toNat).1 (pw (348-vI (e+11)).toNat).2 (-(e+fy (-vI (e+11))+3)).toNat (m/2048%2) (-vI (e+11))
def Db(m:Nat)(e:Int)(z:Nat):Nat×Int:=
 n_ (m-2^(z-1)) (m+2^(z-1)) m (pw 672).1 (pw 672).2 (-(e+1079)).toNat (m/2^z%2) 324
def aM(u:Nat):Nat×Int:=
 if u/2^52=0 then Db (li u) (tl u) (63-(u%2^52).log2)
 else if u%2^52=0∧u/2^52≠1 then aaN (li u) (tl u)else Kt (li u) (tl u)
example:aM 0x3FD3333333333334=(30000000000000004, -17):=by decide+kernel
example:aM 1=(5, -324):=by decide+kernel
example:aM 0x3FF0000000000000=(1000000000000000, -15):=by decide+kernel
end FloM
