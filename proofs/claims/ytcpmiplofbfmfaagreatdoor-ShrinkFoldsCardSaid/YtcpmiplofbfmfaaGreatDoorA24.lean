/- The reference's Text with an exponent. -/
import Derived.Test.YtcpmiplofbfmfaaGreatDoorA23
import Derived.Lib.Repeat
set_option linter.all false
set_option maxRecDepth 100000
set_option maxHeartbeats 8000000
namespace Go.Proofs.YtcpmiplofbfmfaaGreatDoor
open Go.Proofs.Tryz
open Lib renaming hid→J
open Go.RowKit FloM
theorem iU(x:Nat)(h:x≤401):(l5 x).length≤1000:=by
 unfold l5
 split
 ·decide
 ·rw [ZZ]
  have h1:Lib.nDigits x≤3:=by
   by_cases h1:x<10
   ·rw [Z9 h1];decide
   ·rw [Lib.nDigits_big h1]
    by_cases h2:x/10<10
    ·rw [Z9 h2];decide
    ·rw [Lib.nDigits_big h2,Z9 (by omega)];decide
  omega
structure MG(u:Nat)(S:ByteArray)(E:Int):Prop where
 nan: ∀w,Calls prog 167 #[.int .u64 u] w fun e w'=>e= .returned (.bool false)∧w=w'
 inf: ∀w,Calls prog 180 #[.int .u64 u] w fun e w'=>e= .returned (.bool false)∧w=w'
 sho: ∀w,Calls prog 184 #[.int .u64 u] w fun e w'=>e= .returned (.tuple #[.string S, .int .i64 E])∧Below w.heap.size w w'
abbrev fL(x:Nat)(DD:ByteArray):Prop:=Hid (∀v w,D w v x→Calls prog 186 #[v] w fun e w'=>e= .returned (.string DD)∧Below w.heap.size w w')
abbrev fM(u:Nat)(X4:ByteArray)(w:World):Prop:=Calls prog 111 #[.int .u64 u] w fun e w'=>e= .returned (.string X4)∧Below w.heap.size w w'
abbrev fN(x:Nat):Prop:=Hid (∀w,Calls prog 187 #[.int .u64 x] w (dR w x))
theorem jV(u m x:Nat)(S A B DD X1 X2 X3 X4:ByteArray):(∀(h:15<m) (h2:m≤400) (hx:(m:Int)-1=(x:Int)) (aag:x≤401) (Cf:1≤S.size) (hS2:(1:Int)≤(S.size:Int)) (e1:S.extract 0 1=A) (e2:S.extract 1 S.size=B) (k1: ∀w,(Op.stringOp .add A ⟨#[46]⟩).run prog w= .ok (.string X1) w) (k2: ∀w,(Op.stringOp .add X1 ⟨#[48]⟩).run prog w= .ok (.string X2) w) (k3: ∀w,(Op.stringOp .add X2 ⟨#[69]⟩).run prog w= .ok (.string X3) w) (k4: ∀w,(Op.stringOp .add X3 DD).run prog w= .ok (.string X4) w) (hE:B.toList.isEmpty=true) (s0:bits .and .u64 (u:Int) 9223372036854775808=0) (z0:((u:Int)==0)=false) (HC:Hid (MG u S ((m:Int)))) (HS:fN x) (Ly:fL x DD) (w:World),fM u X4 w)∧(∀(h:3<m) (h2:m≤400) (hx:(1:Int)+(m:Int)=(x:Int)) (aag:x≤401) (Cf:1≤S.size) (hS2:(1:Int)≤(S.size:Int)) (e1:S.extract 0 1=A) (e2:S.extract 1 S.size=B) (k1: ∀w,(Op.stringOp .add A ⟨#[46]⟩).run prog w= .ok (.string X1) w) (k2: ∀w,(Op.stringOp .add X1 ⟨#[48]⟩).run prog w= .ok (.string X2) w) (k3: ∀w,(Op.stringOp .add X2 ⟨#[69,126]⟩).run prog w= .ok (.string X3) w) (k4: ∀w,(Op.stringOp .add X3 DD).run prog w= .ok (.string X4) w) (hE:B.toList.isEmpty=true) (s0:bits .and .u64 (u:Int) 9223372036854775808=0) (z0:((u:Int)==0)=false) (HC:Hid (MG u S (-(m:Int)))) (HS:fN x) (Ly:fL x DD) (w:World),fM u X4 w)∧(∀(h:15<m) (h2:m≤400) (hx:(m:Int)-1=(x:Int)) (aag:x≤401) (Cf:1≤S.size) (hS2:(1:Int)≤(S.size:Int)) (e1:S.extract 0 1=A) (e2:S.extract 1 S.size=B) (k1: ∀w,(Op.stringOp .add A ⟨#[46]⟩).run prog w= .ok (.string X1) w) (k2: ∀w,(Op.stringOp .add X1 B).run prog w= .ok (.string X2) w) (k3: ∀w,(Op.stringOp .add X2 ⟨#[69]⟩).run prog w= .ok (.string X3) w) (k4: ∀w,(Op.stringOp .add X3 DD).run prog w= .ok (.string X4) w) (hE:B.toList.isEmpty=false) (s0:bits .and .u64 (u:Int) 9223372036854775808=0) (z0:((u:Int)==0)=false) (HC:Hid (MG u S ((m:Int)))) (HS:fN x) (Ly:fL x DD) (w:World),fM u X4 w)∧(∀(h:3<m) (h2:m≤400) (hx:(1:Int)+(m:Int)=(x:Int)) (aag:x≤401) (Cf:1≤S.size) (hS2:(1:Int)≤(S.size:Int)) (e1:S.extract 0 1=A) (e2:S.extract 1 S.size=B) (k1: ∀w,(Op.stringOp .add A ⟨#[46]⟩).run prog w= .ok (.string X1) w) (k2: ∀w,(Op.stringOp .add X1 B).run prog w= .ok (.string X2) w) (k3: ∀w,(Op.stringOp .add X2 ⟨#[69,126]⟩).run prog w= .ok (.string X3) w) (k4: ∀w,(Op.stringOp .add X3 DD).run prog w= .ok (.string X4) w) (hE:B.toList.isEmpty=false) (s0:bits .and .u64 (u:Int) 9223372036854775808=0) (z0:((u:Int)==0)=false) (HC:Hid (MG u S (-(m:Int)))) (HS:fN x) (Ly:fL x DD) (w:World),fM u X4 w):=by
 unfold fL fM fN;refine⟨?_,?_,?_,?_⟩
 all_goals intro h h2 hx aag Cf hS2 e1 e2 k1 k2 k3 k4 hE s0 z0 HC HS Ly w
 have aj:=J (rfl:0=0)
 rotate_left 2;have aP:=J (rfl:0=0)
 all_goals
  first
   |(first|replace aj:=aj|replace aP:=aP)
    have gY:((m:Int)-1)=(x:Int):=by omega
    have w1:IntKind.i64.wrap ((m:Int)-1)=(x:Int):=by rw [gY];exact Zs _ (by omega)
   |have gY:(1- -(m:Int))=(x:Int):=by omega
    have w1:IntKind.i64.wrap (1- -(m:Int))=(x:Int):=by rw [gY];exact Zs _ (by omega)
  have w2:IntKind.u64.wrap (x:Int)=(x:Int):=by rw [zE];omega
  have w3:IntKind.i64.wrap (x:Int)=(x:Int):=Zs _ (by omega)
  go_enter func111,ntmps111;go_wp2_with (first|(go_at_call 167;refine(HC.out.nan _).mono ?_;rintro e w' ⟨rfl,rfl⟩)|(go_at_call 180;refine(HC.out.inf _).mono ?_;rintro e w' ⟨rfl,rfl⟩)|(go_at_call 184;refine(HC.out.sho _).mono ?_;rintro e w1 ⟨rfl,cT⟩;have bp:=J cT;clear cT))
  go_region_held3 (fun _=>True) (first|trivial)
   (first
    |(go_at_call 187;refine(HS.out _).mono ?_;rintro e w2 ⟨v2,rfl,hv2,_,ba⟩;have ln:=J hv2;have bM:=J ba;clear hv2 ba)
    |(go_at_call 186;refine(Ly.out _ _ ln.out).mono ?_;rintro e w3 ⟨rfl,bq⟩;have dF:=J bq;clear bq))
  go_wp2_with fail
  go_ret;refine⟨rfl,?_⟩;have b1:=bp.out.drew;have b2:=b1.trans (bM.out.mono b1.size);exact b2.trans (dF.out.mono b2.size)
def SK a b c d e f g h i j k:=(jV a b c d e f g h i j k).1
def SL a b c d e f g h i j k:=(jV a b c d e f g h i j k).2.1
def SM a b c d e f g h i j k:=(jV a b c d e f g h i j k).2.2.1
def SN a b c d e f g h i j k:=(jV a b c d e f g h i j k).2.2.2
set_option maxHeartbeats 1000000
theorem sq(u:Nat)(h:u<2^63):bits .and .u64 (u:Int) 9223372036854775808=0:=by
 rw [gN u (by omega)]
 unfold gm;rw [zh h];rfl
theorem SO(u:Nat)(h0:0<u)(hu:u<cap):XK u (y_ u) (Bv u):=by
 have hc:cap=2047*2^52:=rfl;have Ws:rg u=u:=by unfold rg;omega
 refine⟨fun w=> ?_,fun w=> ?_,fun w=> ?_⟩
 ·have:=gx u (by omega) w
  rwa [Ws,zb (by omega)]at this
 ·have:=mI u (by omega) w
  rwa [Ws,zb (by omega)]at this
 ·exact Bw u h0 hu w
theorem oa{P:Program}(a b:List UInt8)(ha:a.length≤2000)(hb:b.length≤2000)(w:World):
 (Op.stringOp .add ⟨a.toArray⟩ ⟨b.toArray⟩).run P w= .ok (.string ⟨(a++b).toArray⟩) w:=run_string_add_lists w a b (by omega) (by omega)
theorem MH(u:Nat)(h0:0<u)(hu:u<cap)(w:World):
 Calls prog 111 #[.int .u64 u] w (jG w (uM (y_ u) (Bv u))):=by
 have hc:cap=2047*2^52:=rfl;have HC:=SO u h0 hu;obtain⟨f1,f2,f3,f4,_⟩:=so u h0 hu;have s0:=sq u (by omega)
 have z0:((u:Int)==0)=false:=by rw [zf];omega
 generalize y_ u=T at *;generalize Bv u=E at *
 rcases Zy E 1 with h1|h1
 ·obtain⟨m,rfl⟩: ∃m:Nat,E= -(m:Int):=⟨(-E).toNat,by omega⟩
  rcases zj m 4 with h2|h2
  ·exact XL u T m f2 (by omega) s0 z0 HC w
  ·rcases T with _|⟨c,R⟩
   ·simp at f1
   have hl:R.length≤16:=by rw [Za]at f2;omega
   have QU:(Lib.decDigits (m+1)).length≤1000:=by have:=iU (m+1) (by omega);rwa [kz (by omega)]at this
   have hdg: ∀v w,D w v (m+1)→Calls prog 186 #[v] w fun e w'=>e= .returned (.string ⟨(Lib.decDigits (m+1)).toArray⟩)∧Below w.heap.size w w':=fun v w hv=>by
    have:=ky v (m+1) w (by have:=kt (x:=m+1) (by omega);omega) (iU _ (by omega)) hv
    rwa [kz (by omega)]at this
   have hsm: ∀w,Calls prog 187 #[.int .u64 ((m+1:Nat):Int)] w (dR w (m+1)):=fun w=>pN (m+1) w (by omega)
   rw [aaU c R m (by omega)]
   have dq:(ByteArray.mk (c::R).toArray).size=(c::R).length:=by simp [ByteArray.size]
   have hTS:MG u ⟨(c::R).toArray⟩ (-(m:Int)):=⟨HC.nan,HC.inf,HC.sho⟩
   by_cases hR:R=[]
   ·subst hR
    rw [zh rfl]
    refine(SL u m (m+1) ⟨[c].toArray⟩ ⟨[c].toArray⟩ ⟨([]:List UInt8).toArray⟩ ⟨(Lib.decDigits (m+1)).toArray⟩ ⟨([c]++[46]).toArray⟩ ⟨([c]++[46]++[48]).toArray⟩ ⟨([c]++[46]++[48]++[69,126]).toArray⟩ ⟨([c]++[46]++[48]++[69,126]++Lib.decDigits (m+1)).toArray⟩
     (by omega) (by omega) (by omega) (by omega) (by rw [dq];simp) (by rw [dq];simp) (ef [c] 1) (by rw [dq];exact eg [c] 1)
     (oa _ _ (by simp) (by simp)) (oa _ _ (by simp) (by simp)) (oa _ _ (by simp) (by simp)) (oa _ _ (by simp) (by omega)) (by rw [Lib.toList_data];rfl) s0 z0 hTS hsm hdg w).mono ?_
    rintro e w' ⟨rfl,hb⟩;exact⟨by simp,hb⟩
   ·rw [ze hR]
    refine(SN u m (m+1) ⟨(c::R).toArray⟩ ⟨[c].toArray⟩ ⟨R.toArray⟩ ⟨(Lib.decDigits (m+1)).toArray⟩ ⟨([c]++[46]).toArray⟩ ⟨([c]++[46]++R).toArray⟩ ⟨([c]++[46]++R++[69,126]).toArray⟩ ⟨([c]++[46]++R++[69,126]++Lib.decDigits (m+1)).toArray⟩
     (by omega) (by omega) (by omega) (by omega) (by rw [dq];simp) (by rw [dq];simp;omega) (ef (c::R) 1) (by rw [dq];exact eg (c::R) 1)
     (oa _ _ (by simp) (by simp)) (oa _ _ (by simp) (by omega)) (oa _ _ (by simp;omega) (by simp)) (oa _ _ (by simp;omega) (by omega)) (by rw [Lib.toList_data];cases R with|nil=>exact absurd rfl hR|cons a b=>rfl) s0 z0 hTS hsm hdg w).mono ?_
    rintro e w' ⟨rfl,hb⟩;exact⟨by simp,hb⟩
 ·obtain⟨m,rfl⟩: ∃m:Nat,E=(m:Int):=⟨E.toNat,by omega⟩
  rcases zj m 16 with h2|h2
  ·rcases zj m T.length with h3|h3
   ·exact XN u T m f2 (by omega) (by omega) h3 s0 z0 HC w
   ·exact XM u T m f2 (by omega) (by omega) h3 s0 z0 HC w
  ·rcases T with _|⟨c,R⟩
   ·simp at f1
   have hl:R.length≤16:=by rw [Za]at f2;omega
   have QU:(Lib.decDigits (m-1)).length≤1000:=by have:=iU (m-1) (by omega);rwa [kz (by omega)]at this
   have hdg: ∀v w,D w v (m-1)→Calls prog 186 #[v] w fun e w'=>e= .returned (.string ⟨(Lib.decDigits (m-1)).toArray⟩)∧Below w.heap.size w w':=fun v w hv=>by
    have:=ky v (m-1) w (by have:=kt (x:=m-1) (by omega);omega) (iU _ (by omega)) hv
    rwa [kz (by omega)]at this
   have hsm: ∀w,Calls prog 187 #[.int .u64 ((m-1:Nat):Int)] w (dR w (m-1)):=fun w=>pN (m-1) w (by omega)
   rw [aaT c R m (by omega)]
   have dq:(ByteArray.mk (c::R).toArray).size=(c::R).length:=by simp [ByteArray.size]
   have hTS:MG u ⟨(c::R).toArray⟩ (m:Int):=⟨HC.nan,HC.inf,HC.sho⟩
   by_cases hR:R=[]
   ·subst hR
    rw [zh rfl]
    refine(SK u m (m-1) ⟨[c].toArray⟩ ⟨[c].toArray⟩ ⟨([]:List UInt8).toArray⟩ ⟨(Lib.decDigits (m-1)).toArray⟩ ⟨([c]++[46]).toArray⟩ ⟨([c]++[46]++[48]).toArray⟩ ⟨([c]++[46]++[48]++[69]).toArray⟩ ⟨([c]++[46]++[48]++[69]++Lib.decDigits (m-1)).toArray⟩
     (by omega) (by omega) (by omega) (by omega) (by rw [dq];simp) (by rw [dq];simp) (ef [c] 1) (by rw [dq];exact eg [c] 1)
     (oa _ _ (by simp) (by simp)) (oa _ _ (by simp) (by simp)) (oa _ _ (by simp) (by simp)) (oa _ _ (by simp) (by omega)) (by rw [Lib.toList_data];rfl) s0 z0 hTS hsm hdg w).mono ?_
    rintro e w' ⟨rfl,hb⟩;exact⟨by simp,hb⟩
   ·rw [ze hR]
    refine(SM u m (m-1) ⟨(c::R).toArray⟩ ⟨[c].toArray⟩ ⟨R.toArray⟩ ⟨(Lib.decDigits (m-1)).toArray⟩ ⟨([c]++[46]).toArray⟩ ⟨([c]++[46]++R).toArray⟩ ⟨([c]++[46]++R++[69]).toArray⟩ ⟨([c]++[46]++R++[69]++Lib.decDigits (m-1)).toArray⟩
     (by omega) (by omega) (by omega) (by omega) (by rw [dq];simp) (by rw [dq];simp;omega) (ef (c::R) 1) (by rw [dq];exact eg (c::R) 1)
     (oa _ _ (by simp) (by simp)) (oa _ _ (by simp) (by omega)) (oa _ _ (by simp;omega) (by simp)) (oa _ _ (by simp;omega) (by omega)) (by rw [Lib.toList_data];cases R with|nil=>exact absurd rfl hR|cons a b=>rfl) s0 z0 hTS hsm hdg w).mono ?_
    rintro e w' ⟨rfl,hb⟩;exact⟨by simp,hb⟩
def od(r:Nat):List UInt8:=if r=cap then [105,110,102]else if r=0 then [48,46,48]else uM (y_ r) (Bv r)
def gT(u:Nat):List UInt8:=if cap<rg u then [110,97,110]else if u<2^63 then od (rg u)else 126::od (rg u)
theorem Ac(r:Nat)(hr:r≤cap)(w:World):Calls prog 111 #[.int .u64 r] w (jG w (od r)):=by
 have hc:cap=2047*2^52:=rfl;have Ws:rg r=r:=by unfold rg;omega
 have s0:=sq r (by omega)
 have h1:=fun w=>gx r (by omega) w
 have h2:=fun w=>mI r (by omega) w
 simp only [Ws,zb (show¬cap<r by omega)]at h1 h2
 by_cases hi:r=cap
 ·have e:od r=[105,110,102]:=zh hi
  rw [e];simp only [zc hi]at h2;clear hi e hr Ws hc;go_enter func111,ntmps111
  go_wp2_with (first
   |(go_at_call 167;refine(h1 _).mono ?_;rintro e w' ⟨rfl,rfl⟩)
   |(go_at_call 180;refine(h2 _).mono ?_;rintro e w' ⟨rfl,rfl⟩))
  go_ret;exact⟨rfl,zg _ _⟩
 ·by_cases hz:r=0
  ·have e:od r=[48,46,48]:=by unfold od;rw [ze hi,zh hz]
   rw [e];simp only [zb hi]at h2;subst hz;clear hi e hr Ws hc;go_enter func111,ntmps111
   go_wp2_with (first
    |(go_at_call 167;refine(h1 _).mono ?_;rintro e w' ⟨rfl,rfl⟩)
    |(go_at_call 180;refine(h2 _).mono ?_;rintro e w' ⟨rfl,rfl⟩))
   go_ret;exact⟨rfl,zg _ _⟩
  ·have e:od r=uM (y_ r) (Bv r):=by unfold od;rw [ze hi,ze hz]
   rw [e];exact MH r (by omega) (by omega) w
theorem KD(T:List UInt8)(E:Int)(h1:T.length≤17)(h2: -400≤E)(h3:E≤311):(uM T E).length≤2000:=by
 unfold uM
 split
 ·split
  ·simp;omega
  ·split
   ·simp;omega
   ·simp;omega
 ·have d1:=iU (1-E).toNat (by omega)
  have e: ∀k,(Lib.decDigits k).length≤(l5 k).length+1:=fun k=>by
   unfold l5;split
   ·rename_i h;subst h;rw [Lib.decDigits_one (by decide)];decide
   ·omega
  have:=e (1-E).toNat
  by_cases hE:E<1
  ·rw [zh hE];simp;split<;>simp<;>omega
  ·rw [ze hE];have:=iU (E.toNat-1) (by omega);have:=e (E.toNat-1);simp;split<;>simp<;>omega
theorem SP(r:Nat)(hr:r≤cap):(od r).length≤2000:=by
 unfold od
 split
 ·decide
 ·split
  ·decide
  ·obtain⟨_,f2,f3,f4,_⟩:=so r (by omega) (by omega)
   exact KD _ _ f2 f3 f4
theorem MI(u:Nat)(hu:u<2^64)(w:World):Calls prog 111 #[.int .u64 u] w (jG w (gT u)):=by
 have hc:cap=2047*2^52:=rfl;have h1:=fun w=>gx u hu w
 by_cases hn:cap<rg u
 ·have e:gT u=[110,97,110]:=zh hn
  rw [e];simp only [zc hn]at h1;clear hn e hc hu;go_enter func111,ntmps111;go_wp2_with (go_at_call 167;refine(h1 _).mono ?_;rintro e w' ⟨rfl,rfl⟩);go_ret;exact⟨rfl,zg _ _⟩
 by_cases hs:u<2^63
 ·have e:gT u=od u:=by
   unfold gT;rw [ze hn,zh hs,show rg u=u by unfold rg;omega]
  rw [e];exact Ac u (by unfold rg at hn;omega) w
 ·have e:gT u=126::od (rg u):=by unfold gT;rw [ze hn,ze hs]
  rw [e]
  have b1:bits .and .u64 (u:Int) 9223372036854775808=9223372036854775808:=by
   rw [gN u hu];unfold gm;rw [ze hs];rfl
  have b2:bits .xor .u64 (u:Int) 9223372036854775808=((rg u:Nat):Int):=by
   rw [tU u hu];unfold qL rg;rw [ze hs];omega
  have h2:=fun w=>Ac (rg u) (by omega) w
  have hl:=SP (rg u) (by omega)
  simp only [zb hn]at h1;clear hn e hc hu hs;have H2:=J h2;clear h2;generalize od (rg u)=T at *;generalize rg u=r at *;go_enter func111,ntmps111
  go_wp2_with (first
   |(go_at_call 167;refine(h1 _).mono ?_;rintro e w' ⟨rfl,rfl⟩)
   |(go_at_call 111;refine(H2.out _).mono ?_;rintro e w1 ⟨rfl,cT⟩;have bp:=J cT;clear cT))
  go_ret;refine⟨Gu (s:=_) ?_,bp.out⟩;apply ByteArray.ext;simp
theorem repeatL_one(c:UInt8): ∀n:Nat,Lib.repeatL [c] n=List.replicate n c
 |0=>rfl
 |n+1=>by rw [Lib.repeatL,repeatL_one c n,List.replicate_succ];rfl
theorem Dw(n:Nat)(hn:n≤1000)(w:World):Calls prog 162 #[.string ⟨#[48]⟩, .int .i64 (n:Int)] w (jG w (List.replicate n 48)):=by
 have h:=Tryz.strings_Repeat ⟨#[48]⟩ n w (by omega) (by show 1*n≤_;omega)
 rw [show Lib.repeatL (ByteArray.mk #[48]).data.toList n=List.replicate n 48 from repeatL_one 48 n]at h
 exact h
def Fs(z:Int):List UInt8:=if z<0 then [126]++Lib.decDigits z.natAbs else Lib.decDigits z.toNat
theorem wO(z:Int)(h0: -401≤z)(h1:z≤401):(Lib.itoa z).length≤1002∧(Fs z).length≤1002:=by
 have e: ∀k,k≤401→(Lib.decDigits k).length≤1001:=fun k hk=>by
  have:=decZ_small' k hk;exact this
 unfold Lib.itoa Fs
 split
 ·have:=e z.natAbs (by omega);simp;omega
 ·have:=e z.toNat (by omega);simp;omega
where
 decZ_small' (k:Nat) (h:k≤401):(Lib.decDigits k).length≤1001:=by
  rw [ZZ]
  have h1:Lib.nDigits k≤3:=by
   by_cases h1:k<10
   ·rw [Z9 h1];decide
   ·rw [Lib.nDigits_big h1]
    by_cases h2:k/10<10
    ·rw [Z9 h2];decide
    ·rw [Lib.nDigits_big h2,Z9 (by omega)];decide
  omega
theorem vM(z:Int)(h0: -401≤z)(h1:z≤401)(w:World)(ht:gV w):
 Calls prog 89 #[.string ⟨(Lib.itoa z).toArray⟩, .string ⟨#[45]⟩, .string ⟨#[126]⟩, .int .i64 1] w (jG w (Fs z)):=by
 obtain⟨m,hm⟩:=ht.mxl;have hl:=(wO z h0 h1).1;have hs:(ByteArray.mk (Lib.itoa z).toArray).size=(Lib.itoa z).length:=by simp [ByteArray.size]
 have hcn:Lib.countB ⟨(Lib.itoa z).toArray⟩ ⟨#[45]⟩≤(Lib.itoa z).length+1:=Lib.count_le _ _
 have h:=Tryz.strings_Replace ⟨(Lib.itoa z).toArray⟩ ⟨#[45]⟩ ⟨#[126]⟩ 1 m w (by rw [hs];omega) hm (by decide) (by
  rw [hs,show(ByteArray.mk #[126]).size=1 from rfl];omega)
 rw [show Lib.replace (ByteArray.mk (Lib.itoa z).toArray).data.toList (ByteArray.mk #[45]).data.toList (ByteArray.mk #[126]).data.toList 1=Fs z from Dv z]at h
 exact h
theorem KH{c:UInt8}{T:List UInt8}(hd:vp (c::T))(hl:T.length≤20)(w:World)(ht:gV w):
 Calls prog 89 #[.string ⟨(iN c T).toArray⟩, .string ⟨#[46]⟩, .string ⟨#[]⟩, .int .i64 1] w (jG w (c::T)):=by
 obtain⟨m,hm⟩:=ht.mxl;have hl2:(iN c T).length≤22:=by unfold iN;split<;>simp;omega
 have hs:(ByteArray.mk (iN c T).toArray).size=(iN c T).length:=by simp [ByteArray.size]
 have h:=Tryz.strings_Replace ⟨(iN c T).toArray⟩ ⟨#[46]⟩ ⟨#[]⟩ 1 m w (by rw [hs];omega) hm (by decide) (by
  rw [hs,show(ByteArray.mk #[]).size=0 from rfl];omega)
 rw [show Lib.replace (ByteArray.mk (iN c T).toArray).data.toList (ByteArray.mk #[46]).data.toList (ByteArray.mk #[]).data.toList 1=c::T from MW hd]at h
 exact h
theorem KI{c:UInt8}{T:List UInt8}(hd:vp (c::T))(hl:T.length≤20)(fV:Bool)(x:Nat)(hx:x<500)(w:World)(ht:gV w):
 Calls prog 88 #[.string ⟨(ct c T fV x).toArray⟩, .string ⟨#[101]⟩] w fun e w'=>e= .returned (.tuple #[.string ⟨(iN c T).toArray⟩, .string ⟨(kB fV x).toArray⟩, .bool true])∧Below w.heap.size w w':=by
 obtain⟨m,hm⟩:=ht.mxl;have h2:=(SY hx fV).2
 have hl2:(ct c T fV x).length≤40:=by
  rw [Dt];have:(iN c T).length≤22:=by unfold iN;split<;>simp;omega
  simp;omega
 have hs:(ByteArray.mk (ct c T fV x).toArray).size=(ct c T fV x).length:=by simp [ByteArray.size]
 have h:=Tryz.strings_Cut ⟨(ct c T fV x).toArray⟩ ⟨#[101]⟩ m w (by rw [hs];omega) hm
 rw [show Lib.cut (ByteArray.mk (ct c T fV x).toArray).data.toList (ByteArray.mk #[101]).data.toList=(iN c T,kB fV x,true)from MV hd fV x]at h
 refine h.mono ?_;rintro e w' ⟨rfl,n,rfl⟩;exact⟨rfl,below_drewN (zg _ _) n⟩
theorem S4(fV:Bool)(x:Nat)(hx:x<500)(w:World):
 Calls prog 90 #[.string ⟨(kB fV x).toArray⟩] w fun e w'=>e= .returned (.tuple #[.int .i64 (if fV then -(x:Int)else x), .nilIface])∧Below w.heap.size w w':=by
 obtain⟨h1,h2⟩:=SY hx fV;have hs:(ByteArray.mk (kB fV x).toArray).size=(kB fV x).length:=by simp [ByteArray.size]
 refine(Tryz.strconv_Atoi ⟨(kB fV x).toArray⟩ _ (by rw [hs];omega) h1 w).mono ?_
 rintro e w' ⟨rfl,t,rfl⟩;exact⟨rfl,Lib.bytesWorld_below _ _ _⟩
set_option maxHeartbeats 8000000
theorem S5(T:List UInt8)(n:Nat)(hT:T.length≤17)(h:n≤3)(w:World):Calls prog 91 #[.string ⟨T.toArray⟩, .int .i64 (-(n:Int))] w (jG w (uM T (-(n:Int)))):=by
 rw [aaQ T n h];go_enter func91,ntmps91;go_wp2_with (go_at_call 162;go_simp;refine(Dw n (by omega) _).mono ?_;rintro e w1 ⟨rfl,cT⟩;have bp:=J cT;clear cT)
 go_ret;refine⟨Gu (s:=_) ?_,bp.out⟩;apply ByteArray.ext;simp
theorem S6(T:List UInt8)(m:Nat)(hT:T.length≤17)(h0:0<m)(h:m≤15)(hl:T.length≤m)(w:World):Calls prog 91 #[.string ⟨T.toArray⟩, .int .i64 (m:Int)] w (jG w (uM T (m:Int))):=by
 rw [aaR T m h0 h hl];obtain⟨d,hd⟩: ∃d:Nat,d=m-T.length:=⟨_,rfl⟩;rw [←hd];have Wt:(m:Int)-(T.length:Int)=(d:Int):=by omega
 have hd3:d≤15:=by omega
 clear hd;go_enter func91,ntmps91;go_wp2_with (go_at_call 162;go_simp;refine(Dw d (by omega) _).mono ?_;rintro e w1 ⟨rfl,cT⟩;have bp:=J cT;clear cT)
 go_ret;refine⟨Gu (s:=_) ?_,bp.out⟩;apply ByteArray.ext;simp
theorem S7(T:List UInt8)(m:Nat)(hT:T.length≤17)(h0:0<m)(h:m≤15)(hl:m<T.length)(w:World):Calls prog 91 #[.string ⟨T.toArray⟩, .int .i64 (m:Int)] w (jG w (uM T (m:Int))):=by
 rw [aaS T m h0 h hl];go_enter func91,ntmps91;go_wp2_with fail
 go_region
 go_wp2
 go_ret;refine⟨Gu (s:=_) ?_,(zg _ _).drew⟩;rw [ef,eg];apply ByteArray.ext;simp
abbrev fc(DD PS:ByteArray):Prop:=Hid (∀w,gV w→Calls prog 89 #[.string PS, .string ⟨#[45]⟩, .string ⟨#[126]⟩, .int .i64 1] w fun e w'=>e= .returned (.string DD)∧Below w.heap.size w w')
abbrev fe(E:Int)(PS:ByteArray):Prop:=Hid (∀w,gV w→Calls prog 161 #[.int .i64 (E-1)] w fun e w'=>e= .returned (.string PS)∧Below w.heap.size w w')
abbrev ff(E:Int)(S X4:ByteArray)(w:World):Prop:=Calls prog 91 #[.string S, .int .i64 E] w fun e w'=>e= .returned (.string X4)∧Below w.heap.size w w'
theorem jg(E:Int)(S A B DD X1 X2 X3 X4 PS:ByteArray):(∀(h:15<E) (h2:E≤400) (Cf:1≤S.size) (hS2:(1:Int)≤(S.size:Int)) (e1:S.extract 0 1=A) (e2:S.extract 1 S.size=B) (k1: ∀w,(Op.stringOp .add A ⟨#[46]⟩).run prog w= .ok (.string X1) w) (k2: ∀w,(Op.stringOp .add X1 ⟨#[48]⟩).run prog w= .ok (.string X2) w) (k3: ∀w,(Op.stringOp .add X2 ⟨#[69]⟩).run prog w= .ok (.string X3) w) (k4: ∀w,(Op.stringOp .add X3 DD).run prog w= .ok (.string X4) w) (hE:B.toList.isEmpty=true) (HI:fe E PS) (HR:fc DD PS) (w:World) (ht:gV w),ff E S X4 w)∧(∀(h:E< -3) (h2: -400≤E) (Cf:1≤S.size) (hS2:(1:Int)≤(S.size:Int)) (e1:S.extract 0 1=A) (e2:S.extract 1 S.size=B) (k1: ∀w,(Op.stringOp .add A ⟨#[46]⟩).run prog w= .ok (.string X1) w) (k2: ∀w,(Op.stringOp .add X1 ⟨#[48]⟩).run prog w= .ok (.string X2) w) (k3: ∀w,(Op.stringOp .add X2 ⟨#[69]⟩).run prog w= .ok (.string X3) w) (k4: ∀w,(Op.stringOp .add X3 DD).run prog w= .ok (.string X4) w) (hE:B.toList.isEmpty=true) (HI:fe E PS) (HR:fc DD PS) (w:World) (ht:gV w),ff E S X4 w)∧(∀(h:15<E) (h2:E≤400) (Cf:1≤S.size) (hS2:(1:Int)≤(S.size:Int)) (e1:S.extract 0 1=A) (e2:S.extract 1 S.size=B) (k1: ∀w,(Op.stringOp .add A ⟨#[46]⟩).run prog w= .ok (.string X1) w) (k2: ∀w,(Op.stringOp .add X1 B).run prog w= .ok (.string X2) w) (k3: ∀w,(Op.stringOp .add X2 ⟨#[69]⟩).run prog w= .ok (.string X3) w) (k4: ∀w,(Op.stringOp .add X3 DD).run prog w= .ok (.string X4) w) (hE:B.toList.isEmpty=false) (HI:fe E PS) (HR:fc DD PS) (w:World) (ht:gV w),ff E S X4 w)∧(∀(h:E< -3) (h2: -400≤E) (Cf:1≤S.size) (hS2:(1:Int)≤(S.size:Int)) (e1:S.extract 0 1=A) (e2:S.extract 1 S.size=B) (k1: ∀w,(Op.stringOp .add A ⟨#[46]⟩).run prog w= .ok (.string X1) w) (k2: ∀w,(Op.stringOp .add X1 B).run prog w= .ok (.string X2) w) (k3: ∀w,(Op.stringOp .add X2 ⟨#[69]⟩).run prog w= .ok (.string X3) w) (k4: ∀w,(Op.stringOp .add X3 DD).run prog w= .ok (.string X4) w) (hE:B.toList.isEmpty=false) (HI:fe E PS) (HR:fc DD PS) (w:World) (ht:gV w),ff E S X4 w):=by
 unfold fc fe ff;refine⟨?_,?_,?_,?_⟩
 all_goals intro h h2 Cf hS2 e1 e2 k1 k2 k3 k4 hE HI HR w ht
 all_goals
  have HT:=J ht;clear ht;go_enter func91,ntmps91;go_wp2_with (go_at_call 161;refine(HI.out _ HT.out).mono ?_;rintro e w1 ⟨rfl,cT⟩;have bp:=J cT;clear cT)
  go_region_held3 (fun _=>True) (first|trivial)
   (first
    |(go_at_call 89;refine(HR.out _ (show gV w1.drew from(HT.out.below bp.out (za _)).drewN 1)).mono ?_;rintro e w2 ⟨rfl,cB⟩;have bM:=J cB;clear cB))
  go_wp2_with fail
  go_ret;exact⟨rfl,bp.out.drew.trans (bM.out.mono bp.out.drew.size)⟩
def MX a b c d e f g h i j:=(jg a b c d e f g h i j).1
def MY a b c d e f g h i j:=(jg a b c d e f g h i j).2.1
def MZ a b c d e f g h i j:=(jg a b c d e f g h i j).2.2.1
def M0 a b c d e f g h i j:=(jg a b c d e f g h i j).2.2.2
theorem jL{P:Program}(a b:List UInt8)(ha:a.length≤2000)(hb:b.length≤2000)(w:World):
 (Op.stringOp .add ⟨a.toArray⟩ ⟨b.toArray⟩).run P w= .ok (.string ⟨(a++b).toArray⟩) w:=run_string_add_lists w a b (by omega) (by omega)
theorem afX(m:Nat)(h:15<m):Fs ((m:Int)-1)=Lib.decDigits (m-1):=by
 unfold Fs;rw [ze (by omega),show((m:Int)-1).toNat=m-1 by omega]
theorem afY(m:Nat):Fs (-(m:Int)-1)=[126]++Lib.decDigits (m+1):=by
 unfold Fs;rw [zh (by omega),show(-(m:Int)-1).natAbs=m+1 by omega]
theorem Gx(T:List UInt8)(E:Int)(f1:1≤T.length)(f2:T.length≤17)(f3: -400≤E)(f4:E≤311)(w:World)(ht:gV w):Calls prog 91 #[.string ⟨T.toArray⟩, .int .i64 E] w (jG w (uM T E)):=by
 rcases Zy E 1 with h1|h1
 have fD:=J (rfl:0=0)
 all_goals
  first
   |replace fD:=fD
    obtain⟨m,rfl⟩: ∃m:Nat,E= -(m:Int):=⟨(-E).toNat,by omega⟩
    rcases zj m 4 with h2|h2
    ·exact S5 T m f2 (by omega) w
   |obtain⟨m,rfl⟩: ∃m:Nat,E=(m:Int):=⟨E.toNat,by omega⟩
    rcases zj m 16 with h2|h2
    ·rcases zj m T.length with h3|h3
     ·exact S7 T m f2 (by omega) (by omega) h3 w
     ·exact S6 T m f2 (by omega) (by omega) h3 w
  ·rcases T with _|⟨c,R⟩
   ·simp at f1
   have hl:R.length≤16:=by rw [Za]at f2;omega
   have dq:(ByteArray.mk (c::R).toArray).size=(c::R).length:=by simp [ByteArray.size]
   first
    |replace fD:=fD
     have QU:=(wO (-(m:Int)-1) (by omega) (by omega)).2
     rw [aaU c R m (by omega),←afY m]
    |have QU:=(wO ((m:Int)-1) (by omega) (by omega)).2
     rw [aaT c R m (by omega),←afX m (by omega)]
   by_cases hR:R=[]
   focus
    subst hR;rw [zh rfl]
    first
     |replace fD:=fD
      refine(MY (-(m:Int)) ⟨[c].toArray⟩ ⟨[c].toArray⟩ ⟨([]:List UInt8).toArray⟩ ⟨(Fs (-(m:Int)-1)).toArray⟩ ⟨([c]++[46]).toArray⟩ ⟨([c]++[46]++[48]).toArray⟩ ⟨([c]++[46]++[48]++[69]).toArray⟩ ⟨([c]++[46]++[48]++[69]++Fs (-(m:Int)-1)).toArray⟩ ⟨(Lib.itoa (-(m:Int)-1)).toArray⟩
       (by omega) (by omega) (by rw [dq];simp) (by rw [dq];simp) (ef [c] 1) (by rw [dq];exact eg [c] 1)
       (jL _ _ (by simp) (by simp)) (jL _ _ (by simp) (by simp)) (jL _ _ (by simp) (by simp)) (jL _ _ (by simp) (by omega)) (by rw [Lib.toList_data];rfl)
       (fun w ht=>sr _ (by omega) (by omega) w ht) (fun w ht=>vM _ (by omega) (by omega) w ht) w ht).mono ?_
     |refine(MX (m:Int) ⟨[c].toArray⟩ ⟨[c].toArray⟩ ⟨([]:List UInt8).toArray⟩ ⟨(Fs ((m:Int)-1)).toArray⟩ ⟨([c]++[46]).toArray⟩ ⟨([c]++[46]++[48]).toArray⟩ ⟨([c]++[46]++[48]++[69]).toArray⟩ ⟨([c]++[46]++[48]++[69]++Fs ((m:Int)-1)).toArray⟩ ⟨(Lib.itoa ((m:Int)-1)).toArray⟩
       (by omega) (by omega) (by rw [dq];simp) (by rw [dq];simp) (ef [c] 1) (by rw [dq];exact eg [c] 1)
       (jL _ _ (by simp) (by simp)) (jL _ _ (by simp) (by simp)) (jL _ _ (by simp) (by simp)) (jL _ _ (by simp) (by omega)) (by rw [Lib.toList_data];rfl)
       (fun w ht=>sr _ (by omega) (by omega) w ht) (fun w ht=>vM _ (by omega) (by omega) w ht) w ht).mono ?_
   rotate_left
   focus
    rw [ze hR]
    first
     |replace fD:=fD
      refine(M0 (-(m:Int)) ⟨(c::R).toArray⟩ ⟨[c].toArray⟩ ⟨R.toArray⟩ ⟨(Fs (-(m:Int)-1)).toArray⟩ ⟨([c]++[46]).toArray⟩ ⟨([c]++[46]++R).toArray⟩ ⟨([c]++[46]++R++[69]).toArray⟩ ⟨([c]++[46]++R++[69]++Fs (-(m:Int)-1)).toArray⟩ ⟨(Lib.itoa (-(m:Int)-1)).toArray⟩
       (by omega) (by omega) (by rw [dq];simp) (by rw [dq];simp;omega) (ef (c::R) 1) (by rw [dq];exact eg (c::R) 1)
       (jL _ _ (by simp) (by simp)) (jL _ _ (by simp) (by omega)) (jL _ _ (by simp;omega) (by simp)) (jL _ _ (by simp;omega) (by omega)) (by rw [Lib.toList_data];cases R with|nil=>exact absurd rfl hR|cons a b=>rfl)
       (fun w ht=>sr _ (by omega) (by omega) w ht) (fun w ht=>vM _ (by omega) (by omega) w ht) w ht).mono ?_
     |refine(MZ (m:Int) ⟨(c::R).toArray⟩ ⟨[c].toArray⟩ ⟨R.toArray⟩ ⟨(Fs ((m:Int)-1)).toArray⟩ ⟨([c]++[46]).toArray⟩ ⟨([c]++[46]++R).toArray⟩ ⟨([c]++[46]++R++[69]).toArray⟩ ⟨([c]++[46]++R++[69]++Fs ((m:Int)-1)).toArray⟩ ⟨(Lib.itoa ((m:Int)-1)).toArray⟩
       (by omega) (by omega) (by rw [dq];simp) (by rw [dq];simp;omega) (ef (c::R) 1) (by rw [dq];exact eg (c::R) 1)
       (jL _ _ (by simp) (by simp)) (jL _ _ (by simp) (by omega)) (jL _ _ (by simp;omega) (by simp)) (jL _ _ (by simp;omega) (by omega)) (by rw [Lib.toList_data];cases R with|nil=>exact absurd rfl hR|cons a b=>rfl)
       (fun w ht=>sr _ (by omega) (by omega) w ht) (fun w ht=>vM _ (by omega) (by omega) w ht) w ht).mono ?_
   all_goals
    rintro e w' ⟨rfl,hb⟩;exact⟨by simp,hb⟩
set_option maxHeartbeats 4000000
abbrev kD(r:Nat)(F_:ByteArray):Prop:=Hid (∀w,gV w→Calls prog 87 #[.float .f64 r, .int .u8 101, .int .i64 (-1), .int .i64 64] w fun e w'=>e= .returned (.string F_)∧Below w.heap.size w w')
abbrev kE(F_ MS XS:ByteArray):Prop:=Hid (∀w,gV w→Calls prog 88 #[.string F_, .string ⟨#[101]⟩] w fun e w'=>e= .returned (.tuple #[.string MS, .string XS, .bool true])∧Below w.heap.size w w')
abbrev kF(MS DS:ByteArray):Prop:=Hid (∀w,gV w→Calls prog 89 #[.string MS, .string ⟨#[46]⟩, .string ⟨#[]⟩, .int .i64 1] w fun e w'=>e= .returned (.string DS)∧Below w.heap.size w w')
abbrev kG(z:Int)(DS PS:ByteArray):Prop:=Hid (∀w,gV w→Calls prog 91 #[.string DS, .int .i64 (z+1)] w fun e w'=>e= .returned (.string PS)∧Below w.heap.size w w')
abbrev kH(z:Int)(XS:ByteArray):Prop:=Hid (∀w,Calls prog 90 #[.string XS] w fun e w'=>e= .returned (.tuple #[.int .i64 z, .nilIface])∧Below w.heap.size w w')
abbrev kI(u:Nat):Prop:=Hid (∀w,Calls prog 81 #[.float .f64 u] w fun e w'=>e= .returned (.int .u64 (u:Int))∧w=w')
abbrev kJ(u:Nat)(RS:ByteArray)(w:World):Prop:=Calls prog 43 #[.float .f64 u] w fun e w'=>e= .returned (.string RS)∧Below w.heap.size w w'
abbrev kK(u:Nat)(k:Int):Prop:=Hid (∀w,Calls prog 41 #[.float .f64 u] w fun e w'=>e= .returned (.int .i64 k)∧w=w')
abbrev kL(u r:Nat):Prop:=Hid (∀w,Calls prog 35 #[.float .f64 u] w fun e w'=>e= .returned (.float .f64 r)∧w=w')
theorem sw(u r:Nat)(k z:Int)(F_ MS XS DS PS RS:ByteArray)(k0:(k==0)=false)(k1:(k==1)=false):(∀(s0:bits .and .u64 (u:Int) 9223372036854775808=0) (hq:(FloatKind.f64.format.order u 0==some Ordering.eq)=false) (hz: -1000≤z∧z≤1000) (vW:kK u k) (vu:kI u) (HAB:kL u r) (HF:kD r F_) (HC:kE F_ MS XS) (HR:kF MS DS) (HA:kH z XS) (HP:kG z DS PS) (k4: ∀w,(Op.stringOp .add ⟨#[]⟩ PS).run prog w= .ok (.string RS) w) (w:World) (ht:gV w),kJ u RS w)∧(∀(s0:bits .and .u64 (u:Int) 9223372036854775808=9223372036854775808) (hq:(FloatKind.f64.format.order u 0==some Ordering.eq)=false) (hz: -1000≤z∧z≤1000) (vW:kK u k) (vu:kI u) (HAB:kL u r) (HF:kD r F_) (HC:kE F_ MS XS) (HR:kF MS DS) (HA:kH z XS) (HP:kG z DS PS) (k4: ∀w,(Op.stringOp .add ⟨#[126]⟩ PS).run prog w= .ok (.string RS) w) (w:World) (ht:gV w),kJ u RS w):=by
 unfold kD kE kF kG kH kI kJ kK kL;refine⟨?_,?_⟩
 all_goals intro s0 hq hz vW vu HAB HF HC HR HA HP k4 w ht
 all_goals
  have HT:=J ht;clear ht;go_enter func43,ntmps43;go_wp2_with (first|(go_at_call 41;refine(vW.out _).mono ?_;rintro e w' ⟨rfl,rfl⟩)|(go_at_call 81;refine(vu.out _).mono ?_;rintro e w' ⟨rfl,rfl⟩)|(go_at_call 35;refine(HAB.out _).mono ?_;rintro e w' ⟨rfl,rfl⟩)|(go_at_call 87;refine(HF.out _ HT.out).mono ?_;rintro e w1 ⟨rfl,cT⟩;have bp:=J cT;have Wv:=J (HT.out.below cT (za _));clear cT)|(go_at_call 88;refine(HC.out _ Wv.out).mono ?_;rintro e w2 ⟨rfl,cB⟩;have bM:=J (bp.out.trans (cB.mono bp.out.size));have HT2:=J (Wv.out.below cB (za _));clear cB)|(go_at_call 89;refine(HR.out _ HT2.out).mono ?_;rintro e w3 ⟨rfl,kZ⟩;have dF:=J (bM.out.trans (kZ.mono bM.out.size));have HT3:=J (HT2.out.below kZ (za _));clear kZ)|(go_at_call 90;refine(HA.out _).mono ?_;rintro e w4 ⟨rfl,k6⟩;have ce:=J (dF.out.trans (k6.mono dF.out.size));have HT4:=J (HT3.out.below k6 (za _));clear k6)|(go_at_call 91;refine(HP.out _ HT4.out).mono ?_;rintro e w5 ⟨rfl,lq⟩;have fE:=J (ce.out.trans (lq.mono ce.out.size));clear lq))
  go_ret;exact⟨rfl,fE.out⟩
def S8 a b c d e f g h i j k l:=(sw a b c d e f g h i j k l).1
def S9 a b c d e f g h i j k l:=(sw a b c d e f g h i j k l).2
theorem XX(r:Nat)(c:UInt8)(T:List UInt8)(h:y_ r=c::T):tF (aM r)=ct c T (decide (Bv r-1<0)) (Bv r-1).natAbs:=by
 unfold y_ at h;unfold tF Bv;rw [h]
theorem svz{u:Nat}:sv u=0↔rg u=0:=by
 rw [←Int.natAbs_eq_zero,yS,oC]
theorem ajB{u:Nat}(h:u<2^63):sv u=val (rg u):=by
 unfold sv bP;rw [show u/2^63=0 by omega]
 rfl
theorem ajC{u:Nat}(h: ¬u<2^63)(hu:u<2^64):sv u= -(val (rg u):Int):=by
 unfold sv bP;rw [show u/2^63=1 by omega]
 rfl
theorem wP(u:Nat)(h:rg u≤cap):FloatKind.f64.format.order u 0=some (compare (sv u) 0):=by
 rw [VY,mD h (by decide)]
 rfl
theorem S_(u:Nat)(hu:u<2^64)(h0:rg u≠0)(hf:rg u<cap)(w:World)(ht:gV w):Calls prog 43 #[.float .f64 u] w (jG w (gT u)):=by
 have pu:cap=2047*2^52:=rfl;have Qr:aw u=u:=by unfold aw;rw [ze (by omega)]
 have Fg:=fun w=>tV u hu w
 have hbi:=fun w=>il u w
 have vU:=fun w=>KJ u hu w
 have uw:fZ u=rg u:=rfl;have alc:Dx u=rg u:=by unfold Dx;rw [Qr,uw]
 rw [alc]at vU;rw [Qr]at hbi
 have hk:(co u==0)=false∧(co u==1)=false:=by
  unfold co;rw [ze (by omega),ze (by omega),ze h0]
  split<;>exact⟨rfl,rfl⟩
 obtain⟨f1,f2,f3,f4,_⟩:=so (rg u) (by omega) hf
 have hd:vp (y_ (rg u)):=(oP _).strip;have HPL:=fun w ht=>Gx (y_ (rg u)) (Bv (rg u)) f1 f2 f3 f4 w ht
 have hfm:=fun w ht=>S3 (rg u) w (by omega) hf ht
 have heo:=XX (rg u)
 have hq:(FloatKind.f64.format.order u 0==some Ordering.eq)=false:=by
  rw [wP u (by omega)]
  have:sv u≠0:=fun h=>h0 (svz.1 h)
  rw [zf];intro h;exact this (Int.compare_eq_eq.1 (zz h))
 have hT:gT u=(if u<2^63 then []else [126])++uM (y_ (rg u)) (Bv (rg u)):=by
  unfold gT od
  by_cases h:u<2^63
  ·rw [ze (by omega),zh h,zh h,ze (by omega),ze h0];rfl
  ·rw [ze (by omega),ze h,ze h,ze (by omega),ze h0];rfl
 have hl:=KD (y_ (rg u)) (Bv (rg u)) f2 f3 f4;rw [hT]
 rcases hs:y_ (rg u)with _|⟨c,T⟩
 ·rw [hs]at f1;simp at f1
 rw [heo c T hs]at hfm;rw [hs]at hd HPL hl f2;generalize hE:Bv (rg u)=E at *;have hTl:T.length≤20:=by rw [Za]at f2;omega
 have hx:(E-1).natAbs<500:=by omega
 have Fy:=fun w=>S4 (decide (E-1<0)) (E-1).natAbs hx w
 have hz:(if decide (E-1<0)=true then -((E-1).natAbs:Int)else((E-1).natAbs:Int))=E-1:=by
  by_cases h:E-1<0
  ·rw [zc h,zh rfl];omega
  ·rw [zb h,ze (by decide)];omega
 rw [hz]at Fy
 have V_: ∀w,gV w→Calls prog 91 #[.string ⟨(c::T).toArray⟩, .int .i64 (E-1+1)] w (jG w (uM (c::T) E)):=fun w ht=>by
  rw [Int.sub_add_cancel];exact HPL w ht
 by_cases QR:u<2^63
 ·rw [zh QR]
  exact S8 u (rg u) (co u) (E-1) _ _ _ ⟨(c::T).toArray⟩ ⟨(uM (c::T) E).toArray⟩ _ hk.1 hk.2 (sq u QR) hq (by omega) Fg hbi vU hfm (fun w ht=>KI hd hTl _ _ hx w ht) (fun w ht=>KH hd hTl w ht) Fy V_ (oa [] _ (by simp) hl) w ht
 ·rw [ze QR]
  have b1:bits .and .u64 (u:Int) 9223372036854775808=9223372036854775808:=by
   rw [gN u hu];unfold gm;rw [ze QR];rfl
  exact S9 u (rg u) (co u) (E-1) _ _ _ ⟨(c::T).toArray⟩ ⟨(uM (c::T) E).toArray⟩ _ hk.1 hk.2 b1 hq (by omega) Fg hbi vU hfm (fun w ht=>KI hd hTl _ _ hx w ht) (fun w ht=>KH hd hTl w ht) Fy V_ (oa [126] _ (by simp) hl) w ht
theorem M1(u:Nat)(hu:u<2^64)(h:cap≤rg u∨rg u=0)(w:World):Calls prog 43 #[.float .f64 u] w (jG w (gT u)):=by
 have pu:cap=2047*2^52:=rfl;have Fg:=fun w=>tV u hu w
 have hbi:=fun w=>il u w
 by_cases hn:cap<rg u
 ·have e:gT u=[110,97,110]:=zh hn
  have ek:co u=0:=zh hn;rw [e];rw [ek]at Fg;clear hn e ek h pu hu hbi;go_enter func43,ntmps43;go_wp2_with (go_at_call 41;refine(Fg _).mono ?_;rintro e w' ⟨rfl,rfl⟩);go_ret;exact⟨rfl,zg _ _⟩
 have Qr:aw u=u:=by unfold aw;rw [ze (by omega)]
 rw [Qr]at hbi;have ho:=wP u (by omega)
 by_cases hi:rg u=cap
 ·have ek:co u=1:=by unfold co;rw [ze hn,zh hi]
  rw [ek]at Fg;have hcp:0<val cap:=uC
  by_cases hs:u<2^63
  focus
   have e:gT u=[105,110,102]:=by unfold gT od;rw [ze hn,zh hs,zh hi]
   have bw:(FloatKind.f64.format.order u 0==some Ordering.lt)=false:=by
    rw [ho,zf];intro h9;have h8:=ZC.1 (zz h9);rw [ajB hs,hi]at h8;omega
  rotate_left
  focus
   have e:gT u=[126,105,110,102]:=by unfold gT od;rw [ze hn,ze hs,zh hi]
   have bw:(FloatKind.f64.format.order u 0==some Ordering.lt)=true:=by
    rw [ho,Zr];have:sv u<0:=by rw [ajC hs hu,hi];omega
    rw [ZC.2 this]
  all_goals
   rw [e];clear hn e ek h pu hu hbi hi hs Qr ho hcp;go_enter func43,ntmps43;go_wp2_with (go_at_call 41;refine(Fg _).mono ?_;rintro e w' ⟨rfl,rfl⟩);go_ret;exact⟨rfl,zg _ _⟩
 ·have hz:rg u=0:=by omega
  have hk:co u=2:=by unfold co;rw [ze hn,ze hi,zh hz]
  rw [hk]at Fg
  have heq:(FloatKind.f64.format.order u 0==some Ordering.eq)=true:=by
   rw [ho,Zr,svz.2 hz]
   rfl
  by_cases hs:u<2^63
  focus
   have e:gT u=[48,46,48]:=by unfold gT od;rw [ze hn,zh hs,ze (by omega),zh hz]
   have s0:=sq u hs
  rotate_left
  focus
   have e:gT u=[126,48,46,48]:=by unfold gT od;rw [ze hn,ze hs,ze (by omega),zh hz]
   have b1:bits .and .u64 (u:Int) 9223372036854775808=9223372036854775808:=by
    rw [gN u hu];unfold gm;rw [ze hs];rfl
  all_goals
   rw [e];clear hn e hk h pu hu hi hs Qr ho hz;go_enter func43,ntmps43;go_wp2_with (first|(go_at_call 41;refine(Fg _).mono ?_;rintro e w' ⟨rfl,rfl⟩)|(go_at_call 81;refine(hbi _).mono ?_;rintro e w' ⟨rfl,rfl⟩))
   go_ret;exact⟨rfl,zg _ _⟩
theorem Ta(u:Nat)(hu:u<2^64)(w:World)(ht:gV w):Calls prog 43 #[.float .f64 u] w (jG w (gT u)):=by
 by_cases h:cap≤rg u∨rg u=0
 ·exact M1 u hu h w
 ·exact S_ u hu (by omega) (by omega) w ht
end Go.Proofs.YtcpmiplofbfmfaaGreatDoor
