/- Shrink: whole numbers: the document's products and quotients -/
import Derived.Test.YtcpmiplofbfmfaaGreatDoorA32
import Derived.Test.YtcpmiplofbfmfaaGreatDoorA03
import Derived.Test.YtcpmiplofbfmfaaGreatDoorA24
import Derived.Test.YtcpmiplofbfmfaaGreatDoorA31
set_option linter.all false
set_option maxHeartbeats 2000000
namespace Go.Proofs.YtcpmiplofbfmfaaGreatDoor
open Go.Proofs.Tryz
open Go.Lib renaming hid→J
open Go.RowKit LamM CpsM ShrM
theorem Hq(a b:Int)(ha:ax a=true)(hb:ax b=true)(w:World):Calls prog 170 #[.int .i64 a, .int .i64 b] w (R2 (yA a b) w):=by
 rw [xu];have lx:=fk ha;have ly:=fk hb;have HA:=J (fun w=>fQ a ha w)
 have HB:=J (fun w=>fQ b hb w)
 have HR:=J (fun w=>dL a w)
 have nX:=J (fun w=>dL b w)
 rw [ha]at HR;rw [hb]at nX;have HS:=J (fun s (h:a.natAbs*b.natAbs<18446744073709551616) w=>lL (a.natAbs*b.natAbs) s h w)
 have hm:(a.natAbs:Int)*(b.natAbs:Int)=((a.natAbs*b.natAbs:Nat):Int):=rfl;have hz:a.natAbs=0∨b.natAbs=0→a.natAbs*b.natAbs=0:=fun h=>by rcases h with h|h<;>simp [h]
 have hdv:0<b.natAbs→(4611686018427387904/b.natAbs<a.natAbs↔4611686018427387904<a.natAbs*b.natAbs):=fun h=>Z0 h
 unfold R2 at *;generalize a.natAbs=x at *;generalize b.natAbs=y at *;generalize hN:x*y=N at *;clear ha hb;have HN:=J hN;clear hN
 by_cases h0:x=0
 ·have e:N=0:=hz (.inl h0)
  have q:((x:Int)==0)=true:=be (by omega)
  have hS: ∀s,dh N s=(0,0):=by rw [e];intro s;cases s<;>rfl
  rw [hS];clear hz hdv hm e hS h0;go_enter func170,ntmps170;go_wp2_with (first|(go_at_call 54;(first|(with_reducible refine(HR.out _).q ?_)|(with_reducible refine(nX.out _).q ?_)))|(go_at_call 190;(first|(with_reducible refine(HA.out _).q ?_)|(with_reducible refine(HB.out _).q ?_))))
  go_ret2
  exact⟨rfl,rfl⟩
 ·have q:((x:Int)==0)=false:=ag (by omega)
  by_cases h1:y=0
  ·have e:N=0:=hz (.inr h1)
   have q':((y:Int)==0)=true:=be (by omega)
   have hS: ∀s,dh N s=(0,0):=by rw [e];intro s;cases s<;>rfl
   rw [hS];clear hz hdv hm e hS h0 h1;go_enter func170,ntmps170;go_wp2_with (first|(go_at_call 54;(first|(with_reducible refine(HR.out _).q ?_)|(with_reducible refine(nX.out _).q ?_)))|(go_at_call 190;(first|(with_reducible refine(HA.out _).q ?_)|(with_reducible refine(HB.out _).q ?_))))
   go_ret2
   exact⟨rfl,rfl⟩
  ·have q':((y:Int)==0)=false:=ag (by omega)
   have hd:(4611686018427387904:Int)/(y:Int)=((4611686018427387904/y:Nat):Int):=rfl;have QU:4611686018427387904/y≤4611686018427387904:=ZI _ _;have QD:=hdv (by omega)
   generalize 4611686018427387904/y=d at *;have hwd:IntKind.u64.wrap (d:Int)=(d:Int):=by rw [zE];omega
   clear hz hdv
   by_cases h2:4611686018427387904<N
   ·have q2:decide ((d:Int)<(x:Int))=true:=zc (by have:=QD.2 h2;omega)
    have q3:decide (d<x)=true:=zc (QD.2 h2);rw [rE h2];clear QD h2 h0 hm;go_enter func170,ntmps170;go_wp2_with (first|(go_at_call 54;(first|(with_reducible refine(HR.out _).q ?_)|(with_reducible refine(nX.out _).q ?_)))|(go_at_call 190;(first|(with_reducible refine(HA.out _).q ?_)|(with_reducible refine(HB.out _).q ?_))))
    go_ret2
    exact⟨rfl,rfl⟩
   ·have q2:decide ((d:Int)<(x:Int))=false:=zb (fun h=>h2 (QD.1 (by omega)))
    have q3:decide (d<x)=false:=zb (fun h=>h2 (QD.1 h))
    have hwN:IntKind.u64.wrap (N:Int)=(N:Int):=by rw [zE];omega
    have sZ:=J (fun s w=>HS.out s (by omega) w)
    clear QD h2 h0 HS
    cases pa:decide (a<0)<;>cases pb:decide (b<0)
    all_goals
     go_enter func170,ntmps170;go_wp2_with (first|(go_at_call 54;(first|(with_reducible refine(HR.out _).q ?_)|(with_reducible refine(nX.out _).q ?_)))|(go_at_call 190;(first|(with_reducible refine(HA.out _).q ?_)|(with_reducible refine(HB.out _).q ?_)))|(go_at_call 191;(with_reducible refine(sZ.out _ _).q ?_)))
     go_ret2
     exact⟨rfl,rfl⟩
theorem wrap_small{z:Nat}(h:z<18446744073709551616):IntKind.u64.wrap (z:Int)=(z:Int):=by rw [zE];omega
theorem Er(a b:Int)(ha:ax a=true)(hb:ax b=true)(w:World):Calls prog 172 #[.int .i64 a, .int .i64 b] w (R2 (xt a b) w):=by
 have HR:=J (fun w=>DY a b ha hb w)
 unfold R2 xt ui at *
 by_cases h0:b=0
 ·simp only [zh h0]at HR⊢
  clear ha hb h0;go_enter func172,ntmps172;go_wp2_with (go_at_call 174;(with_reducible refine(HR.out _).q ?_))
  go_ret2
  exact⟨rfl,rfl⟩
 ·simp only [ze h0]at HR⊢
  have rT:=bF (uj a b h0 hb).1;unfold Ue Ei at rT⊢;have hbd:=(vO a b h0).1;generalize a.tmod b=r at *;have hw:wrap64 (r+b)=r+b:=zN _ (by have:=hbd;have:=fk hb;omega)
  cases pr:decide (r≠0)
  ·have q:(r==0)=true:=by simpa using pr
   simp only [Ib,zJ,ZD];clear rT ha hb pr hbd;go_enter func172,ntmps172;go_wp2_with (go_at_call 174;(with_reducible refine(HR.out _).q ?_))
   go_ret2
   exact⟨by first|rfl|(have:=Zr.1 q;rw [this];rfl),rfl⟩
  ·have q:(r==0)=false:=by simpa using pr
   rw [pr]at rT
   cases pa:decide (r<0)<;>cases pb:decide (b<0)
   all_goals
    rw [pa,pb]at rT;simp only [zZ,bne_self_eq_false,Bool.bne_true,Bool.bne_false,Bool.not_true,Bool.not_false,Bool.true_bne,Bool.false_bne,zJ,ZD,Ic]at rT⊢;clear rT ha hb pr hbd;go_enter func172,ntmps172;go_wp2_with (go_at_call 174;(with_reducible refine(HR.out _).q ?_))
    go_ret2
    first|exact⟨rfl,rfl⟩|exact⟨ZW (fun z=>Ending.returned (.tuple #[.int .i64 z, .int .i64 0])) hw,rfl⟩
theorem Hr(a b:Int)(ha:ax a=true)(hb:ax b=true)(w:World):Calls prog 171 #[.int .i64 a, .int .i64 b] w (R2 (vr a b) w):=by
 have HC:=J (fun w=>xj a b ha hb w)
 by_cases h0:b=0
 ·have e:vr a b=(0,11):=zh h0
  rw [e];unfold R2;rw [zh h0]at HC;clear ha hb h0 e;go_enter func171,ntmps171;go_wp2_with (go_at_call 234;(with_reducible refine(HC.out _).q ?_))
  go_ret2
  exact⟨rfl,rfl⟩
 ·rw [G7 a b h0]
  rw [ze h0]at HC;have HM:=J (fun w=>Er a b ha hb w)
  have hM:xt a b=(Ue a b,0):=ze h0;rw [hM]at HM;have hfl:=(uj a b h0 hb).2;have lx:=fk ha;have ly:=fk hb;have hy:b.natAbs≠0:=by omega
  have HA:=J (fun w=>fQ a ha w)
  have HB:=J (fun w=>fQ b hb w)
  have HS:=J (fun m s (h:m<18446744073709551616) w=>lL m s h w)
  have h1:a.natAbs/b.natAbs≤a.natAbs:=ZI _ _;have h2:(a.natAbs+b.natAbs-1)/b.natAbs≤a.natAbs+b.natAbs-1:=ZI _ _;have hd1:(a.natAbs:Int)/(b.natAbs:Int)=((a.natAbs/b.natAbs:Nat):Int):=rfl;have hs:IntKind.u64.wrap ((a.natAbs:Int)+(b.natAbs:Int))=((a.natAbs+b.natAbs:Nat):Int):=by rw [zE];omega
  have hs2:IntKind.u64.wrap (((a.natAbs+b.natAbs:Nat):Int)-1)=((a.natAbs+b.natAbs-1:Nat):Int):=by rw [zE];omega
  have Wt:((a.natAbs+b.natAbs-1:Nat):Int)/(b.natAbs:Int)=(((a.natAbs+b.natAbs-1)/b.natAbs:Nat):Int):=rfl;have dz:IntKind.u64.wrap ((a.natAbs/b.natAbs:Nat):Int)=((a.natAbs/b.natAbs:Nat):Int):=wrap_small (by omega)
  have hw2:IntKind.u64.wrap (((a.natAbs+b.natAbs-1)/b.natAbs:Nat):Int)=(((a.natAbs+b.natAbs-1)/b.natAbs:Nat):Int):=wrap_small (by omega)
  unfold R2 at *;have xN:a.natAbs/b.natAbs<18446744073709551616:=by omega
  have hl2:(a.natAbs+b.natAbs-1)/b.natAbs<18446744073709551616:=by omega
  have qu:=J (fun s w=>HS.out _ s xN w)
  have sZ:=J (fun w=>HS.out _ true hl2 w)
  generalize Ue a b=M at *;generalize a.tmod b=R at *;clear xN hl2 h1 h2 HS;generalize(a.natAbs+b.natAbs-1)/b.natAbs=z2 at *;generalize a.natAbs/b.natAbs=z1 at *;generalize a.natAbs+b.natAbs-1=y2 at *;generalize a.natAbs+b.natAbs=y1 at *;generalize a.natAbs=x at *;generalize b.natAbs=y at *;clear lx ly
  cases pr:decide (R≠0)
  have nZ:=J (rfl:0=0)
  rotate_left;have g1b:=J (rfl:0=0)
  all_goals
   first
    |replace nZ:=nZ
     have hR:R=0:=by simpa using pr
     have q:(M !=0)=false:=f_ (hfl.2 hR);simp only [Ib,zJ,ZD];clear hfl pr hR ha hb hs hs2 Wt hw2 sZ
    |have hR:R≠0:=by simpa using pr
     have q:(M !=0)=true:=oS (fun h=>hR (hfl.1 h))
     simp only [zZ];clear hfl pr hR ha hb
   cases pa:decide (a<0)<;>cases pb:decide (b<0)
   all_goals
    first
     |replace nZ:=nZ
     |simp only [bne_self_eq_false,Bool.bne_true,Bool.bne_false,Bool.not_true,Bool.not_false,Bool.true_bne,Bool.false_bne,zJ,ZD,Ic]
    go_enter func171,ntmps171;go_wp2_with (first|(go_at_call 234;(with_reducible refine(HC.out _).q ?_))|(go_at_call 172;(with_reducible refine(HM.out _).q ?_))|(go_at_call 190;(first|(with_reducible refine(HA.out _).q ?_)|(with_reducible refine(HB.out _).q ?_)))|(go_at_call 191;(first|replace nZ:=nZ;(with_reducible refine(qu.out _ _).q ?_)|replace g1b:=g1b;(first|(with_reducible refine(sZ.out _).q ?_)|(with_reducible refine(qu.out _ _).q ?_)))))
    go_ret2
    exact⟨rfl,rfl⟩
end Go.Proofs.YtcpmiplofbfmfaaGreatDoor
namespace ShrM
open LamM CpsM
inductive eo
 |no
 |raise (c:Int)
 |int (n:Int)
 |real (b:Nat)
 |str (s:List UInt8)
def aX(x:Int×Int):eo:=if x.2=0 then .int x.1 else if x.2=11 then .raise 3 else if x.2=20 then .raise 4 else .raise 6
def aE(b:Bool):eo:= .int (if b then 1 else 0)
def qr(t:Fl)(k:Int):Bool:=t.k==k&& !(t.k==2&& !ax t.i)&& !(t.k==4&& !decide (t.t.length≤65536))
def aW:List Fl→List Int→Bool
 |[],[]=>true
 |t::l,k::ks=>qr t k&&aW l ks
 |_,_=>false
def ck(S:List UInt8)(c:Int):Bool:=(decide (S=[60])&&(c== -1))||(decide (S=[60,61])&&(c== -1||c==0))||(decide (S=[62])&&(c==1))||(decide (S=[62,61])&&(c==1||c==0))
def fl0:Fl:=⟨0,0,0,0,0,[],[],[],[]⟩
def a0(l:List Fl):Fl:=l.getD 0 fl0
def a1(l:List Fl):Fl:=l.getD 1 fl0
def a2(l:List Fl):Fl:=l.getD 2 fl0
open LamM CpsM FloM Go.Proofs.YtcpmiplofbfmfaaGreatDoor
def jr(S:List UInt8)(l:List Fl):eo:=
 if aW l [2]then(if S=[126]then aX (nJ (a0 l).i)else aX (nK (a0 l).i))
 else if aW l [2,2]then
  (if S=[43]then aX (yz (a0 l).i (a1 l).i)else if S=[45]then aX (qp (a0 l).i (a1 l).i)else if S=[42]then aX (yA (a0 l).i (a1 l).i)
  else if S=[100,105,118]then aX (vr (a0 l).i (a1 l).i)else if S=[109,111,100]then aX (xt (a0 l).i (a1 l).i)else if S=[113,117,111,116]then aX (nU (a0 l).i (a1 l).i)else if S=[114,101,109]then aX (ui (a0 l).i (a1 l).i)
  else aE (ck S (yB (a0 l).i (a1 l).i)))
 else .no
def DR(S:List UInt8)(u:Nat):eo:=
 if S=[126]then .real (aw (wT u))else if S=[97,98,115]then .real (aw (Dx u))else if S=[102,108,111,111,114]then aX (lg .down u)else if S=[99,101,105,108]then aX (lg .up u)
 else if S=[116,114,117,110,99]then aX (lg .zero u)else if S=[114,111,117,110,100]then aX (lg .even u)else if S=[105,115,78,97,110]then aE (co u==0)else .str (gT u)
def Ao(S:List UInt8)(u v:Nat)(ord:Int→Bool):eo:=
 if S=[43]then .real (aw (lU (Ieee.double.add u v)))else if S=[45]then .real (aw (lU (Ieee.double.sub u v)))else if S=[42]then .real (aw (lU (Ieee.double.mul u v)))else if S=[47]then .real (aw (lU (Ieee.double.div u v)))
 else if S=[115,97,109,101]then aE (gw u v==0)else aE (ord (gw u v))
def dm(S:List UInt8)(l:List Fl):eo:=
 if aW l [3]then DR S (a0 l).b.toNat
 else if aW l [3,3]then Ao S (a0 l).b.toNat (a1 l).b.toNat (ck S)
 else .no
def oU(S:List UInt8)(n:Int):eo:=
 let Qt:=decide (0≤n)&&decide (n≤255)
 if S=[114,101,97,108]then .real (aw (Bc n))else if S=[105,110,116,84,101,120,116]then .str (qq n)else if S=[111,114,100]∧Qt=true then .int n
 else if S=[115,116,114]∧Qt=true then .str [UInt8.ofNat n.toNat]else if S=[99,104,114]∧Qt=true then .int n else if S=[99,104,114]then .raise 2 else .no
def GJ(s t:List UInt8):eo:=if s.length+t.length≤65536 then .str (s++t)else .raise 7
def GK(s:List UInt8)(i:Int):eo:=if 0≤i∧i<(s.length:Int)then .int ((s.getD i.toNat 0).toNat:Int)else .raise 8
def GL(s:List UInt8)(i n:Int):eo:=if 0≤i∧0≤n∧i≤(s.length:Int)∧n≤(s.length:Int)-i then .str ((s.drop i.toNat).take n.toNat)else .raise 8
def lJ(S:List UInt8)(l:List Fl):eo:=
 if S=[115,105,122,101]∧aW l [4]=true then .int ((a0 l).t.length:Int)
 else if S=[94]∧aW l [4,4]=true then GJ (a0 l).t (a1 l).t
 else if S=[115,117,98]∧aW l [4,2]=true then GK (a0 l).t (a1 l).i
 else if S=[115,117,98,115,116,114,105,110,103]∧aW l [4,2,2]=true then GL (a0 l).t (a1 l).i (a2 l).i
 else .no
def lK(S:List UInt8)(l:List Fl):eo:=
 if S=[100,105,118]∨S=[109,111,100]∨S=[113,117,111,116]∨S=[114,101,109]then jr S l
 else if S=[47]∨S=[115,97,109,101]∨S=[102,108,111,111,114]∨S=[99,101,105,108]∨S=[116,114,117,110,99]∨S=[114,111,117,110,100]∨S=[105,115,78,97,110]∨S=[114,101,97,108,84,101,120,116]then dm S l
 else if S=[61]∨S=[60,62]then
  (if aW l [2,2]then aE (((a0 l).i==(a1 l).i)==decide (S=[61]))else if aW l [4,4]then aE (decide ((a0 l).t=(a1 l).t)==decide (S=[61]))else .no)
 else if aW l [2]then oU S (a0 l).i
 else lJ S l
def mK(p:Pr)(l:List Fl):eo:=
 if(l.length:Int)≠p.args then .no
 else if p.con=0 then jr p.nm l
 else if p.con=1 then dm p.nm l
 else if p.con=2 then(if aW l [2,2]then aE (ck p.nm (yB (a0 l).i (a1 l).i))else .no)
 else if p.con=3 then(if aW l [4,4]then aE (ck p.nm (kR (a0 l).t (a1 l).t))else .no)
 else lK p.nm l
inductive At
 |int (n:Int)
 |real (b:Nat)
 |str (s:List UInt8)
def At.isInt:At→Bool| .int _=>true|_=>false
def At.isStr:At→Bool| .str _=>true|_=>false
def At.isReal:At→Bool| .real _=>true|_=>false
def At.i:At→Int| .int n=>n|_=>0
def At.b:At→Nat| .real b=>b|_=>0
def At.t:At→List UInt8| .str s=>s|_=>[]
def eD(t:Fl):Option At:=if t.k=2 then(if ax t.i then some (.int t.i)else none)else if t.k=3 then some (.real (aw t.b.toNat))else if t.k=4 then(if t.t.length≤65536 then some (.str t.t)else none)else none
def cX:List Fl→Option (List At)
 |[]=>some []
 |t::l=>match eD t with|none=>none|some a=>(cX l).map (a:: ·)
def bZ:List (List UInt8):=[[43],[45],[42],[126],[97,98,115],[60],[60,61],[62],[62,61],[100,105,118],[109,111,100],[113,117,111,116],[114,101,109],[47],[102,108,111,111,114],[99,101,105,108],[116,114,117,110,99],[114,111,117,110,100],[114,101,97,108],[115,97,109,101],[105,115,78,97,110],[114,101,97,108,84,101,120,116],[105,110,116,84,101,120,116],[111,114,100],[99,104,114],[94],[115,105,122,101],[115,117,98],[115,117,98,115,116,114,105,110,103],[115,116,114],[61],[60,62]]
def dK(S:List UInt8)(c:Int):Bool:=if S=[60]then c== -1 else if S=[60,61]then(c== -1||c==0)else if S=[62]then c==1 else(c==1||c==0)
def fg(S:List UInt8)(a b:Int):eo:=
 if S=[43]then aX (yz a b)else if S=[45]then aX (qp a b)else if S=[42]then aX (yA a b)else if S=[100,105,118]then aX (vr a b)else if S=[109,111,100]then aX (xt a b)
 else if S=[113,117,111,116]then aX (nU a b)else if S=[114,101,109]then aX (ui a b)else aE (dK S (yB a b))
def b0(l:List At):At:=l.getD 0 (.int 0)
def b1(l:List At):At:=l.getD 1 (.int 0)
def b2(l:List At):At:=l.getD 2 (.int 0)
def yx(S:List UInt8)(l:List At):eo:=if l.length=1∧(b0 l).isInt=true then(if S=[126]then aX (nJ (b0 l).i)else aX (nK (b0 l).i))else .no
def kO(S:List UInt8)(u:Nat):eo:=
 if S=[126]then .real (aw (qk u))else if S=[97,98,115]then .real (aw (aw (fZ u)))else if S=[102,108,111,111,114]then aX (lg .down u)else if S=[99,101,105,108]then aX (lg .up u)
 else if S=[116,114,117,110,99]then aX (lg .zero u)else if S=[114,111,117,110,100]then aX (lg .even u)else if S=[105,115,78,97,110]then aE (co u==0)else .str (gT u)
def go(S:List UInt8)(u v:Nat):eo:=
 if S=[43]then .real (aw (lU (Ieee.double.add u v)))else if S=[45]then .real (aw (lU (Ieee.double.sub u v)))else if S=[42]then .real (aw (lU (Ieee.double.mul u v)))else if S=[47]then .real (aw (lU (Ieee.double.div u v)))
 else if S=[115,97,109,101]then aE (gw u v==0)else aE (dK S (gw u v))
def bH(S:List UInt8)(l:List At):eo:=if l.all At.isReal then(if l.length=2 then go S (b0 l).b (b1 l).b else kO S (b0 l).b)else .no
def nF(con:Int)(S:List UInt8)(l:List At):eo:=
 if con=2∧(b0 l).isInt=true∧(b1 l).isInt=true then fg S (b0 l).i (b1 l).i
 else if con=3∧(b0 l).isStr=true∧(b1 l).isStr=true then aE (dK S (kR (b0 l).t (b1 l).t))
 else .no
def bR(S:List UInt8)(a b:At):eo:=
 if a.isInt&&b.isInt then aE ((a.i==b.i)==decide (S=[61]))else if a.isStr&&b.isStr then aE (decide (a.t=b.t)==decide (S=[61]))else .no
def bB(S:List UInt8)(l:List At):eo:=
 let Qt:=(b0 l).isInt&&decide (0≤(b0 l).i)&&decide ((b0 l).i≤255)
 if S=[114,101,97,108]∧(b0 l).isInt=true then .real (aw (Bc (b0 l).i))
 else if S=[105,110,116,84,101,120,116]∧(b0 l).isInt=true then .str (qq (b0 l).i)
 else if(S=[111,114,100]∨S=[115,116,114])∧Qt=true then(if S=[111,114,100]then .int (b0 l).i else .str [UInt8.ofNat (b0 l).i.toNat])
 else if S=[99,104,114]∧(b0 l).isInt=true then(if Qt then .int (b0 l).i else .raise 2)
 else if S=[94]∧(b0 l).isStr=true∧(b1 l).isStr=true then GJ (b0 l).t (b1 l).t
 else if S=[115,105,122,101]∧(b0 l).isStr=true then .int ((b0 l).t.length:Int)
 else if S=[115,117,98]∧(b0 l).isStr=true∧(b1 l).isInt=true then GK (b0 l).t (b1 l).i
 else if S=[115,117,98,115,116,114,105,110,103]∧(b0 l).isStr=true∧(b1 l).isInt=true∧(b2 l).isInt=true then GL (b0 l).t (b1 l).i (b2 l).i
 else .no
def ft(con:Int)(S:List UInt8)(l:List At):eo:=if con=0∨S=[100,105,118]∨S=[109,111,100]∨S=[113,117,111,116]∨S=[114,101,109]then fg S (b0 l).i (b1 l).i else .no
def aC(p:Pr)(l:List At):eo:=
 if l.length=2∧(b0 l).isInt=true∧(b1 l).isInt=true∧p.con≤0∧p.nm≠[61]∧p.nm≠[60,62]∧p.nm≠[97,114,114,97,121]then ft p.con p.nm l
 else if p.con=0 then yx p.nm l
 else if p.con=1 then bH p.nm l
 else if p.con=2∨p.con=3 then nF p.con p.nm l
 else if p.nm=[61]∨p.nm=[60,62]then bR p.nm (b0 l) (b1 l)
 else if p.nm∈([[47],[115,97,109,101],[102,108,111,111,114],[99,101,105,108],[116,114,117,110,99],[114,111,117,110,100],[105,115,78,97,110],[114,101,97,108,84,101,120,116]]:List (List UInt8))then bH p.nm l
 else if p.nm∈([[114,101,97,108],[105,110,116,84,101,120,116],[105,110,116,83,99,97,110],[114,101,97,108,83,99,97,110],[111,114,100],[99,104,114],[94],[115,105,122,101],[115,117,98],[115,117,98,115,116,114,105,110,103],[115,116,114]]:List (List UInt8))then bB p.nm l
 else .no
def js(p:Pr)(l:List Fl):eo:=
 if p.nm∉bZ∨(l.length:Int)≠p.args then .no
 else match cX l with
  |none=> .no
  |some cR=>aC p cR
set_option maxHeartbeats 8000000
theorem gO(t:Fl):(eD t=none∧qr t 2=false∧qr t 3=false∧qr t 4=false)∨(eD t=some (.int t.i)∧qr t 2=true∧qr t 3=false∧qr t 4=false)∨
 (eD t=some (.real (aw t.b.toNat))∧qr t 2=false∧qr t 3=true∧qr t 4=false)∨(eD t=some (.str t.t)∧qr t 2=false∧qr t 3=false∧qr t 4=true):=by
 unfold eD qr
 by_cases h2:t.k=2
 ·cases hr:ax t.i<;>simp [h2]
 ·by_cases h3:t.k=3
  ·simp [h3]
  ·by_cases h4:t.k=4
   ·by_cases hl:t.t.length≤65536<;>simp [h4,hl]
   ·simp [h2,h3,h4]
theorem eS(u:Nat):(cap<rg u∧cap<rg (aw u))∨aw u=u:=by
 by_cases h:cap<rg u
 ·exact .inl ⟨h,by rw [fY h];exact wz⟩
 ·exact .inr (tJ (by omega))
theorem pZ(ch:Ieee.Toward)(u:Nat):lg ch (aw u)=lg ch u:=by
 rcases eS u with⟨h1,h2⟩|h
 ·rw [show lg ch (aw u)=(0,20)from zh h2,show lg ch u=(0,20)from zh h1]
 ·rw [h]
theorem BR(u:Nat):co (aw u)=co u:=by
 rcases eS u with⟨h1,h2⟩|h
 ·rw [show co (aw u)=0 from zh h2,show co u=0 from zh h1]
 ·rw [h]
theorem Hs(u:Nat):gT (aw u)=gT u:=by
 rcases eS u with⟨h1,h2⟩|h
 ·unfold gT;rw [zh h2,zh h1]
 ·rw [h]
theorem Ph(u:Nat):aw (qk (aw u))=aw (wT u):=by
 rcases eS u with⟨h1,h2⟩|h
 ·rw [show qk (aw u)=9221120237041090560 from zh h2,show wT u=u from zh h1,fY h1,fY wz]
 ·rw [h,R_]
theorem Pi(u:Nat):aw (aw (fZ (aw u)))=aw (Dx u):=by
 rw [Dc];rfl
theorem Ht(u v:Nat):gw (aw u) (aw v)=gw u v:=by
 rcases eS u with⟨h1,h2⟩|h
 ·rw [show gw u v=2 from zh (.inl h1),show gw (aw u) (aw v)=2 from zh (.inl h2)]
 ·rw [h]
  rcases eS v with⟨h1,h2⟩|h'
  ·rw [show gw u v=2 from zh (.inr h1),show gw u (aw v)=2 from zh (.inr h2)]
  ·rw [h']
theorem sM{f:Nat→Nat→Option Nat}(hf: ∀u v,cap<rg u∨cap<rg v→f u v=none)(u v:Nat):f (aw u) (aw v)=f u v:=by
 rcases eS u with⟨h1,h2⟩|h
 ·rw [hf u v (.inl h1),hf _ _ (.inl h2)]
 ·rw [h]
  rcases eS v with⟨h1,h2⟩|h'
  ·rw [hf u v (.inr h1),hf _ _ (.inr h2)]
  ·rw [h']
theorem YA{u v:Nat}(h:cap<rg u∨cap<rg v):Ieee.double.sub u v=none:=by
 unfold Ieee.Format.sub
 rcases h with h|h
 ·rw [fb h];cases Ieee.double.read v<;>rfl
 ·rw [fb h];cases Ieee.double.read u<;>rfl
theorem Pj(u v:Nat):Ieee.double.add (aw u) (aw v)=Ieee.double.add u v:=sM (fun _ _ h=>vD h) u v
theorem Pk(u v:Nat):Ieee.double.sub (aw u) (aw v)=Ieee.double.sub u v:=sM (fun _ _ h=>YA h) u v
theorem Pn(u v:Nat):Ieee.double.mul (aw u) (aw v)=Ieee.double.mul u v:=sM (fun _ _ h=>A6 h) u v
theorem Po(u v:Nat):Ieee.double.div (aw u) (aw v)=Ieee.double.div u v:=sM (fun _ _ h=>A_ h) u v
theorem rF(S:List UInt8)(u:Nat):kO S (aw u)=DR S u:=by
 unfold kO DR;rw [Ph,Pi,pZ,pZ,pZ,pZ,BR,Hs]
theorem Hu(S:List UInt8)(u v:Nat)(ord:Int→Bool)(h:S=[43]∨S=[45]∨S=[42]∨S=[47]∨S=[115,97,109,101]∨dK S (gw u v)=ord (gw u v)):go S (aw u) (aw v)=Ao S u v ord:=by
 unfold go Ao;rw [Pj,Pk,Pn,Po,Ht]
 rcases h with h|h|h|h|h|h
 ·subst h;rfl
 ·subst h;rfl
 ·subst h;rfl
 ·subst h;rfl
 ·subst h;rfl
 ·rw [h]
theorem Es(S:List UInt8)(c:Int)(h:S=[60]∨S=[60,61]∨S=[62]∨S=[62,61]):ck S c=dK S c:=by
 rcases h with rfl|rfl|rfl|rfl<;>simp [ck,dK]
theorem Pp{p:Pr}{l:List Fl}(h:(l.length:Int)≠p.args):mK p l=js p l:=by
 unfold mK js;rw [zh h,zh (.inr h)]
theorem agc(p:Pr)(hp:p∈ao)(hn:p.args=1)(x:Fl):mK p [x]=js p [x]:=by
 simp only [ao,dS,ej,nD,ZJ,zx,zD,Zo]at hp
 rcases gO x with⟨c,k2,k3,k4⟩|⟨c,k2,k3,k4⟩|⟨c,k2,k3,k4⟩|⟨c,k2,k3,k4⟩
 all_goals
  repeat' (rcases hp with hp|hp)
  all_goals
   try subst hp
   first
    |(exfalso;revert hn;decide)
    |simp [mK,js,bZ,cX,c,jr,dm,lK,oU,lJ,aW,k2,k3,k4,aC,ft,yx,bH,nF,bR,bB,a0,a1,a2,b0,b1,b2,At.isInt,At.isStr,At.isReal,At.i,At.b,At.t,rF]
theorem Et(S:List UInt8)(u v:Nat)(h:S∈([[43],[45],[42],[47],[115,97,109,101],[60],[60,61],[62],[62,61]]:List (List UInt8))):go S (aw u) (aw v)=Ao S u v (ck S):=by
 simp only [zx,zD,Zo]at h;refine Hu S u v (ck S) ?_
 rcases h with h|h|h|h|h|h
 ·exact .inl h
 ·exact .inr (.inl h)
 ·exact .inr (.inr (.inl h))
 ·exact .inr (.inr (.inr (.inl h)))
 ·exact .inr (.inr (.inr (.inr (.inl h))))
 ·exact .inr (.inr (.inr (.inr (.inr (Es S _ h).symm))))
theorem agd(p:Pr)(hp:p∈ao)(hn:p.args=2)(x y:Fl):mK p [x,y]=js p [x,y]:=by
 simp only [ao,dS,ej,nD,ZJ,zx,zD,Zo]at hp
 rcases gO x with⟨c,k2,k3,k4⟩|⟨c,k2,k3,k4⟩|⟨c,k2,k3,k4⟩|⟨c,k2,k3,k4⟩<;>rcases gO y with⟨d,l2,l3,l4⟩|⟨d,l2,l3,l4⟩|⟨d,l2,l3,l4⟩|⟨d,l2,l3,l4⟩
 all_goals
  repeat' (rcases hp with hp|hp)
  all_goals
   first
    |(exfalso;revert hn;decide)
    |simp [mK,js,bZ,cX,c,d,jr,dm,lK,oU,lJ,aW,k2,k3,k4,l2,l3,l4,aC,ft,yx,bH,nF,bR,bB,fg,ck,dK,a0,a1,a2,b0,b1,b2,At.isInt,At.isStr,At.isReal,At.i,At.b,At.t,rF,Et]
theorem age(p:Pr)(hp:p∈ao)(hn:p.args=3)(x y z:Fl):mK p [x,y,z]=js p [x,y,z]:=by
 simp only [ao,dS,ej,nD,ZJ,zx,zD,Zo]at hp
 repeat' (rcases hp with hp|hp)
 all_goals
  first
   |(exfalso;revert hn;decide)
   |(rcases gO x with⟨c,k2,k3,k4⟩|⟨c,k2,k3,k4⟩|⟨c,k2,k3,k4⟩|⟨c,k2,k3,k4⟩<;>rcases gO y with⟨d,l2,l3,l4⟩|⟨d,l2,l3,l4⟩|⟨d,l2,l3,l4⟩|⟨d,l2,l3,l4⟩<;>rcases gO z with⟨e,m2,m3,m4⟩|⟨e,m2,m3,m4⟩|⟨e,m2,m3,m4⟩|⟨e,m2,m3,m4⟩<;>simp [mK,js,bZ,cX,c,d,e,jr,dm,lK,oU,lJ,aW,k2,k3,k4,l2,l3,l4,m2,m3,m4,aC,ft,yx,bH,nF,bR,bB,fg,ck,dK,a0,a1,a2,b0,b1,b2,At.isInt,At.isStr,At.isReal,At.i,At.b,At.t,rF,Et])
theorem Pq(p:Pr)(hp:p∈ao)(l:List Fl):mK p l=js p l:=by
 by_cases h:(l.length:Int)=p.args
 ·have VS: ∀q∈ao,q.args=1∨q.args=2∨q.args=3:=by decide
  rcases VS p hp with h1|h1|h1
  ·rw [h1]at h
   match l,h with
   |[x],_=>exact agc p hp h1 x
   |[],h=>simp at h
   |_::_::_,h=>simp at h;omega
  ·rw [h1]at h
   match l,h with
   |[x,y],_=>exact agd p hp h1 x y
   |[],h=>simp at h
   |[_],h=>simp at h
   |_::_::_::_,h=>simp at h;omega
  ·rw [h1]at h
   match l,h with
   |[x,y,z],_=>exact age p hp h1 x y z
   |[],h=>simp at h
   |[_],h=>simp at h
   |[_,_],h=>simp at h
   |_::_::_::_::_,h=>simp at h;omega
 ·exact Pp h
set_option maxHeartbeats 4000000
def rk:eo→Int| .no=>0| .raise _=>0| .int _=>2| .real _=>3| .str _=>4
def ri:eo→Int| .int n=>n|_=>0
def rb:eo→Int| .real b=>(b:Int)|_=>0
def rt:eo→List UInt8| .str s=>s|_=>[]
def rc:eo→Int| .raise c=>c|_=>0
def ro:eo→Bool| .no=>false|_=>true
end ShrM
namespace Go.Proofs.YtcpmiplofbfmfaaGreatDoor
open Go.Proofs.Tryz
open Go.Lib renaming hid→J
open Go.RowKit LamM CpsM FloM ShrM
abbrev agb(r:eo):Array Value:= #[.int .i64 (rk r), .int .i64 0, .int .i64 0, .int .i64 (ri r), .int .u64 (rb r), .string ⟨(rt r).toArray⟩, .slice none 0 0, .slice none 0 0, .slice none 0 0, .int .i64 (rc r), .bool (ro r)]
abbrev bC:Array Value:= #[.int .i64 0, .int .i64 0, .int .i64 0, .int .i64 0, .int .u64 0, .string ⟨#[]⟩, .slice none 0 0, .slice none 0 0, .slice none 0 0, .int .i64 0, .bool false]
abbrev eM(r:eo):Value:= .agg (agb r)
def aq(r:eo)(w:World)(e:Ending)(w':World):Prop:=e= .returned (eM r)∧Below w.heap.size w w'
def cD(w:World)(g:Nat)(r:eo):World:=((((((((((w.setCell ⟨g,0,none⟩ (.int .i64 (rk r))).setCell ⟨g,1,none⟩ (.int .i64 0)).setCell ⟨g,2,none⟩ (.int .i64 0)).setCell ⟨g,3,none⟩ (.int .i64 (ri r))).setCell ⟨g,4,none⟩ (.int .u64 (rb r))).setCell ⟨g,5,none⟩ (.string ⟨(rt r).toArray⟩)).setCell ⟨g,6,none⟩ (.slice none 0 0)).setCell ⟨g,7,none⟩ (.slice none 0 0)).setCell ⟨g,8,none⟩ (.slice none 0 0)).setCell ⟨g,9,none⟩ (.int .i64 (rc r))).setCell ⟨g,10,none⟩ (.bool (ro r))
section
variable {w w0:World} {g:Nat} {t:TypeId}
theorem ah{v0 v1 v2 v3 v4 v5 v6 v7 v8 v9 v10:Value}(h:ai w g t #[v0,v1,v2,v3,v4,v5,v6,v7,v8,v9,v10]):w.cell? ⟨g,0,none⟩=some v0∧w.cell? ⟨g,1,none⟩=some v1∧w.cell? ⟨g,2,none⟩=some v2∧w.cell? ⟨g,3,none⟩=some v3∧w.cell? ⟨g,4,none⟩=some v4∧w.cell? ⟨g,5,none⟩=some v5∧w.cell? ⟨g,6,none⟩=some v6∧w.cell? ⟨g,7,none⟩=some v7∧w.cell? ⟨g,8,none⟩=some v8∧w.cell? ⟨g,9,none⟩=some v9∧w.cell? ⟨g,10,none⟩=some v10:=
 ⟨h.cell 0,h.cell 1,h.cell 2,h.cell 3,h.cell 4,h.cell 5,h.cell 6,h.cell 7,h.cell 8,h.cell 9,h.cell 10⟩
theorem aO{cs:Array Value}(h:ai w g t cs):w.frozen? ⟨g,0,none⟩=false∧w.frozen? ⟨g,1,none⟩=false∧w.frozen? ⟨g,2,none⟩=false∧w.frozen? ⟨g,3,none⟩=false∧w.frozen? ⟨g,4,none⟩=false∧w.frozen? ⟨g,5,none⟩=false∧w.frozen? ⟨g,6,none⟩=false∧w.frozen? ⟨g,7,none⟩=false∧w.frozen? ⟨g,8,none⟩=false∧w.frozen? ⟨g,9,none⟩=false∧w.frozen? ⟨g,10,none⟩=false:=
 ⟨h.frozen 0,h.frozen 1,h.frozen 2,h.frozen 3,h.frozen 4,h.frozen 5,h.frozen 6,h.frozen 7,h.frozen 8,h.frozen 9,h.frozen 10⟩
theorem aK{r:eo}{v0 v1 v2 v3 v4 v5 v6 v7 v8 v9 v10:Value}(h:ai w g t #[v0,v1,v2,v3,v4,v5,v6,v7,v8,v9,v10]):ai (cD w g r) g t (agb r):=by
 have h1:=((((((((((h.set_ 0 (.int .i64 (rk r))).set_ 1 (.int .i64 0)).set_ 2 (.int .i64 0)).set_ 3 (.int .i64 (ri r))).set_ 4 (.int .u64 (rb r))).set_ 5 (.string ⟨(rt r).toArray⟩)).set_ 6 (.slice none 0 0)).set_ 7 (.slice none 0 0)).set_ 8 (.slice none 0 0)).set_ 9 (.int .i64 (rc r))).set_ 10 (.bool (ro r));simp only [List.setIfInBounds_toArray,List.set_cons_zero,List.set_cons_succ]at h1;exact h1
theorem au{r:eo}(h:Below w0.heap.size w0 w)(hg:w0.heap.size≤g):Below w0.heap.size w0 (cD w g r):=
 ((((((((((h.setCell (p:=⟨g,0,none⟩) hg _).setCell (p:=⟨g,1,none⟩) hg _).setCell (p:=⟨g,2,none⟩) hg _).setCell (p:=⟨g,3,none⟩) hg _).setCell (p:=⟨g,4,none⟩) hg _).setCell (p:=⟨g,5,none⟩) hg _).setCell (p:=⟨g,6,none⟩) hg _).setCell (p:=⟨g,7,none⟩) hg _).setCell (p:=⟨g,8,none⟩) hg _).setCell (p:=⟨g,9,none⟩) hg _).setCell (p:=⟨g,10,none⟩) hg _
end
theorem kS(n:Int)(w:World):Calls prog 73 #[.int .i64 n] w (aq (.int n) w):=by
 unfold aq;go_enter func73,ntmps73;go_wp2_with fail;refine zi (v:= .agg #[.int .i64 2, .int .i64 0, .int .i64 0, .int .i64 n, .int .u64 0, .string ⟨#[]⟩, .slice none 0 0, .slice none 0 0, .slice none 0 0, .int .i64 0, .bool true]) (by simp [results,results73,go_sem]) rfl ⟨rfl,?_⟩
 repeat (first|exact(zg _ _).alloc (za _) _|refine Z8 ?_ (by simp) _)
theorem mO(s:List UInt8)(w:World):Calls prog 42 #[.string ⟨s.toArray⟩] w (aq (.str s) w):=by
 unfold aq;go_enter func42,ntmps42;go_wp2_with fail;refine zi (v:= .agg #[.int .i64 4, .int .i64 0, .int .i64 0, .int .i64 0, .int .u64 0, .string ⟨s.toArray⟩, .slice none 0 0, .slice none 0 0, .slice none 0 0, .int .i64 0, .bool true]) (by simp [results,results42,go_sem]) rfl ⟨rfl,?_⟩
 repeat (first|exact(zg _ _).alloc (za _) _|refine Z8 ?_ (by simp) _)
theorem pY(b:Bool)(w:World):Calls prog 40 #[.bool b] w (aq (aE b) w):=by
 have HN:=J (fun n w=>kS n w)
 unfold aq aE at *
 cases b
 have fD:=J (rfl:0=0)
 rotate_left;have Vk:=J (rfl:0=0)
 all_goals
  go_enter func40,ntmps40;go_wp2_with (go_at_call 73;(((first|replace fD:=fD;with_reducible refine(HN.out 0 _).mono ?_|replace Vk:=Vk;with_reducible refine(HN.out 1 _).mono ?_));rintro e w1 ⟨rfl,hb⟩;have BX:=J ((ai.new w 38 bC).below hb (by simp));have HB:=J (((zg w.heap.size w).alloc (za _) (.cells bC 38)).trans (hb.mono (by simp)));obtain⟨c0,c1,c2,c3,c4,c5,c6,c7,c8,c9,c10⟩:=ah BX.out;obtain⟨f0,f1,f2,f3,f4,f5,f6,f7,f8,f9,ox⟩:=aO BX.out;clear hb))
  first
   |replace fD:=fD
    obtain⟨z0,z1,z2,z3,z4,z5,z6,z7,z8,z9,cF⟩:=ah (aK (r:= .int 0) BX.out)
   |obtain⟨z0,z1,z2,z3,z4,z5,z6,z7,z8,z9,cF⟩:=ah (aK (r:= .int 1) BX.out)
  unfold cD at z0 z1 z2 z3 z4 z5 z6 z7 z8 z9 cF
  first
   |replace fD:=fD
    refine zi (v:=eM (.int 0)) (by simp [results,results40,go_sem,z0,z1,z2,z3,z4,z5,z6,z7,z8,z9,cF]) rfl ⟨rfl,au HB.out (za _)⟩
   |refine zi (v:=eM (.int 1)) (by simp [results,results40,go_sem,z0,z1,z2,z3,z4,z5,z6,z7,z8,z9,cF]) rfl ⟨rfl,au HB.out (za _)⟩
theorem kT(s:List UInt8)(w:World):Calls prog 50 #[.string ⟨s.toArray⟩] w fun e w'=>e= .returned (.bool (decide (s.length≤65536)))∧w=w':=by
 have hs:=eA s
 by_cases h:s.length≤65536
 focus
  have q:decide ((s.length:Int)≤65536)=true:=zc (by omega)
  rw [zc h]
 rotate_left
 focus
  have q:decide ((s.length:Int)≤65536)=false:=zb (by omega)
  rw [zb h]
 all_goals
  go_enter func50,ntmps50;go_wp2_with fail;go_ret;exact⟨rfl,rfl⟩
theorem Em(a b:Int)(w:World):Calls prog 12 #[.int .i64 a, .int .i64 b] w fun e w'=>e= .returned (.int .i64 (yB a b))∧w=w':=by
 unfold yB
 by_cases h1:a<b
 focus
  rw [zh h1];have q1:=zc h1;clear h1
 rotate_left
 focus
  rw [ze h1];have q1:=zb h1
  by_cases h2:b<a
  focus
   rw [zh h2];have q2:=zc h2
  rotate_left
  focus
   rw [ze h2];have q2:=zb h2
  all_goals
   clear h1 h2
 all_goals
  go_enter func12,ntmps12;go_wp2_with fail;go_ret;exact⟨rfl,rfl⟩
theorem iX(n e:Int)(w:World):Calls prog 22 #[.int .i64 n, .int .i64 e] w (aq (aX (n,e)) w):=by
 have HN:=J (fun n w=>kS n w)
 unfold aq aX at *
 by_cases h0:e=0
 ·subst h0
  rw [zh rfl];go_enter func22,ntmps22;go_wp2_with (go_at_call 73;(with_reducible refine(HN.out n _).mono ?_);rintro e w1 ⟨rfl,hb⟩;have BX:=J ((ai.new w 38 bC).below hb (by simp));have HB:=J (((zg w.heap.size w).alloc (za _) (.cells bC 38)).trans (hb.mono (by simp)));obtain⟨c0,c1,c2,c3,c4,c5,c6,c7,c8,c9,c10⟩:=ah BX.out;obtain⟨f0,f1,f2,f3,f4,f5,f6,f7,f8,f9,ox⟩:=aO BX.out;clear hb)
  obtain⟨z0,z1,z2,z3,z4,z5,z6,z7,z8,z9,cF⟩:=ah (aK (r:= .int n) BX.out);unfold cD at z0 z1 z2 z3 z4 z5 z6 z7 z8 z9 cF;refine zi (v:=eM (.int n)) (by simp [results,results22,go_sem,z0,z1,z2,z3,z4,z5,z6,z7,z8,z9,cF]) rfl ⟨rfl,au HB.out (za _)⟩
 ·rw [ze h0]
  have q0:(e==0)=false:=ag h0
  by_cases h1:e=11
  focus
   subst h1;rw [zh rfl];clear q0 h0;go_enter func22,ntmps22;go_wp2_with fail;refine zi (v:= .agg #[.int .i64 0, .int .i64 0, .int .i64 0, .int .i64 0, .int .u64 0, .string ⟨#[]⟩, .slice none 0 0, .slice none 0 0, .slice none 0 0, .int .i64 3, .bool true]) (by simp [results,results22,go_sem]) rfl ⟨rfl,?_⟩
  rotate_left
  focus
   rw [ze h1];have q1:(e==11)=false:=ag h1
   by_cases h2:e=20
   focus
    subst h2;rw [zh rfl];clear q0 h0 q1 h1;go_enter func22,ntmps22;go_wp2_with fail;refine zi (v:= .agg #[.int .i64 0, .int .i64 0, .int .i64 0, .int .i64 0, .int .u64 0, .string ⟨#[]⟩, .slice none 0 0, .slice none 0 0, .slice none 0 0, .int .i64 4, .bool true]) (by simp [results,results22,go_sem]) rfl ⟨rfl,?_⟩
   rotate_left
   focus
    rw [ze h2];have q2:(e==20)=false:=ag h2;go_enter func22,ntmps22;go_wp2_with fail;refine zi (v:= .agg #[.int .i64 0, .int .i64 0, .int .i64 0, .int .i64 0, .int .u64 0, .string ⟨#[]⟩, .slice none 0 0, .slice none 0 0, .slice none 0 0, .int .i64 6, .bool true]) (by simp [results,results22,go_sem]) rfl ⟨rfl,?_⟩
  all_goals
   repeat (first|exact(zg _ _).alloc (za _) _|refine Z8 ?_ (by simp) _)
theorem iY(x:Nat)(w:World):Calls prog 33 #[.float .f64 x] w (aq (.real (aw x)) w):=by
 have HN:=J (fun w=>il x w)
 unfold aq;generalize aw x=c at *;go_enter func33,ntmps33;go_wp2_with (go_at_call 81;(with_reducible refine(HN.out _).q ?_));refine zi (v:= .agg #[.int .i64 3, .int .i64 0, .int .i64 0, .int .i64 0, .int .u64 (c:Int), .string ⟨#[]⟩, .slice none 0 0, .slice none 0 0, .slice none 0 0, .int .i64 0, .bool true]) (by simp [results,results33,go_sem]) rfl ⟨rfl,?_⟩
 repeat (first|exact(zg _ _).alloc (za _) _|refine Z8 ?_ (by simp) _)
theorem ul(S:List UInt8)(c:Int)(w:World):Calls prog 11 #[.string ⟨S.toArray⟩, .int .i64 c] w (aq (aE (ck S c)) w):=by
 have HT:=J (fun b w=>pY b w)
 obtain⟨x,hx⟩: ∃x,ck S c=x:=⟨_,rfl⟩;rw [hx];unfold aq at *
 by_cases h1:S=[60]
 ·subst h1
  cases q1:(c== -1)
  have nZ:=J (rfl:0=0)
  rotate_left;have g1b:=J (rfl:0=0)
  all_goals
   first
    |replace nZ:=nZ
     have e:x=false:=by rw [←hx];simp [ck,q1]
    |have e:x=true:=by rw [←hx];simp [ck,q1]
   subst e;clear hx;go_enter func11,ntmps11;go_wp2_with (go_at_call 40;(((first|replace nZ:=nZ;with_reducible refine(HT.out false _).mono ?_|replace g1b:=g1b;with_reducible refine(HT.out true _).mono ?_));rintro e w1 ⟨rfl,hb⟩;have BX:=J ((ai.new w 38 bC).below hb (by simp));have HB:=J (((zg w.heap.size w).alloc (za _) (.cells bC 38)).trans (hb.mono (by simp)));obtain⟨c0,c1,c2,c3,c4,c5,c6,c7,c8,c9,c10⟩:=ah BX.out;obtain⟨f0,f1,f2,f3,f4,f5,f6,f7,f8,f9,ox⟩:=aO BX.out;clear hb))
   first
    |replace nZ:=nZ
     obtain⟨z0,z1,z2,z3,z4,z5,z6,z7,z8,z9,cF⟩:=ah (aK (r:=aE false) BX.out)
    |obtain⟨z0,z1,z2,z3,z4,z5,z6,z7,z8,z9,cF⟩:=ah (aK (r:=aE true) BX.out)
   unfold cD at z0 z1 z2 z3 z4 z5 z6 z7 z8 z9 cF
   first
    |replace nZ:=nZ
     refine zi (v:=eM (aE false)) (by simp [results,results11,go_sem,z0,z1,z2,z3,z4,z5,z6,z7,z8,z9,cF]) rfl ⟨rfl,au HB.out (za _)⟩
    |refine zi (v:=eM (aE true)) (by simp [results,results11,go_sem,z0,z1,z2,z3,z4,z5,z6,z7,z8,z9,cF]) rfl ⟨rfl,au HB.out (za _)⟩
 by_cases h2:S=[60,61]
 ·subst h2
  clear h1
  cases q1:(c== -1)
  ·cases q2:(c==0)
   have mz:=J (rfl:0=0)
   rotate_left;have g1c:=J (rfl:0=0)
   all_goals
    first
     |replace mz:=mz
      have e:x=false:=by rw [←hx];simp [ck,q1,q2]
     |have e:x=true:=by rw [←hx];simp [ck,q1,q2]
    subst e;clear hx;go_enter func11,ntmps11;go_wp2_with (go_at_call 40;(((first|replace mz:=mz;with_reducible refine(HT.out false _).mono ?_|replace g1c:=g1c;with_reducible refine(HT.out true _).mono ?_));rintro e w1 ⟨rfl,hb⟩;have BX:=J ((ai.new w 38 bC).below hb (by simp));have HB:=J (((zg w.heap.size w).alloc (za _) (.cells bC 38)).trans (hb.mono (by simp)));obtain⟨c0,c1,c2,c3,c4,c5,c6,c7,c8,c9,c10⟩:=ah BX.out;obtain⟨f0,f1,f2,f3,f4,f5,f6,f7,f8,f9,ox⟩:=aO BX.out;clear hb))
    first
     |replace mz:=mz
      obtain⟨z0,z1,z2,z3,z4,z5,z6,z7,z8,z9,cF⟩:=ah (aK (r:=aE false) BX.out)
     |obtain⟨z0,z1,z2,z3,z4,z5,z6,z7,z8,z9,cF⟩:=ah (aK (r:=aE true) BX.out)
    unfold cD at z0 z1 z2 z3 z4 z5 z6 z7 z8 z9 cF
    first
     |replace mz:=mz
      refine zi (v:=eM (aE false)) (by simp [results,results11,go_sem,z0,z1,z2,z3,z4,z5,z6,z7,z8,z9,cF]) rfl ⟨rfl,au HB.out (za _)⟩
     |refine zi (v:=eM (aE true)) (by simp [results,results11,go_sem,z0,z1,z2,z3,z4,z5,z6,z7,z8,z9,cF]) rfl ⟨rfl,au HB.out (za _)⟩
  ·have e:x=true:=by rw [←hx];simp [ck,q1]
   subst e;clear hx;go_enter func11,ntmps11;go_wp2_with (go_at_call 40;(with_reducible refine(HT.out true _).mono ?_);rintro e w1 ⟨rfl,hb⟩;have BX:=J ((ai.new w 38 bC).below hb (by simp));have HB:=J (((zg w.heap.size w).alloc (za _) (.cells bC 38)).trans (hb.mono (by simp)));obtain⟨c0,c1,c2,c3,c4,c5,c6,c7,c8,c9,c10⟩:=ah BX.out;obtain⟨f0,f1,f2,f3,f4,f5,f6,f7,f8,f9,ox⟩:=aO BX.out;clear hb)
   obtain⟨z0,z1,z2,z3,z4,z5,z6,z7,z8,z9,cF⟩:=ah (aK (r:=aE true) BX.out);unfold cD at z0 z1 z2 z3 z4 z5 z6 z7 z8 z9 cF;refine zi (v:=eM (aE true)) (by simp [results,results11,go_sem,z0,z1,z2,z3,z4,z5,z6,z7,z8,z9,cF]) rfl ⟨rfl,au HB.out (za _)⟩
 by_cases h3:S=[62]
 ·subst h3
  clear h1 h2
  cases q1:(c==1)
  have nZ:=J (rfl:0=0)
  rotate_left;have g1b:=J (rfl:0=0)
  all_goals
   first
    |replace nZ:=nZ
     have e:x=false:=by rw [←hx];simp [ck,q1]
    |have e:x=true:=by rw [←hx];simp [ck,q1]
   subst e;clear hx;go_enter func11,ntmps11;go_wp2_with (go_at_call 40;(((first|replace nZ:=nZ;with_reducible refine(HT.out false _).mono ?_|replace g1b:=g1b;with_reducible refine(HT.out true _).mono ?_));rintro e w1 ⟨rfl,hb⟩;have BX:=J ((ai.new w 38 bC).below hb (by simp));have HB:=J (((zg w.heap.size w).alloc (za _) (.cells bC 38)).trans (hb.mono (by simp)));obtain⟨c0,c1,c2,c3,c4,c5,c6,c7,c8,c9,c10⟩:=ah BX.out;obtain⟨f0,f1,f2,f3,f4,f5,f6,f7,f8,f9,ox⟩:=aO BX.out;clear hb))
   first
    |replace nZ:=nZ
     obtain⟨z0,z1,z2,z3,z4,z5,z6,z7,z8,z9,cF⟩:=ah (aK (r:=aE false) BX.out)
    |obtain⟨z0,z1,z2,z3,z4,z5,z6,z7,z8,z9,cF⟩:=ah (aK (r:=aE true) BX.out)
   unfold cD at z0 z1 z2 z3 z4 z5 z6 z7 z8 z9 cF
   first
    |replace nZ:=nZ
     refine zi (v:=eM (aE false)) (by simp [results,results11,go_sem,z0,z1,z2,z3,z4,z5,z6,z7,z8,z9,cF]) rfl ⟨rfl,au HB.out (za _)⟩
    |refine zi (v:=eM (aE true)) (by simp [results,results11,go_sem,z0,z1,z2,z3,z4,z5,z6,z7,z8,z9,cF]) rfl ⟨rfl,au HB.out (za _)⟩
 by_cases h4:S=[62,61]
 ·subst h4
  clear h1 h2 h3
  cases q1:(c==1)
  ·cases q2:(c==0)
   have mz:=J (rfl:0=0)
   rotate_left;have g1c:=J (rfl:0=0)
   all_goals
    first
     |replace mz:=mz
      have e:x=false:=by rw [←hx];simp [ck,q1,q2]
     |have e:x=true:=by rw [←hx];simp [ck,q1,q2]
    subst e;clear hx;go_enter func11,ntmps11;go_wp2_with (go_at_call 40;(((first|replace mz:=mz;with_reducible refine(HT.out false _).mono ?_|replace g1c:=g1c;with_reducible refine(HT.out true _).mono ?_));rintro e w1 ⟨rfl,hb⟩;have BX:=J ((ai.new w 38 bC).below hb (by simp));have HB:=J (((zg w.heap.size w).alloc (za _) (.cells bC 38)).trans (hb.mono (by simp)));obtain⟨c0,c1,c2,c3,c4,c5,c6,c7,c8,c9,c10⟩:=ah BX.out;obtain⟨f0,f1,f2,f3,f4,f5,f6,f7,f8,f9,ox⟩:=aO BX.out;clear hb))
    first
     |replace mz:=mz
      obtain⟨z0,z1,z2,z3,z4,z5,z6,z7,z8,z9,cF⟩:=ah (aK (r:=aE false) BX.out)
     |obtain⟨z0,z1,z2,z3,z4,z5,z6,z7,z8,z9,cF⟩:=ah (aK (r:=aE true) BX.out)
    unfold cD at z0 z1 z2 z3 z4 z5 z6 z7 z8 z9 cF
    first
     |replace mz:=mz
      refine zi (v:=eM (aE false)) (by simp [results,results11,go_sem,z0,z1,z2,z3,z4,z5,z6,z7,z8,z9,cF]) rfl ⟨rfl,au HB.out (za _)⟩
     |refine zi (v:=eM (aE true)) (by simp [results,results11,go_sem,z0,z1,z2,z3,z4,z5,z6,z7,z8,z9,cF]) rfl ⟨rfl,au HB.out (za _)⟩
  ·have e:x=true:=by rw [←hx];simp [ck,q1]
   subst e;clear hx;go_enter func11,ntmps11;go_wp2_with (go_at_call 40;(with_reducible refine(HT.out true _).mono ?_);rintro e w1 ⟨rfl,hb⟩;have BX:=J ((ai.new w 38 bC).below hb (by simp));have HB:=J (((zg w.heap.size w).alloc (za _) (.cells bC 38)).trans (hb.mono (by simp)));obtain⟨c0,c1,c2,c3,c4,c5,c6,c7,c8,c9,c10⟩:=ah BX.out;obtain⟨f0,f1,f2,f3,f4,f5,f6,f7,f8,f9,ox⟩:=aO BX.out;clear hb)
   obtain⟨z0,z1,z2,z3,z4,z5,z6,z7,z8,z9,cF⟩:=ah (aK (r:=aE true) BX.out);unfold cD at z0 z1 z2 z3 z4 z5 z6 z7 z8 z9 cF;refine zi (v:=eM (aE true)) (by simp [results,results11,go_sem,z0,z1,z2,z3,z4,z5,z6,z7,z8,z9,cF]) rfl ⟨rfl,au HB.out (za _)⟩
 have e:x=false:=by rw [←hx];simp [ck,h1,h2,h3,h4]
 subst e;clear hx;go_enter func11,ntmps11;go_wp2_with (go_at_call 40;(with_reducible refine(HT.out false _).mono ?_);rintro e w1 ⟨rfl,hb⟩;have BX:=J ((ai.new w 38 bC).below hb (by simp));have HB:=J (((zg w.heap.size w).alloc (za _) (.cells bC 38)).trans (hb.mono (by simp)));obtain⟨c0,c1,c2,c3,c4,c5,c6,c7,c8,c9,c10⟩:=ah BX.out;obtain⟨f0,f1,f2,f3,f4,f5,f6,f7,f8,f9,ox⟩:=aO BX.out;clear hb)
 obtain⟨z0,z1,z2,z3,z4,z5,z6,z7,z8,z9,cF⟩:=ah (aK (r:=aE false) BX.out);unfold cD at z0 z1 z2 z3 z4 z5 z6 z7 z8 z9 cF;refine zi (v:=eM (aE false)) (by simp [results,results11,go_sem,z0,z1,z2,z3,z4,z5,z6,z7,z8,z9,cF]) rfl ⟨rfl,au HB.out (za _)⟩
end Go.Proofs.YtcpmiplofbfmfaaGreatDoor
