/- Amounts: divD. Amounts: small, shl, lenB, value, ten. Amounts: mulD. -/
import Derived.Test.YtcpmiplofbfmfaaGreatDoorA17
set_option linter.all false
set_option maxRecDepth 100000
set_option maxHeartbeats 2000000
namespace Go.Proofs.YtcpmiplofbfmfaaGreatDoor
open Go.Proofs.Tryz
open Lib renaming hid→J
open Go.RowKit FloM
def qs(n k Q:Nat):List Nat:=(List.range n).map fun j=>if j<k then 0 else dg Q j
theorem wC(n k Q:Nat):(qs n k Q).length=n:=by unfold qs;simp
theorem tL{n k Q j:Nat}(h:j<n):(qs n k Q)[j]? =some (if j<k then 0 else dg Q j):=by unfold qs;simp [h]
theorem acs(n Q:Nat):qs n n Q=List.replicate n 0:=by
 apply ZY;intro i
 rcases zj i n with h|h
 ·rw [tL h,zh h,List.getElem?_replicate,zh h]
 ·rw [zK (by rw [wC];exact h),zK (by simpa using h)]
theorem Xt(n Q:Nat):qs n 0 Q=fd n Q:=by
 apply ZY;intro i
 rcases zj i n with h|h
 ·rw [tL h,ze (by omega),lY h]
 ·rw [zK (by rw [wC];exact h),zK (by rw [nr];exact h)]
theorem act{n k Q:Nat}(h:k<n):(qs n (k+1) Q).set k (dg Q k)=qs n k Q:=by
 apply ZY;intro i;rw [List.getElem?_set]
 rcases zj i n with hi|hi
 ·by_cases e:k=i
  ·subst e
   rw [zh rfl,wC,zh hi,tL hi,ze (by omega)]
  ·rw [ze e,tL hi,tL hi]
   by_cases h2:i<k
   ·rw [zh h2,zh (by omega)]
   ·rw [ze h2,ze (by omega)]
 ·rw [ze (by omega),zK (by rw [wC];exact hi),zK (by rw [wC];exact hi)]
theorem wD(ds:List Nat)(k d:Nat):(cR ds).set k (.int .u16 (d:Int))=cR (ds.set k d):=by
 unfold cR;rw [List.map_set]
theorem tM(n:Nat):(madeCells #[Value.int .u16 0] n).toList=cR (List.replicate n 0):=by
 rw [toList_madeCells_one];unfold cR;rw [List.map_replicate];rfl
theorem Xu{r b:Nat}(h:r<65536*b):nd r≤nd b+1:=by
 rw [fJ,zH];have:=eQ b;have:65536*(b+1)≤65536*65536^nd b:=Zg _ this;rw [zB (65536^nd b)];omega
def Kv(w:World)(q r:Nat)(e:Ending)(w':World):Prop:= ∃v u,e= .returned (.tuple #[v,u])∧D w' v q∧D w' u r∧Fr w.heap.size v∧Fr w.heap.size u∧Below w.heap.size w w'
def Dj(k:Nat)(v:Value):Prop:=(k=0∧v= .int .i64 (-1))∨(∃j:Nat,k=j+1∧v= .int .i64 (j:Int))
theorem Dj.start(n:Nat):Dj n (.int .i64 ((n:Int)-1)):=by
 rcases n with _|n
 ·exact .inl ⟨rfl,rfl⟩
 ·exact .inr ⟨n,rfl,by go_num⟩
theorem D.set_{w:World}{v:Value}{N g j:Nat}(h:D w v N)(hg:v.ownBlock≠some g)(u:Value):D (w.setCell ⟨g,j,none⟩ u) v N:=by
 obtain⟨A,c,rfl,hc,hm,hN,hl,hr⟩:=h;refine⟨A,c,rfl,hc,hm,hN,hl,fun hn=> ?_⟩
 obtain⟨ad,rfl,hb,eb⟩:=hr hn;refine⟨ad,rfl,by simpa [World.setCell]using hb,fun i x hx=> ?_⟩
 rw [ZF]
 ·exact eb i x hx
 ·intro e
  have:=ZW Addr.block e;rw [ak]at this;exact hg (ZW some this.symm)
theorem pM{B n c:Nat}: ∀k,(Value.slice (some ⟨B,0,none⟩) n c).ownBlock=some k→B≤k:=fun _ h=>Nat.le_of_eq (zz h)
theorem Sg{wr w3:World}{v':Value}{x R:Nat}(hx:x<65536)(h:w3.ownsRow wr.heap.size 254 1 v' (1+nd R) ([.int .u16 (x:Int)]++cR (fd (nd R) R))):
 qj wr.heap.size w3 v' (nd R+1) (R*65536+x):=by
 have e:[Value.int .u16 (x:Int)]++cR (fd (nd R) R)=cR (fd (nd R+1) (R*65536+x)):=by
  rw [WT _ _ _ hx];rfl
 rw [e,Nat.add_comm]at h;exact h
theorem Sh(A:Option Addr)(c n:Nat)(vb:Value)(a b:Nat)(w:World)(hn:n=nd a)(cT:n≤80000)(cB:nd b≤80000)(bJ:0<b)(hr:aT w w.heap.size 1 A n (cR (fd n a)))(hb:D w vb b):
 Calls prog 238 #[.slice A n c,vb] w (Kv w (a/b) (a%b)):=by
 obtain⟨i0,gF,gX,dw,eU⟩:=Zv tK;have hR:=J hr;have HB:=J hb;have HN:=J (show a<65536^n by rw [hn];exact eQ a)
 clear hr hb hn;go_enter func238,ntmps238;go_wp2_with (refine wpList_make_full _ rfl _ _ _ rfl w.heap.size 254 i0 (.int .u16 0) 1 oN gF gX dw _ _ _ _ n rfl rfl rfl rfl (by rw [eU];omega) (by unfold maxLen;omega) (za _) ?_)
 intro w1 cm iF;rw [tM,←acs n (a/b)]at cm;have bW:Below w.heap.size w w1:=(zg _ _).grown iF (za _) (fun k hk=>by cases hk)
 obtain⟨g,hg⟩: ∃g,g=w.heap.size:=⟨_,rfl⟩;rw [←hg]at cm⊢;have hgl:g<w1.heap.size:=(zr cm g rfl).2;have oi:=J cm;have UU:=J bW;have HG:=J hg;clear cm iF bW hg
 go_wp2
 go_loopw [7,8] (fun rest i wr=> ∃k:Nat,k≤n∧Dj k i∧wr.ownsRow g 254 1 (.slice (some ⟨g,0,none⟩) n n) n (cR (qs n k (a/b)))∧D wr rest (a/65536^k%b)∧Fr g rest∧rest.ownBlock≠some g∧Below w.heap.size w wr) (fun _ i _=>(intOf i+1).toNat)
 case atStart=>
  refine⟨n,za _,Dj.start n,oi.out,?_,?_,?_,UU.out⟩
  ·rw [Ze HN.out,Nat.zero_mod]
   show DS w1 (.slice none 0 0) (nd 0) 0;rw [ib];exact⟨none,0,rfl,za _,by unfold maxLen;omega,by simp,aT.none_⟩
  ·intro x hx;cases hx
  ·intro hx;cases hx
 case round=>
  obtain⟨k,hk,hi,bS,Ls,rT,fa,bu⟩:=hrel;have qC:g≤w.heap.size:=by have:=HG.out;omega
  have xX:w.heap.size≤g:=by have:=HG.out;omega
  have dq:=bu.size
  rcases hi with⟨rfl,rfl⟩|⟨j,rfl,rfl⟩
  ·rw [Xt]at bS
   have bw:a/b<65536^n:=zW (ZI _ _) HN.out;have hT:=J (ry _ n (a/b) wr (qj.DS bS bw));have HF:=J (show Fr w.heap.size (.slice (some ⟨g,0,none⟩) n n)from fun x hx=>by have:=pM x hx;omega)
   rw [Zl,Nat.div_one]at Ls;have nX:=J Ls;have HFR:=J (show Fr w.heap.size u7 from fun x hx=>by have:=rT x hx;omega)
   have Vm:=J bu;clear bS bw Ls rT bu fa;go_wp2_with (go_at_call 248;refine hT.out.mono ?_;rintro e w' ⟨⟨v',rfl,uu,E_⟩,rfl⟩;have HV:=J uu;have HO:=J E_;clear uu E_)
   go_ret2
   exact⟨_,_,rfl,HV.out,nX.out,Fr.of HF.out HO.out,HFR.out,Vm.out⟩
  ·obtain⟨ad,rfl,ha,eb⟩:=DS.at_ hR.out (show j<n by omega)
   rw [←bu.cell (by rw [ak];exact ha)]at eb
   have hx:=ia a j;have abj:=J (Rz a b j bJ);have abk:=J (RB a b j bJ);have hR0:a/65536^(j+1)%b<b:=zU _ bJ;have apR:=jS (Zc hR0);clear hR0;generalize a/65536^(j+1)%b=R at *;obtain⟨A',c',rfl,_,_,_,hrd⟩:=Ls;have HX:=J (show dg a j<65536 from hx)
   generalize dg a j=x at *;have Fa:=J hrd;have tp:=J bS;have Vm:=J bu;have apS:g<wr.heap.size:=(zr bS g rfl).2;clear hrd bS bu rT fa;go_wp2_with (at_builtin;refine aU _ rfl _ _ _ rfl wr.heap.size 254 i0 _ 1 2 oN gF gX dw eU rfl (by omega) _ 1 [.int .u16 (x:Int)] rfl (World.ownsRow_lit wr #[.int .u16 (x:Int)] 1 (za _) (by unfold maxLen;omega) rfl) wr.heap.size A' (nd R) c' (cR (fd (nd R) R)) rfl (Fa.out.alloc (za _) _) (De _) (by unfold maxLen;omega) (by omega) (by simp) ?_)
   intro v2 w2 bX db _;have hco:=Sg HX.out bX;have hds:=qj.DS hco (WU _ _ _ HX.out (eQ R));have ba:Below wr.heap.size wr w2:=((zg _ _).alloc (za _) _).grown db (by simp) pM
   have hT:=J (ry v2 _ _ w2 hds);have QN:=J (qj.fr hco);have bM:=J ba;clear bX db hds ba hco;go_wp2_with (go_at_call 248;refine hT.out.mono ?_;rintro e w' ⟨⟨v3,rfl,ll,dd⟩,rfl⟩;have ou:=J ll;have E4:=J dd;clear ll dd);have agR:=Xu abk.out;refine(Xs v3 vb (R*65536+x) b _ (by omega) (by omega) bJ abk.out ou.out (HB.out.below (Vm.out.trans (bM.out.mono dq)))).mono ?_
   rintro e w4 ⟨v4,rfl,vg,Wi,cu⟩;rw [abj.out.2]at vg;rw [abj.out.1];have hs2:=bM.out.size;have Wh:Below wr.heap.size wr w4:=bM.out.trans (cu.mono hs2);have Lr:=World.ownsRow.kept tp.out (jf Wh none) (.inr (by simp [Value.ownBlock]))
   have hcq:w4.cell? ⟨g,j,none⟩=some (.int .u16 0):=by
    rw [zM Lr j (by omega),cR,zT,tL (by omega),zh (by omega)];rfl
   have hfq:w4.frozen? ⟨g,j,none⟩=false:=Zt Lr j;have gK:=(Z7 Lr j (.int .u16 (dg (a/b) j:Nat))).1;rw [wD,act (by omega)]at gK
   have ad1:v4.ownBlock≠some g:=fun h=>by have:=Wi g h;omega
   have ow:=vg.set_ (j:=j) ad1 (.int .u16 (dg (a/b) j:Nat));have agQ:Below w.heap.size w (w4.setCell ⟨g,j,none⟩ (.int .u16 (dg (a/b) j:Nat))):=(Vm.out.trans (Wh.mono dq)).setCell (by show w.heap.size≤g;omega) _
   have hj:j<n:=by omega
   have ST:=J gK;have V5:=J ow;have B5:=J agQ;have F5:=J (show Fr g v4 from fun x hx=>by have:=Wi x hx;omega)
   have N5:=J ad1;clear gK ow agQ ad1 Lr Wh cu vg Wi agR hs2;generalize dg (a/b) j=y at *
   go_wp2
   go_roundw
   case rel=>
    refine⟨j,by omega,?_,ST.out,V5.out,F5.out,N5.out,B5.out⟩
    have:=Dj.start j;exact this
   case measure=>simp [intOf]
theorem sk(va vb:Value)(a b:Nat)(w:World)(cT:nd a≤80000)(cB:nd b≤80000)(bJ:0<b)(ha:D w va a)(hb:D w vb b):
 Calls prog 238 #[va,vb] w (Kv w (a/b) (a%b)):=by
 obtain⟨A,c,rfl,_,_,_,hr⟩:=ha;exact Sh A c (nd a) vb a b w rfl cT cB bJ hr hb
theorem Mx(w:World)(x:Nat)(A B C E:Int)(hA:A=(dg x 0:Nat))(hB:B=(dg x 1:Nat))(hC:C=(dg x 2:Nat))(hE:E=(dg x 3:Nat)):
 qj w.heap.size (w.alloc (.cells #[.int .u16 A, .int .u16 B, .int .u16 C, .int .u16 E] 254)) (.slice (some ⟨w.heap.size,0,none⟩) 4 4) 4 x:=by
 subst hA hB hC hE;exact World.ownsRow_lit w #[.int .u16 (dg x 0:Nat), .int .u16 (dg x 1:Nat), .int .u16 (dg x 2:Nat), .int .u16 (dg x 3:Nat)] 4 (za _) (by unfold maxLen;omega) rfl
theorem p64:(65536:Nat)^4=2^64:=by decide
theorem My(x:Nat)(hx:x≤18446744073709551615):IntKind.u16.wrap (x:Int)=(dg x 0:Nat)∧IntKind.u16.wrap ((x:Int)/65536)=(dg x 1:Nat)∧IntKind.u16.wrap ((x:Int)/4294967296)=(dg x 2:Nat)∧(x:Int)/281474976710656=(dg x 3:Nat):=by
 have e2:(65536:Nat)^2=4294967296:=by decide
 have e3:(65536:Nat)^3=281474976710656:=by decide
 unfold dg;rw [Z6,Z6,Z6,e2,e3,Zl,Nat.pow_one];omega
theorem pN(x:Nat)(w:World)(hx:x<2^64):Calls prog 187 #[.int .u64 x] w (dR w x):=by
 have xK:x≤18446744073709551615:=by omega
 have HX:=J hx;have HS:=J (My x xK);clear hx;go_enter func187,ntmps187;go_wp2_with fail;refine(ry _ 4 x _ (qj.DS (Mx w x _ _ _ _ HS.out.1 HS.out.2.1 HS.out.2.2.1 HS.out.2.2.2) (by rw [p64];exact HX.out))).mono ?_
 rintro e w' ⟨⟨v',rfl,uu,E_⟩,rfl⟩;have HV:=J uu;have HO:=J E_;clear uu E_;go_wp2_with fail;go_ret;exact⟨_,rfl,HV.out,Fr.of (v:= .slice (some ⟨w.heap.size,0,none⟩) 4 4) pM HO.out,(zg _ _).alloc (za _) _⟩
theorem wE{a:Nat}(h:a≠0):0<nd a:=by have:= @iR a;omega
theorem acu(a n:Nat):a*2^n=a*2^(n%16)*65536^(n/16):=by
 rw [jR,zw,←zu];congr 2;omega
theorem eC(a n:Nat):nd (a*2^n)≤nd a+n/16+1:=by
 rw [fJ];have h:=eQ a
 calc a*2^n<65536^nd a*2^n:=(zG (zo _)).2 h
  _≤65536^nd a*2^(16*(n/16+1)):=Zg _ (zF (by decide) (by omega))
  _=65536^(nd a+n/16+1):=by rw [←jR,←zu,Nat.add_assoc]
theorem Xv(k:Nat)(h:2^k<65536):(2:Int)^k%4294967296=((2^k:Nat):Int):=by
 have e:((2:Int)^k)=((2^k:Nat):Int):=by rw [Int.natCast_pow];rfl
 rw [e];generalize 2^k=q at *;omega
theorem afP(n:Nat):2^(n%16)<65536:=by
 have:(2:Nat)^(n%16)≤2^15:=zF (by decide) (by omega)
 omega
theorem Si(va:Value)(n:Nat)(w:World)(ha:D w va 0):Calls prog 239 #[va, .int .i64 n] w (dR w 0):=by
 obtain⟨A,c,rfl,_⟩:=ha;rw [ib];go_enter func239,ntmps239;go_wp2_with fail;go_ret;refine⟨_,rfl,⟨none,0,?_,?_,?_,?_,?_⟩,?_,zg _ _⟩
 ·rw [ib];rfl
 ·rw [ib];exact za _
 ·unfold maxLen;omega
 ·exact eQ 0
 ·rw [ib];exact aT.none_
 ·intro g hg;cases hg
theorem Xw(va:Value)(a n:Nat)(w:World)(h0:a≠0)(cT:nd a≤50000)(hn:n≤400000)(ha:D w va a):Calls prog 239 #[va, .int .i64 n] w (dR w (a*2^n)):=by
 obtain⟨i0,gF,gX,dw,eU⟩:=Zv tK;have hp:=wE h0;have HA:=J ha;obtain⟨A,c,rfl,_⟩:=ha;have hm:=afP n;have HE:=J (acu a n);have Y6:=wB a (2^(n%16)) hm;have HM:=J hm;clear h0 hm;have hl0:((nd a:Int)==0)=false:=by rw [zf];omega
 generalize Wm:nd a=m at *;have Y8:=J Wm;clear Wm;go_enter func239,ntmps239;go_wp2_with (refine wpList_make_full _ rfl _ _ _ rfl w.heap.size 254 i0 (.int .u16 0) 1 oN gF gX dw _ _ _ _ (n/16) rfl rfl (by go_num) (by go_num) (by rw [eU];omega) (by unfold maxLen;omega) (za _) ?_)
 intro w1 cm iF;rw [tM]at cm;have bW:Below w.heap.size w w1:=(zg _ _).grown iF (za _) (fun k hk=>by cases hk)
 have tp:=J cm;have bp:=J bW;have qy:=bW.size;have hgl:w.heap.size<w1.heap.size:=(zr cm w.heap.size rfl).2;clear cm iF bW;go_wp2_with fail;refine(Bn _ a (2^(n%16)) _ _ (by have:=Y8.out;omega) HM.out (HA.out.below bp.out) (Xv _ HM.out)).mono ?_
 rintro e w2 ⟨v2,rfl,hv2,hf2,ba⟩;have bM:=J ba;have hs2:=ba.size;have bX:=World.ownsRow.kept tp.out (jf ba none) (.inr (by simp [Value.ownBlock]))
 obtain⟨A2,c2,rfl,_,_,hl2,hr2⟩:=hv2;have nX:=J hr2;have HL2:=J hl2;have E5:=J bX;clear hf2 ba hr2 hl2 bX;obtain⟨M,hM⟩: ∃M,M=a*2^(n%16):=⟨_,rfl⟩;rw [←hM]at nX HL2 Y6 HE⊢;have hMb:nd M≤50001:=by have:=Y8.out;omega
 clear hM Y6;go_wp2_with (at_builtin;refine aU _ rfl _ _ _ rfl w.heap.size 254 i0 _ 1 2 oN gF gX dw eU rfl (by omega) _ (n/16) _ rfl E5.out w2.heap.size A2 (nd M) c2 (cR (fd (nd M) M)) rfl nX.out (De _) (by unfold maxLen;omega) (by omega) (by omega) ?_)
 intro v3 w3 mV kY _;rw [←Df,←RD]at mV;have bq:Below w.heap.size w w3:=(bp.out.trans (bM.out.mono qy)).grown kY (by omega) pM
 have E4:=J (show qj w.heap.size w3 v3 (n/16+nd M) (M*65536^(n/16))from mV)
 have dF:=J bq
 have rS:=J (show M*65536^(n/16)<65536^(n/16+nd M)from by
  rw [zu,zB];exact(Nat.mul_lt_mul_left (dN _)).2 HL2.out)
 clear mV kY bq;go_wp2_with fail;refine(ry v3 _ _ w3 (E4.out.DS rS.out)).mono ?_;rintro e w' ⟨⟨v',rfl,uu,E_⟩,rfl⟩;have HV:=J uu;have HO:=J E_;clear uu E_;go_wp2_with fail;go_ret;exact⟨_,rfl,by rw [HE.out];exact HV.out,Fr.of (qj.fr E4.out) HO.out,dF.out⟩
theorem gM(va:Value)(a n:Nat)(x:Int)(w:World)(cT:nd a≤50000)(hn:n≤400000)(hx:x=(n:Int))(ha:D w va a):Calls prog 239 #[va, .int .i64 x] w (dR w (a*2^n)):=by
 subst hx
 by_cases h0:a=0
 ·subst h0
  rw [Zk];exact Si va n w ha
 ·exact Xw va a n w h0 cT hn ha
theorem Bo(va:Value)(a:Nat)(w:World)(cT:nd a≤100000)(ha:D w va a):Calls prog 240 #[va] w fun e w'=>e= .returned (.int .i64 (bl a:Nat))∧w=w':=by
 obtain⟨A,c,rfl,_,_,_,hr⟩:=ha
 by_cases h0:a=0
 ·subst h0
  rw [ib,Bf];clear hr cT;go_enter func240,ntmps240;go_wp2_with fail;go_ret;exact⟨rfl,rfl⟩
 ·have hp:=wE h0
  obtain⟨ad,rfl,_,eb⟩:=DS.at_ hr (show nd a-1<nd a by omega)
  have HT:=J (ab3 h0);have U_:=J (show bl a≤1600000 from zQ ((kl a (16*nd a)).2 (by rw [←jR];exact eQ a)) (by omega))
  have hx:=ia a (nd a-1);have hl0:((nd a:Int)==0)=false:=by rw [zf];omega
  generalize dg a (nd a-1)=x at *;generalize nd a=m at *;clear hr h0;go_enter func240,ntmps240
  go_wp2
  go_loop [3,4] (fun n t=> ∃(y k:Nat),y<65536∧k+bl y=bl a∧k≤3000000∧n= .int .i64 k∧t= .int .u16 y) (fun _ t=>(intOf t).toNat)
  case atStart=>exact⟨x,16*(m-1),hx,HT.out.symm,by omega,by go_num,rfl⟩
  case round=>
   obtain⟨y,k,hy,hk,hk2,rfl,rfl⟩:=hrel;have Y4:bl y≤16:=(kl y 16).2 hy;have HK:=J hk
   by_cases JJ:0<y
   ·have HH:=J (WS (N:=y) (by omega))
    have Wk:k≤2999999:=by have:=HH.out;have:=U_.out;omega
    clear hk
    go_wp2
    go_round
    case rel=>exact⟨y/2,k+1,by omega,by have:=HH.out;have:=HK.out;omega,by omega,by go_num,by go_num⟩
    case measure=>simp [intOf];omega
   ·have e:y=0:=by omega
    subst e;rw [Bf,Z4]at HK;clear hk Y4 JJ
    go_wp2
    go_ret;exact⟨jW (by rw [HK.out]),rfl⟩
theorem aju(x d:Nat)(hd:d<65536):x*65536|||d=x*65536+d:=by
 have:=Nat.shiftLeft_add_eq_or_of_lt (i:=16) (b:=d) (by simpa using hd) x
 rw [ZT]at this;exact this.symm
theorem ofInt_u64(a:Nat)(ha:a<18446744073709551616):(BitVec.ofInt 64 (a:Int)).toNat=a:=by
 rw [BitVec.ofInt_natCast,BitVec.toNat_ofNat];exact zA (by omega)
theorem u64_or_nat(a b:Nat)(ha:a<18446744073709551616)(hb:b<18446744073709551616):bits .or .u64 (a:Int) (b:Int)=((a|||b:Nat):Int):=by
 have hx:a|||b<2^64:=Nat.or_lt_two_pow (by omega) (by omega)
 show IntKind.u64.wrap ((BitVec.ofInt 64 (a:Int)|||BitVec.ofInt 64 (b:Int)).toNat:Int)=_;rw [BitVec.toNat_or,ofInt_u64 a ha,ofInt_u64 b hb,zE];omega
theorem u64_and_nat(a b:Nat)(ha:a<18446744073709551616)(hb:b<18446744073709551616):bits .and .u64 (a:Int) (b:Int)=((a&&&b:Nat):Int):=by
 have hx:a&&&b<2^64:=Nat.and_lt_two_pow _ (by omega)
 show IntKind.u64.wrap ((BitVec.ofInt 64 (a:Int)&&&BitVec.ofInt 64 (b:Int)).toNat:Int)=_;rw [BitVec.toNat_and,ofInt_u64 a ha,ofInt_u64 b hb,zE];omega
theorem Sj(y d z:Nat)(hy:y≤281474976710655)(hd:d<65536)(hz:z=65536*y+d):bits .or .u64 ((y:Int)*65536) (d:Int)=(z:Int):=by
 have:=u64_or_nat (y*65536) d (by omega) (by omega)
 rw [aju y d hd]at this;rw [Zd]at this;rw [hz,zB 65536];exact this
theorem lD(va:Value)(a:Nat)(w:World)(hb:a<2^64)(ha:D w va a):Calls prog 241 #[va] w fun e w'=>e= .returned (.int .u64 (a:Nat))∧w=w':=by
 obtain⟨A,c,rfl,_,_,_,hr⟩:=ha;have cT:nd a≤4:=sd hb;have HL:=J (eQ a);have HR:=J hr;have HB:=J hb;clear hr hb;generalize nd a=n at *;go_enter func241,ntmps241
 go_wp2
 go_loop [3,4] (fun x i=> ∃k:Nat,k≤n∧Dj k i∧x= .int .u64 (a/65536^k:Nat)) (fun _ i=>(intOf i+1).toNat)
 case atStart=>exact⟨n,za _,Dj.start n,by rw [Ze HL.out];rfl⟩
 case round=>
  obtain⟨k,hk,hi,rfl⟩:=hrel
  rcases hi with⟨rfl,rfl⟩|⟨j,rfl,rfl⟩
  ·rw [Zl,Nat.div_one]
   go_wp2
   go_ret;exact⟨rfl,rfl⟩
  ·obtain⟨ad,rfl,_,eb⟩:=DS.at_ HR.out (show j<n by omega)
   have HS:=J (oH a j);have bw:a/65536^j<2^64:=zW (ZI _ _) HB.out;have rS:=J bw;have hx:=ia a j;generalize dg a j=d at *;have hy:a/65536^(j+1)≤281474976710655:=by have:=HS.out;omega
   generalize a/65536^(j+1)=y at *;clear bw
   go_wp2
   go_round
   case rel=>
    refine⟨j,by omega,Dj.start j,?_⟩
    rw [Sj y d _ hy hx HS.out]
   case measure=>simp [intOf]
theorem acv(k:Nat):nd (10^k)≤k+1:=by
 rw [fJ]
 calc 10^k≤65536^k:=Nat.pow_le_pow_left (by decide) k
  _<65536^(k+1):=Nat.pow_lt_pow_right (by decide) (by omega)
theorem sl(w:World):D (w.alloc (.cells #[.int .u16 1] 254)) (.slice (some ⟨w.heap.size,0,none⟩) 1 1) 1:=by
 have h:qj w.heap.size (w.alloc (.cells #[.int .u16 1] 254)) (.slice (some ⟨w.heap.size,0,none⟩) 1 1) 1 1:=
  World.ownsRow_lit w #[.int .u16 1] 1 (za _) (by unfold maxLen;omega) rfl
 have e:nd 1=1:=by decide
 unfold D;rw [e];exact qj.DS h (by decide)
theorem Kw(n:Nat)(w:World)(hn:n≤50000):Calls prog 295 #[.int .i64 n] w (dR w (10^n)):=by
 go_enter func295,ntmps295
 go_wp2
 go_loopw [3,4] (fun v i wr=> ∃k:Nat,k≤n∧i= .int .i64 k∧D wr v (10^k)∧Fr w.heap.size v∧Below w.heap.size w wr) (fun _ i _=>n-(intOf i).toNat)
 case atStart=>exact⟨0,zO _,rfl,sl w,pM,(zg _ _).alloc (za _) _⟩
 case round=>
  obtain⟨k,hk,rfl,hv,hf,bu⟩:=hrel;have dq:=bu.size;have HV:=J hv;have HF:=J hf;have HB:=J bu;have Y6:=acv k;clear hv hf bu
  by_cases bw:k<n
  ·go_wp2_with fail
   refine(Ku _ (10^k) 10 _ (by omega) (by decide) HV.out).mono ?_
   rintro e w2 ⟨v2,rfl,hv2,hf2,ba⟩;rw [←zH]at hv2;have ln:=J hv2;have QN:=J hf2;have bM:=J ba;clear hv2 hf2 ba Y6;go_wp2_with fail
   go_roundw
   case rel=>exact⟨k+1,by omega,by go_num,ln.out,fun g hg=>zQ dq (QN.out g hg),HB.out.trans (bM.out.mono dq)⟩
   case measure=>simp [intOf];omega
  ·have e:k=n:=by omega
   subst e;go_wp2_with fail;go_ret;exact⟨_,rfl,HV.out,HF.out,HB.out⟩
end Go.Proofs.YtcpmiplofbfmfaaGreatDoor
namespace FloM
def mx(L p T N:Nat):List Nat:=(List.range L).map fun j=>if j<p then dg T j else dg N j
theorem Bp(L p T N:Nat):(mx L p T N).length=L:=by unfold mx;simp
theorem tO{L p T N j:Nat}(h:j<L):(mx L p T N)[j]? =some (if j<p then dg T j else dg N j):=by unfold mx;simp [h]
theorem Sk(L p N:Nat):mx L p N N=fd L N:=by
 unfold mx fd;congr 1;funext j;simp
theorem Sl{L p T T' N:Nat}(hp:p<L)(h: ∀j,j<p→dg T' j=dg T j):(mx L p T N).set p (dg T' p)=mx L (p+1) T' N:=by
 apply ZY;intro i;rw [List.getElem?_set]
 rcases zj i L with hi|hi
 ·by_cases e:p=i
  ·subst e
   rw [zh rfl,Bp,zh hi,tO hi,zh (by omega)]
  ·rw [ze e,tO hi,tO hi]
   by_cases h2:i<p
   ·rw [zh h2,zh (by omega),h i h2]
   ·rw [ze h2,ze (by omega)]
 ·rw [ze (by omega),zK (by rw [Bp];exact hi),zK (by rw [Bp];exact hi)]
theorem acw{L p T N:Nat}(hT:T<65536^p)(hN:N<65536^p):mx L p T N=fd L T:=by
 apply ZY;intro i
 rcases zj i L with hi|hi
 ·rw [tO hi,lY hi]
  by_cases h:i<p
  ·rw [zh h]
  ·rw [ze h,je (zy hN (wl (by omega))),je (zy hT (wl (by omega)))]
 ·rw [zK (by rw [Bp];exact hi),zK (by rw [nr];exact hi)]
theorem Sm(T N p x y cy:Nat)(h:T/65536^p=N/65536^p+cy):
 (∀j,j<p→dg (T+65536^p*(x*y)) j=dg T j)∧dg (T+65536^p*(x*y)) p=(cy+dg N p+x*y)%65536∧
 (T+65536^p*(x*y))/65536^(p+1)=N/65536^(p+1)+(cy+dg N p+x*y)/65536:=by
 have hP:=dN p
 have e:(T+65536^p*(x*y))/65536^p=65536*(N/65536^(p+1))+(cy+dg N p+x*y):=by
  rw [Ij _ _ hP,h,oH N p];omega
 refine⟨fun j hj=> ?_,?_,?_⟩
 ·unfold dg
  obtain⟨k,rfl⟩: ∃k,p=j+1+k:=⟨p-j-1,by omega⟩
  have:65536^(j+1+k)*(x*y)=65536^j*(65536*(65536^k*(x*y))):=by
   rw [zu,zH];simp only [zw]
  rw [this,Ij _ _ (dN j),Nat.add_mul_mod_self_left]
 ·unfold dg at e⊢
  rw [e];omega
 ·have e3:(T+65536^p*(x*y))/65536^(p+1)=(T+65536^p*(x*y))/65536^p/65536:=by rw [Zf,←zH]
  rw [e3,e];omega
theorem Xx(a b i:Nat):a%65536^(i+1)*b=a%65536^i*b+65536^i*(dg a i*b):=by
 rw [oG,zV,zw]
theorem Xy(b i m x:Nat):65536^i*(x*(b%65536^(m+1)))=65536^i*(x*(b%65536^m))+65536^(i+m)*(x*dg b m):=by
 rw [oG,ZM,ZM,zu]
 congr 1
 generalize 65536^i=p;generalize 65536^m=q;simp only [zB,ZB]
theorem Bq(a b i n:Nat)(h:b<65536^n):a%65536^i*b<65536^(i+n):=by
 rw [zu];have h1:=zU a (dN i)
 rcases zX b with rfl|hb
 ·rw [Nat.mul_zero];exact zL (dN i) (dN n)
 ·exact zy ((zG hb).2 h1) (Zg _ (Zc h))
end FloM
namespace Go.Proofs.YtcpmiplofbfmfaaGreatDoor
open Go.Proofs.Tryz
open Lib renaming hid→J
open Go.RowKit FloM
theorem acx(x y:Nat)(hx:x<65536)(hy:y<65536):0≤(x:Int)*(y:Int)∧(x:Int)*(y:Int)≤4294836225∧((x*y:Nat):Int)=(x:Int)*(y:Int):=by
 have:x*y≤65535*65535:=Nat.mul_le_mul (by omega) (by omega)
 have h2:((x*y:Nat):Int)≤4294836225:=by omega
 rw [Zd]at h2;exact⟨Int.mul_nonneg (by omega) (by omega),h2,Zd _ _⟩
theorem Sn(A B:Option Addr)(c d la lb a b:Nat)(w:World)(Qc:la=nd a)(Ll:lb=nd b)(cT:la≤50000)(cB:lb≤50000)(hr:aT w w.heap.size 1 A la (cR (fd la a)))(hs:aT w w.heap.size 1 B lb (cR (fd lb b))):
 Calls prog 237 #[.slice A la c, .slice B lb d] w (dR w (a*b)):=by
 obtain⟨i0,gF,gX,dw,eU⟩:=Zv tK;have hR:=J hr;have hS:=J hs;have HA:=J (show a<65536^la by rw [Qc];exact eQ a)
 have HB:=J (show b<65536^lb by rw [Ll];exact eQ b)
 clear hr hs Qc Ll;go_enter func237,ntmps237;go_wp2_with (refine wpList_make_full _ rfl _ _ _ rfl w.heap.size 254 i0 (.int .u16 0) 1 oN gF gX dw _ _ _ _ (la+lb) rfl rfl (by go_num) (by go_num) (by rw [eU];omega) (by unfold maxLen;omega) (za _) ?_)
 intro w1 cm iF
 have e0:List.replicate (la+lb) 0=fd (la+lb) (a%65536^0*b):=by
  rw [Zl,Nat.mod_one,Zk];apply ZY;intro i
  rcases zj i (la+lb)with h|h
  ·rw [lY h,List.getElem?_replicate,zh h,je (dN i)]
  ·rw [zK (by simpa using h),zK (by rw [nr];exact h)]
 rw [tM,e0]at cm;have bW:Below w.heap.size w w1:=(zg _ _).grown iF (za _) (fun k hk=>by cases hk)
 obtain⟨g,hg⟩: ∃g,g=w.heap.size:=⟨_,rfl⟩;rw [←hg]at cm⊢;have oi:=J cm;have UU:=J bW;have qC:g≤w.heap.size:=by omega
 have xX:w.heap.size≤g:=by omega
 clear cm iF bW hg e0
 go_wp2
 go_loopw [6] (fun i wr=> ∃k:Nat,k≤la∧i= .int .i64 k∧wr.ownsRow g 254 1 (.slice (some ⟨g,0,none⟩) (la+lb) (la+lb)) (la+lb) (cR (fd (la+lb) (a%65536^k*b)))∧Below w.heap.size w wr) (fun i _=>la-(intOf i).toNat)
 case atStart=>exact⟨0,zO _,rfl,oi.out,UU.out⟩
 case round=>
  obtain⟨i,hi,rfl,bS,bu⟩:=hrel;have dq:=bu.size;obtain⟨wo,rfl⟩: ∃wo:World,wo=wr:=⟨_,rfl⟩
  by_cases bw:i<la
  ·obtain⟨ad,rfl,ha,Vn⟩:=DS.at_ hR.out bw
   have Wo:=J Vn;have hx:=ia a i;obtain⟨N,hN⟩: ∃N,N=a%65536^i*b:=⟨_,rfl⟩;rw [←hN]at bS;have agT:=J (Xx a b i);rw [←hN]at agT;have Qm:=J (show N<65536^(i+lb)by rw [hN];exact Bq a b i lb HB.out)
   have anB:=J (Bq a b (i+1) lb HB.out);have HHA:=J ha;clear hN Vn ha;generalize dg a i=x at *;have JU:=J bS;have Vl:=J bu;clear bS bu
   go_wp2
   go_loopw [7,8] (fun cy m wr=> ∃k cn T:Nat,k≤lb∧cn≤65535∧cy= .int .u32 cn∧m= .int .i64 k∧T=N+65536^i*(x*(b%65536^k))∧T/65536^(i+k)=N/65536^(i+k)+cn∧wr.ownsRow g 254 1 (.slice (some ⟨g,0,none⟩) (la+lb) (la+lb)) (la+lb) (cR (mx (la+lb) (i+k) T N))∧Below w.heap.size w wr) (fun _ m _=>lb-(intOf m).toNat)
   case atStart=>
    refine⟨0,0,N,zO _,by omega,rfl,rfl,?_,rfl,?_,Vl.out⟩
    ·rw [Zl,Nat.mod_one,Nat.mul_zero,Nat.mul_zero,Z4]
    ·rw [Sk];exact JU.out
   case round=>
    obtain⟨k,cn,T,hk,hcn,rfl,rfl,hT,yF,bS,bu⟩:=hrel
    by_cases Lt:k<lb
    ·obtain⟨bd,rfl,hb,py⟩:=DS.at_ hS.out Lt
     rw [←bu.cell (by rw [ak];exact hb)]at py
     have ad3:=Wo.out;rw [←bu.cell (by rw [ak];exact HHA.out)]at ad3
     have ad2:wr.cell? ⟨g,i+k,none⟩=some (.int .u16 (dg N (i+k):Nat)):=by
      rw [zM bS (i+k) (by omega),cR,zT,tO (by omega),ze (by omega)];rfl
     have hy:=ia b k;have hn:=ia N (i+k);have akM:=J (Xy b i k x);generalize dg b k=y at *;have Fb:=J (Sm T N (i+k) x y cn yF);generalize dg N (i+k)=z at *;obtain⟨p0,p1,p2⟩:=acx x y hx hy;have AK:=J p2;have HT:=J hT;have tp:=J bS;have Vm:=J bu;clear hT yF bS bu p2
     go_wp2
     go_quiet (fail)
     have hfz:wr.frozen? ⟨g,i+k,none⟩=false:=Zt tp.out (i+k);have akL:=J (fun u=>(Z7 tp.out (i+k) u).1)
     go_wp2
     go_roundw
     case rel=>
      have gK:=Fb.out;have yC:=AK.out;refine⟨k+1,(cn+z+x*y)/65536,T+65536^(i+k)*(x*y),by omega,?_,by go_num,by go_num,?_,gK.2.2,?_,?_⟩
      ·have:cn+z+x*y≤4294967295:=by omega
       omega
      ·rw [HT.out,Nat.add_assoc,←akM.out]
      ·have h1:=akL.out (.int .u16 (dg (T+65536^(i+k)*(x*y)) (i+k):Nat))
       rw [wD,Sl (by omega) gK.1]at h1
       rw [gK.2.1]at h1;have e1:(((cn+z+x*y)%65536:Nat):Int)=IntKind.u16.wrap (cn+z+x*y):=by rw [Z6];omega
       rw [e1]at h1;exact h1
      ·exact below_drewN (Vm.out.setCell (by show w.heap.size≤g;omega) _) _
     case measure=>simp [intOf];omega
    ·have e:k=lb:=by omega
     subst e;rw [zA HB.out,←agT.out]at hT;rw [Ze Qm.out,Ih]at yF;have hp:i+k<la+k:=by omega
     have hTl:T<65536^(i+k+1):=by
      rw [zH];have h1:=zR T (65536^(i+k));have h2:=zU T (dN (i+k));rw [yF]at h1;have h3:65536^(i+k)*cn≤65536^(i+k)*65535:=Zg _ hcn;omega
     have hdT:dg T (i+k)=cn:=by unfold dg;rw [yF];omega
     have ad2:wr.cell? ⟨g,i+k,none⟩=some (.int .u16 0):=by
      rw [zM bS (i+k) (by omega),cR,zT,tO (by omega),ze (by omega),je Qm.out];rfl
     have hfz:wr.frozen? ⟨g,i+k,none⟩=false:=Zt bS (i+k);have h1:=(Z7 bS (i+k) (.int .u16 (dg T (i+k):Nat))).1;rw [wD,Sl (T':=T) (by omega) (fun _ _=>rfl),acw hTl (zy Qm.out (wl (by omega))),hdT,hT]at h1
     have lq:Below w.heap.size w (wr.setCell ⟨g,i+k,none⟩ (.int .u16 (cn:Int))):=bu.setCell (by show w.heap.size≤g;omega) _
     have H1:=J h1;have fE:=J lq;clear hT yF bS bu hTl hdT h1 lq
     go_wp2
     go_roundw
     case rel=>exact⟨i+1,by omega,by go_num,H1.out,fE.out⟩
     case measure=>simp [intOf];omega
  ·have e:i=la:=by omega
   subst e
   have ta:a*b<65536^(i+lb):=by
    have:=Bq a b i lb HB.out
    rwa [zA HA.out]at this
   rw [zA HA.out]at bS;have hT:=J (ry _ (i+lb) (a*b) wo (qj.DS bS ta));have HF:=J (show Fr w.heap.size (.slice (some ⟨g,0,none⟩) (i+lb) (i+lb))from fun x hx=>by have:=pM x hx;omega)
   have Vm:=J bu;clear bS ta bu;go_wp2_with (go_at_call 248;refine hT.out.mono ?_;rintro e w' ⟨⟨v',rfl,uu,E_⟩,rfl⟩;have HV:=J uu;have HO:=J E_;clear uu E_);go_ret;exact⟨_,rfl,HV.out,Fr.of HF.out HO.out,Vm.out⟩
theorem uJ(va vb:Value)(a b:Nat)(w:World)(cT:nd a≤50000)(cB:nd b≤50000)(ha:D w va a)(hb:D w vb b):
 Calls prog 237 #[va,vb] w (dR w (a*b)):=by
 obtain⟨A,c,rfl,_,_,_,hr⟩:=ha;obtain⟨B,d,rfl,_,_,_,hs⟩:=hb;exact Sn A B c d _ _ a b w rfl rfl cT cB hr hs
end Go.Proofs.YtcpmiplofbfmfaaGreatDoor
