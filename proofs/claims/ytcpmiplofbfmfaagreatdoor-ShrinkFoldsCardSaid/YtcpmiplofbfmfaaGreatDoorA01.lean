/- Lambda: which nodes are made: the program's below, the refer -/
import Derived.Test.YtcpmiplofbfmfaaGreatDoorA00
import Derived.Test.YtcpmiplofbfmfaaGreatDoorProg
import Derived.Deep.CutBlock
import Derived.Deep.RegionHeld3
import Derived.Deep.DeepCutAuto
set_option linter.all false
namespace Go.Proofs.YtcpmiplofbfmfaaGreatDoor
open Tryz
open Go.RowKit LamM
theorem af4:(prog.info? 4).map (fun i=>(i.zero,i.size,i.bytes))=some (some (.bool false),1,1):=by kernel_rfl
theorem ajE:prog.underlying 209=some (.slice 4):=by kernel_rfl
def pR(L:List Tm)(aJ n:Nat)(w:World)(e:Ending)(w':World):Prop:=
 ∃g,e= .returned (.tuple #[.slice (some ⟨g,0,none⟩) n n, .bool (ay L aJ).2])∧w.heap.size≤g∧w'.ownsRow g 4 1 (.slice (some ⟨g,0,none⟩) n n) n (dJ n (ay L aJ).1)∧Below w.heap.size w w'
def AtI(k:Nat)(v:Value):Prop:=(k=0∧v= .int .i64 (-1))∨(∃j:Nat,k=j+1∧v= .int .i64 (j:Int))
theorem AtI.start(n:Nat):AtI n (.int .i64 ((n:Int)-1)):=by
 rcases n with _|n
 ·exact .inl ⟨rfl,rfl⟩
 ·exact .inr ⟨n,rfl,by congr 1;omega⟩
theorem GB{i:Nat}{a:Int}{l:List Int}{s:(Nat→Bool)×Bool}:iO i (a::l) s=iO i l (if a<0∨(i:Int)≤a then(s.1,false)else(VZ s.1 a.toNat,s.2)):=rfl
theorem sC{α:Type}{l:List α}{m:Nat}{a:α}(h:l[m]? =some a):l.drop m=a::l.drop (m+1):=by
 obtain⟨h1,h2⟩:=zq.1 h;rw [Zw h1,h2]
theorem wX{w:World}{ad:Addr}{i k:Nat}{v:Value}:(w.cell? (ad.add (i+(k+1)))=some v)=(w.cell? ⟨(ad.add i).block,(ad.add i).off+(k+1),none⟩=some v):=by
 rw [←ru];rfl
theorem uQ{l:List Int}{x:Int}{k:Nat}(h:l[k]? =some x):l.contains x=true:=by
 rw [List.contains_iff_mem];exact zC h
theorem uR{l:List Int}{x:Int}(h: ∀k:Nat,k<l.length→l[k]? ≠some x):l.contains x=false:=by
 cases hc:l.contains x
 ·rfl
 ·rw [List.contains_iff_mem]at hc
  obtain⟨k,hk,e⟩:=List.getElem_of_mem hc;exact absurd (by rw [zk hk,e]) (h k hk)
theorem tZ(w:World)(x:Int):IV (w.alloc (.cells #[.int .i64 x] 3)) (w.heap.size+1) (.slice (some ⟨w.heap.size,0,none⟩) 1 1) [x]:=by
 refine⟨_,_,rfl,za _,by unfold maxLen;decide,rfl,fun _=>⟨_,rfl,Nat.lt_succ_self _,fun j u hj=> ?_⟩⟩
 have h:=(ai.new w 3 #[.int .i64 x]).cell 0
 match j,hj with
 |0,hj=>
  have:u= .int .i64 x:=by simpa [aZ]using hj.symm
  subst this;exact h
 |j+1,hj=>simp [aZ]at hj
theorem bm(w:World)(B:Nat):IV w B (.slice none 0 0) []:=⟨none,0,rfl,za _,by unfold maxLen;omega,aT.none_⟩
theorem IV.more{w:World}{B B':Nat}{v:Value}{l:List Int}(h:IV w B v l)(hB:B≤B'):IV w B' v l:=by
 obtain⟨A,c,e,h1,h2,h3⟩:=h;exact⟨A,c,e,h1,h2,h3.more hB⟩
theorem IV.below{w w':World}{v:Value}{l:List Int}(h:IV w w.heap.size v l)(hb:Below w.heap.size w w'):IV w' w'.heap.size v l:=
 (h.keep (fun _ hp=>hb.cell hp)).more hb.size
def wY(w:World)(l:List Int)(e:Ending)(w':World):Prop:= ∃v,e= .returned v∧IV w' w'.heap.size v l∧Below w.heap.size w w'
theorem Na(w:World)(o:Obj)(x:Int):IV ((w.alloc o).alloc (.cells #[.int .i64 x] 3)) ((w.alloc o).alloc (.cells #[.int .i64 x] 3)).heap.size (.slice (some ⟨w.heap.size+1,0,none⟩) 1 1) [x]:=by
 have h:=tZ (w.alloc o) x;rw [show(w.alloc o).heap.size=w.heap.size+1 by simp]at h
 exact h.more (by simp)
set_option maxRecDepth 100000
set_option maxHeartbeats 2000000
open Lib renaming hid→J
open Go.RowKit LamM CpsM
theorem vZ(L:List Fl)(A:Option Addr)(c n:Nat)(aJ:Nat)(w:World)(hr:aJ<L.length)(hn:n=aJ+1)(hN:NF w w.heap.size (.slice A L.length c) L):
 Calls prog 195 #[.slice A L.length c, .int .i64 (aJ:Int)] w (pR (nR L) aJ n w):=by
 obtain⟨i0,gF,gX,dw,eU⟩:=Zv af4;obtain⟨A',c',e,Qa,JH⟩:=hN.len;injection e with e1 e2 e3
 subst e1 e3;have hLn:L.length≤1300000000000:=by omega
 have xI:=fun j=>below_le (nR L) aJ j
 obtain⟨T,hT⟩: ∃T,ay (nR L) aJ=T:=⟨_,rfl⟩;have HT:=J hT;have HTB:Hid (fq (nR L) (aJ+1) (VZ (fun _=>false) aJ,true)=T):=J hT
 have HN:=J hN;have hnr:n≤L.length:=by omega
 have lj:n≤aJ+1:=by omega
 have gW:aJ+1≤n:=by omega
 clear hN hT xI hn;unfold pR;rw [HT.out];go_enter func195,ntmps195;go_wp2_with (refine wpList_make_full _ rfl _ _ _ rfl w.heap.size 4 i0 (.bool false) 1 ajE gF gX dw _ _ _ _ n rfl rfl (by omega) (by omega) (by rw [eU];omega) (by unfold maxLen;omega) (za _) ?_)
 intro w1 cm iF;rw [yw]at cm;have bW:Below w.heap.size w w1:=(zg _ _).grown iF (za _) (fun k hk=>by cases hk)
 obtain⟨g,hg⟩: ∃g,g=w.heap.size:=⟨_,rfl⟩;rw [←hg]at cm⊢;have hgl:g<w1.heap.size:=(zr cm g rfl).2;have hrn:aJ<n:=by omega
 have c1:w1.cell? ⟨g,aJ,none⟩=some (.bool false):=by
  rw [zM cm aJ (by omega),eY hrn]
 have f1:=Zt cm aJ;have gK:=(Z7 cm aJ (.bool true)).1;rw [sD hrn]at gK;have oi:=J gK;have UU:=J (bW.setCell (p:=⟨g,aJ,none⟩) (by show w.heap.size≤g;omega) (.bool true))
 have hri:(aJ:Int)<(n:Int):=by omega
 have HG:=J hg;have xX:w.heap.size≤g:=by omega
 clear cm iF bW gK hg
 go_wp2
 go_loopw [7,8] (fun ok i wr=> ∃(k:Nat) (f:Nat→Bool) (b:Bool),k≤n∧AtI k i∧ok= .bool b∧Hid (fq (nR L) k (f,b)=T)∧Hid (wr.ownsRow g 4 1 (.slice (some ⟨g,0,none⟩) n n) n (dJ n f))∧Hid (Below w.heap.size w wr)) (fun _ i _=>(intOf i+1).toNat)
 case atStart=>exact⟨aJ+1,_,true,by omega, .inr ⟨aJ,rfl,rfl⟩,rfl,HTB,oi,UU⟩
 case round=>
  obtain⟨k,f,b,hk,hi,rfl,HQ,tp,HB⟩:=hrel
  rcases hi with⟨rfl,rfl⟩|⟨j,rfl,rfl⟩
  ·have hQ:T=(f,b):=HQ.out.symm
   have HO:=J (show T.1=f∧T.2=b by rw [hQ];exact⟨rfl,rfl⟩)
   have hgw:w.heap.size≤g:=by omega
   clear hQ;go_wp2_with fail
   go_ret2
   exact⟨g,by rw [HO.out.2];rfl,hgw,by rw [HO.out.1];exact tp.out,HB.out⟩
  ·have hjn:j<n:=by omega
   have aoH:(j:Int)<(n:Int):=by omega
   have cj:=zM tp.out j (by omega)
   rw [eY hjn]at cj
   cases hf:f j
   ·rw [hf]at cj
    have qX:=J (show fq (nR L) j (f,b)=T by have:=HQ.out;unfold fq at this;rw [show(f,b).1 j=false from hf,ze (by decide)]at this;exact this)
    clear hf;go_wp2_with fail
    go_roundw
    case rel=>
     have hs:=AtI.start j;exact⟨j,f,b,by omega,hs,rfl,qX,tp,HB⟩
    case measure=>simp [intOf]
   ·rw [hf]at cj
    obtain⟨t,ht⟩: ∃t,L[j]? =some t:=⟨_,zk (by omega)⟩
    have HA:=J (show oR (nR L) j=t.args from Cx ht)
    have qX:=J (show fq (nR L) j (iO j t.args (f,b))=T by have:=HQ.out;unfold fq at this;rw [show(f,b).1 j=true from hf,zh rfl,HA.out]at this;exact this)
    have hNr:=HN.out.keep (fun p hp=>HB.out.cell hp)
    obtain⟨ad,vv,kv,av,rfl,had,xJ,_,_,_,_,_,_,_,_,ca⟩:=hNr.at_ ht;rw [wX]at ca;obtain⟨Aa,na,rfl,hna,hnm⟩:=xJ.a.len;have hal:t.args.length≤9223372036854775807:=by unfold maxLen at hnm;omega
    have HV:=J xJ.a;have HRA:=J xJ.ra;have hjL:(j:Int)<(L.length:Int):=by omega
    clear hf ht xJ hNr;generalize t.args=args at *;obtain⟨S,hS⟩: ∃S,iO j args (f,b)=S:=⟨_,rfl⟩;have YQ:Hid (iO j (args.drop 0) (f,b)=S):=J hS;rw [hS]at qX;clear hS;go_wp2_with fail
    go_loopw [7,33] (fun ok ix wr2=> ∃(m:Nat) (f2:Nat→Bool) (b2:Bool),m≤args.length∧ix= .int .i64 (m:Int)∧ok= .bool b2∧Hid (iO j (args.drop m) (f2,b2)=S)∧Hid (wr2.ownsRow g 4 1 (.slice (some ⟨g,0,none⟩) n n) n (dJ n f2))∧Hid (Below w.heap.size w wr2)) (fun _ i _=>args.length-(intOf i).toNat)
    case atStart=>exact⟨0,f,b,zO _,rfl,rfl,YQ,tp,HB⟩
    case round=>
     obtain⟨m,f2,b2,hm,rfl,rfl,HS,E5,bM⟩:=hrel
     rcases zj m args.length with bw|iE
     ·obtain⟨a,ha⟩: ∃a,args[m]? =some a:=⟨_,zk bw⟩
      obtain⟨aa,rfl,haa,kX⟩:=(HV.out.keep (fun p hp=>(bM.out.cell hp).trans (HB.out.cell hp).symm)).at_ ha
      have hra:=HRA.out a (zC ha);have qu:=HS.out;rw [sC ha,GB]at qu;have rP:(m:Int)<(args.length:Int):=by omega
      clear ha
      by_cases h1:a<0
      ·rw [zh (.inl h1)]at qu
       have sZ:=J qu;clear qu;go_wp2_with fail
       go_roundw
       case rel=>exact⟨m+1,f2,false,by omega,by go_num,rfl,sZ,E5,bM⟩
       case measure=>simp [intOf];omega
      ·by_cases h2:(j:Int)≤a
       ·rw [zh (.inr h2)]at qu
        have sZ:=J qu;have q1:decide (a<0)=false:=zb h1;have q2:decide ((j:Int)≤a)=true:=zc h2;clear qu;go_wp2_with fail
        go_roundw
        case rel=>exact⟨m+1,f2,false,by omega,by go_num,rfl,sZ,E5,bM⟩
        case measure=>simp [intOf];omega
       ·rw [ze (by rintro(h|h)<;>omega)]at qu
        obtain⟨x,rfl⟩: ∃x:Nat,a=(x:Int):=⟨a.toNat,by omega⟩
        rw [zv]at qu;have sZ:=J qu;have gY:(x:Int)<(n:Int):=by omega
        have cx:=zM E5.out x (by omega)
        rw [eY (by omega)]at cx
        have fx:=Zt E5.out x;have gK:=(Z7 E5.out x (.bool true)).1;rw [sD (by omega)]at gK
        have E4:=J gK;have dF:=J (bM.out.setCell (p:=⟨g,x,none⟩) (by show w.heap.size≤g;omega) (.bool true))
        have hxj:((x:Nat):Int)<(j:Int):=by omega
        clear qu gK h1 h2;go_wp2_with fail
        go_roundw
        case rel=>exact⟨m+1,_,b2,by omega,by go_num,rfl,sZ,E4,dF⟩
        case measure=>simp [intOf];omega
     ·have B_:m=args.length:=by omega
      have oq:=J (show(f2,b2)=S by have:=HS.out;rw [Zx (by omega)]at this;exact this)
      have QI:=J (show fq (nR L) j (f2,b2)=T by rw [oq.out];exact qX.out)
      have q0:(args.length:Int)≤(m:Int):=by omega
      clear B_ iE hm;go_wp2_with fail
      go_roundw
      case rel=>
       have hs:=AtI.start j;exact⟨j,f2,b2,by omega,hs,rfl,QI,E5,bM⟩
      case measure=>simp [intOf]
theorem DK:(prog.info? 3).map (fun i=>(i.zero,i.size,i.bytes))=some (some (.int .i64 0),1,8):=by kernel_rfl
theorem af6:prog.underlying 25=some (.slice 3):=by kernel_rfl
theorem Tw(w:World)(x:Value)(t:TypeId): ∀j u,[x][j]? =some u→(w.alloc (.cells #[x] t)).cell? ((⟨w.heap.size,0,none⟩:Addr).add j)=some u:=by
 intro j u hj
 match j,hj with
 |0,hj=>
  have:u=x:=by simpa using hj.symm
  subst this;exact(ai.new w t #[u]).cell 0
 |j+1,hj=>simp at hj
theorem Yf(x:Int): ∀u∈[Value.int .i64 x],u.oneCell'=true:=by
 intro u hu;rw [zt]at hu;subst hu;rfl
def OI(base:Nat)(w:World)(v:Value)(l:List Int):Prop:=w.ownsRow base 3 1 v l.length (aZ l)
theorem DL(a b:List Int):aZ (a++b)=aZ a++aZ b:=by unfold aZ;simp
theorem OI.app{base:Nat}{w:World}{v:Value}{a b:List Int}(h:w.ownsRow base 3 1 v (a.length+b.length) (aZ a++aZ b)):OI base w v (a++b):=by
 unfold OI;rw [zS,DL];exact h
theorem OI.one{base:Nat}{w:World}{v:Value}{a:List Int}{x:Int}(h:w.ownsRow base 3 1 v (a.length+1) (aZ a++[.int .i64 x])):OI base w v (a++[x]):=OI.app (b:=[x]) h
theorem OI.iv{base:Nat}{w:World}{v:Value}{l:List Int}(h:OI base w v l):IV w w.heap.size v l:=by
 rcases h.2 with⟨rfl,h0⟩|⟨g,cap,Co,rfl,h1,h2,h3,h4,h5⟩
 ·obtain rfl:l=[]:=List.eq_nil_of_length_eq_zero h0
  exact bm _ _
 ·exact⟨_,_,rfl,h3,h4,aT.of_own (c:=cap) h⟩
def aa1(l:List Int)(x:Int)(k:Nat)(out:List Int)(dn:Bool):Prop:=
 (dn=false∧out=l.take k∧∀y∈l.take k,y<x)∨(dn=true∧∃j,j≤k∧out=l.take j++x::(l.drop j).take (k-j)∧(∀y∈l.take j,y<x)∧∀y∈l.drop j,x<y)
theorem aa1.len{l:List Int}{x:Int}{k:Nat}{out:List Int}{dn:Bool}(h:aa1 l x k out dn):out.length≤l.length+1:=by
 rcases h with⟨_,rfl,_⟩|⟨_,j,hj,rfl,_,_⟩
 ·rw [List.length_take];omega
 ·simp;omega
theorem OI.drew{base:Nat}{w:World}{v:Value}{l:List Int}(h:OI base w v l):OI base w.drew v l:=h
theorem IV.tail{w:World}{B:Nat}{A:Option Addr}{n c:Nat}{x:Int}{l:List Int}(h:IV w B (.slice A n c) (x::l)):IV w B (.slice (if c=1 then A else A.map (·.add 1)) l.length (c-1)) l:=by
 obtain⟨A',c',e,h1,h2,h3⟩:=h;injection e with e1 e2 e3
 subst e1 e3;rw [Za]at h1 h3;have h4:=h3.cut (k:=1) (cap:=c) (by omega) h1
 refine⟨_,_,rfl,by omega,by omega,?_⟩
 rw [Nat.add_sub_cancel,zP]at h4;exact h4
theorem IV.cons{w:World}{B:Nat}{v:Value}{x:Int}{l:List Int}(h:IV w B v (x::l)): ∃ad c,v= .slice (some ad) (l.length+1) c∧ad.block<B∧w.cell? ad=some (.int .i64 x)∧l.length+1≤c∧c≤maxLen:=by
 obtain⟨A,c,rfl,h1,h2⟩:=h.len;obtain⟨ad,rfl,hb,hc⟩:=h.at_ (j:=0) rfl;exact⟨ad,c,rfl,hb,hc,h1,h2⟩
theorem OI.drewN{base:Nat}{w:World}{v:Value}{l:List Int}(h:OI base w v l)(n:Nat):OI base (w.drewN n) v l:=h
theorem IV.drew{w:World}{B:Nat}{v:Value}{l:List Int}(h:IV w B v l):IV w.drew B v l:=h
theorem IV.reads{w:World}{B n c:Nat}{A:Option Addr}{l:List Int}(h:IV w B (.slice A n c) l):aT w B 1 A l.length (aZ l):=by
 obtain⟨A',c',e,_,_,h3⟩:=h;injection e with e1 e2 e3
 subst e1;exact h3
theorem eR(l:List Int): ∀u∈aZ l,u.oneCell'=true:=by
 intro u hu;unfold aZ at hu;obtain⟨d,_,rfl⟩:=Ik.1 hu;rfl
theorem GC(x:Int)(w:World):Calls prog 337 #[.int .i64 x] w fun e w'=>e= .returned (.bool false)∧w=w':=by
 have q:=f_ (rfl:x=x);go_enter func337,ntmps337
 go_wp2
 go_ret;exact⟨rfl,rfl⟩
theorem GD(x:Int)(w:World):Calls prog 344 #[.int .i64 x] w fun e w'=>e= .returned (.bool false)∧w=w':=by
 have q:=f_ (rfl:x=x);go_enter func344,ntmps344
 go_wp2
 go_ret;exact⟨rfl,rfl⟩
theorem Tx(x y:Int)(w:World):Calls prog 336 #[.int .i64 x, .int .i64 y] w fun e w'=>e= .returned (.bool (decide (x<y)))∧w=w':=by
 have H:=J (fun x w=>GD x w)
 obtain⟨r,hr⟩: ∃r,decide (x<y)=r:=⟨_,rfl⟩;rw [hr];go_enter func336,ntmps336;go_wp2_with (go_at_call 344;(with_reducible refine(H.out _ _).q ?_));go_ret;exact⟨rfl,rfl⟩
def Nc(s:List Int)(v:Int):Nat:=(s.takeWhile fun x=>decide (x<v)).length
theorem KP{v:Int}: ∀{s:List Int} {i:Nat},i≤s.length→(∀k x,k<i→s[k]? =some x→x<v)→(∀x,s[i]? =some x→v≤x)→Nc s v=i
 |[],i,hi,_,_=>by simp at hi;subst hi;rfl
 |x::s,0,_,_,h=>by
  unfold Nc;rw [List.takeWhile_cons,ze (by have:=h x rfl;simp;omega)];rfl
 |x::s,i+1,hi,h1,h2=>by
  have h0:=h1 0 x (Nat.succ_pos _) rfl;have ih:=KP (s:=s) (i:=i) (v:=v) (by simp at hi;omega) (fun k y hk hy=>h1 (k+1) y (by omega) hy) (fun y hy=>h2 y hy)
  unfold Nc at ih⊢;rw [List.takeWhile_cons,zh (by simpa using h0),Za,ih]
theorem Ty{s:List Int}(hs:SS s){i j:Nat}{x y:Int}(hij:i<j)(hx:s[i]? =some x)(hy:s[j]? =some y):x<y:=by
 obtain⟨h1,rfl⟩:=zq.1 hx;obtain⟨h2,rfl⟩:=zq.1 hy;exact List.pairwise_iff_getElem.1 hs i j h1 h2 hij
def GE(s:List Int)(v:Int)(w:World)(e:Ending)(w':World):Prop:=e= .returned (.tuple #[.int .i64 (Nc s v:Nat), .bool (s.contains v)])∧w=w'
theorem Yg{l s:List Int}{k:Nat}{a:Int}(h:l[k]? =some a)(hc:s.contains a=true):l.any (fun v=>s.contains v)=true:=
 List.any_eq_true.2 ⟨a,zC h,hc⟩
theorem acQ{l s:List Int}(h: ∀j x,j<l.length→l[j]? =some x→s.contains x=false):l.any (fun v=>s.contains v)=false:=by
 rw [Bool.eq_false_iff];intro hc;obtain⟨x,hx,hcx⟩:=List.any_eq_true.1 hc;obtain⟨j,hj,e⟩:=List.getElem_of_mem hx;rw [h j x hj (by rw [zk hj,e])]at hcx
 cases hcx
def gC(r:Bool)(w:World)(e:Ending)(w':World):Prop:= ∃z:Int,e= .returned (.int .i64 z)∧(r=true→0≤z)∧(r=false→z= -1)∧w=w'
theorem Nd(l:List Int)(vl:Value)(x:Int)(B:Nat)(w:World)(nQ:IV w B vl l):
 Calls prog 338 #[vl, .int .i64 x] w (gC (l.contains x) w):=by
 obtain⟨A,c,rfl,h1,h2⟩:=nQ.len;have hl:l.length≤9223372036854775807:=by unfold maxLen at h2;omega
 have HV:=J nQ;have HY:=J (fun k (h:l[k]? =some x)=>uQ h)
 have HNO:=J (fun(h: ∀k:Nat,k<l.length→l[k]? ≠some x)=>uR h)
 unfold gC;obtain⟨r,hr⟩: ∃r,l.contains x=r:=⟨_,rfl⟩;rw [hr]at HY HNO⊢;clear nQ hr;go_enter func338,ntmps338
 go_wp2
 go_loopw [8] (fun i wr=>wr=w∧∃k:Nat,k≤l.length∧i= .int .i64 (k:Int)∧Hid (∀j:Nat,j<k→l[j]? ≠some x)) (fun i _=>l.length-(intOf i).toNat)
 case atStart=>exact⟨rfl,0,zO _,rfl,J (fun j h=>by omega)⟩
 case round=>
  obtain⟨rfl,k,hk,rfl,HK⟩:=hrel
  rcases zj k l.length with bw|iE
  ·obtain⟨a,ha⟩: ∃a,l[k]? =some a:=⟨_,zk bw⟩
   obtain⟨aa,rfl,_,ca⟩:=HV.out.at_ ha;have rP:(k:Int)<(l.length:Int):=by omega
   by_cases h:x=a
   ·have HR:=J (HY.out k (by rw [ha,h]))
    have q:=be h;clear h ha;go_wp2_with fail;go_ret;exact⟨(k:Int),rfl,fun _=>by omega,fun h=>(by rw [HR.out]at h;cases h),rfl⟩
   ·have q:=ag h
    have ot:=J (show∀j:Nat,j<k+1→l[j]? ≠some x from fun j hj e=>by
     rcases zj j k with h3|h3
     ·exact HK.out j h3 e
     ·obtain rfl:j=k:=by omega
      rw [ha]at e;exact h (zz e).symm)
    clear h ha;go_wp2_with fail
    go_roundw
    case rel=>exact⟨by first|rfl|trivial,k+1,by omega,by go_num,ot⟩
    case measure=>simp [intOf];omega
  ·have HR:=J (HNO.out (fun j hj=>HK.out j (by omega)))
   have q:(l.length:Int)≤(k:Int):=by omega
   clear iE hk;go_wp2_with fail;go_ret;exact⟨-1,rfl,fun h=>(by rw [HR.out]at h;cases h),fun _=>rfl,rfl⟩
theorem KQ(l:List Int)(vl:Value)(x:Int)(B:Nat)(w:World)(nQ:IV w B vl l):
 Calls prog 307 #[vl, .int .i64 x] w fun e w'=>e= .returned (.bool (l.contains x))∧w=w':=by
 have H:=J (Nd l vl x B w nQ);obtain⟨r,hr⟩: ∃r,l.contains x=r:=⟨_,rfl⟩;unfold gC at H;rw [hr]at H⊢;clear nQ hr;go_enter func307,ntmps307;go_wp2_with fail;go_at_call 338
 (with_reducible refine(H.out).mono ?_)
 rintro e w' ⟨z,rfl,dw,eU,rfl⟩
 cases r
 ·obtain rfl:=eU rfl
  clear dw eU;go_wp2_with fail;go_ret;exact⟨rfl,rfl⟩
 ·have hz:=dw rfl
  clear dw eU;go_wp2_with fail;go_ret;exact⟨by simp,rfl⟩
theorem Nf{s l:List Int}(h:l.any (fun v=>s.contains v)=false):oe s l=s:=by
 unfold oe;rw [List.filter_eq_self];intro x hx
 cases hc:l.contains x
 ·rfl
 ·rw [List.contains_iff_mem]at hc
  have:l.any (fun v=>s.contains v)=true:=List.any_eq_true.2 ⟨x,hc,List.contains_iff_mem.2 hx⟩
  rw [this]at h;cases h
theorem Ng{s l:List Int}{k:Nat}{a:Int}(h:s[k]? =some a):oe (s.take (k+1)) l=if l.contains a then oe (s.take k) l else oe (s.take k) l++[a]:=by
 unfold oe;rw [Io,h,List.filter_append];show _++[a].filter (fun v=> !l.contains v)=_
 cases hc:l.contains a
 ·rw [ze (by decide),show [a].filter (fun v=> !l.contains v)=[a]by rw [List.filter_cons,hc];rfl]
 ·rw [zh rfl,show [a].filter (fun v=> !l.contains v)=[]by rw [List.filter_cons,hc];rfl,ZQ]
theorem Tz(s l:List Int):(oe s l).length≤s.length:=List.length_filter_le _ _
theorem mZ{w:World}{B:Nat}{A:Option Addr}{n c:Nat}{l:List Int}(h:IV w B (.slice A n c) l){k:Nat}(hk:k≤l.length):IV w B (.slice A k c) (l.take k):=by
 obtain⟨A',c',e,h1,h2,h3⟩:=h;injection e with e1 e2 e3
 subst e1 e3;have hl:(l.take k).length=k:=by rw [List.length_take];omega
 refine⟨A,c,by rw [hl],by omega,h2,by simp [aZ],fun hn=> ?_⟩
 obtain⟨ad,rfl,hb,hc⟩:=h3.2 (by omega)
 refine⟨ad,rfl,hb,fun j u hj=>hc j u ?_⟩
 unfold aZ at hj⊢;rw [List.map_take,List.getElem?_take]at hj
 split at hj
 ·exact hj
 ·cases hj
theorem m9{w:World}{B:Nat}{A:Option Addr}{n c:Nat}{l:List Int}(h:IV w B (.slice A n c) l){k:Nat}(hk:k≤l.length):IV w B (.slice (if c=k then A else A.map (·.add k)) (l.length-k) (c-k)) (l.drop k):=by
 obtain⟨A',c',e,h1,h2,h3⟩:=h;injection e with e1 e2 e3
 subst e1 e3;have h4:=h3.cut (k:=k) (cap:=c) hk h1;refine⟨_,_,by rw [List.length_drop],by rw [List.length_drop];omega,by omega,?_⟩
 rw [Zj]at h4;rw [List.length_drop];unfold aZ at h4⊢;rw [List.map_drop];exact h4
theorem J6{l:List Int}{f:Int→Bool}:(!l.any fun a=> !f a)=l.all f:=by
 induction l with
 |nil=>rfl
 |cons a l ih=>rw [List.any_cons,List.all_cons,Bool.not_or,ih,Bool.not_not]
theorem Cw{l:List Int}{f:Int→Bool}{k:Nat}{a:Int}(h:l[k]? =some a)(hc:f a=true):l.any f=true:=
 List.any_eq_true.2 ⟨a,zC h,hc⟩
theorem J7{l:List Int}{f:Int→Bool}(h: ∀j x,j<l.length→l[j]? =some x→f x=false):l.any f=false:=by
 rw [Bool.eq_false_iff];intro hc;obtain⟨x,hx,hcx⟩:=List.any_eq_true.1 hc;obtain⟨j,hj,e⟩:=List.getElem_of_mem hx;rw [h j x hj (by rw [zk hj,e])]at hcx
 cases hcx
theorem yK(k:Int)(w:World):Calls prog 258 #[.int .i64 k] w fun e w'=>e= .returned (.bool (gh k))∧w=w':=by
 obtain⟨r,hr⟩: ∃r,gh k=r:=⟨_,rfl⟩;rw [hr];unfold gh at hr
 by_cases h1:1≤k
 ·have q1:=zc h1
  by_cases h2:k≤4
  ·have q2:=zc h2
   obtain rfl:r=true:=by rw [←hr,q1,q2];rfl
   clear h1 h2 hr;go_enter func258,ntmps258;go_wp2_with fail;go_ret;exact⟨rfl,rfl⟩
  ·have q2:=zb h2
   obtain rfl:r=false:=by rw [←hr,q1,q2];rfl
   clear h1 h2 hr;go_enter func258,ntmps258;go_wp2_with fail;go_ret;exact⟨rfl,rfl⟩
 ·have q1:=zb h1
  obtain rfl:r=false:=by rw [←hr,q1];rfl
  clear h1 hr;go_enter func258,ntmps258;go_wp2_with fail;go_ret;exact⟨rfl,rfl⟩
theorem yL(k:Int)(w:World):Calls prog 194 #[.int .i64 k] w fun e w'=>e= .returned (.bool (gv k))∧w=w':=by
 obtain⟨r,hr⟩: ∃r,gv k=r:=⟨_,rfl⟩;rw [hr];unfold gv at hr
 by_cases h1:5≤k
 ·have q1:=zc h1
  by_cases h2:k≤14
  ·have q2:=zc h2
   by_cases h3:k=10
   ·have q3:=f_ h3
    obtain rfl:r=false:=by rw [←hr,q1,q2,zb (fun h=>h h3)];rfl
    clear h1 h2 h3 hr;go_enter func194,ntmps194;go_wp2_with fail;go_ret;exact⟨rfl,rfl⟩
   ·have q3:=oS h3
    obtain rfl:r=true:=by rw [←hr,q1,q2,zc h3];rfl
    clear h1 h2 h3 hr;go_enter func194,ntmps194;go_wp2_with fail;go_ret;exact⟨rfl,rfl⟩
  ·have q2:=zb h2
   obtain rfl:r=false:=by rw [←hr,q1,q2];rfl
   clear h1 h2 hr;go_enter func194,ntmps194;go_wp2_with fail;go_ret;exact⟨rfl,rfl⟩
 ·have q1:=zb h1
  obtain rfl:r=false:=by rw [←hr,q1];rfl
  clear h1 hr;go_enter func194,ntmps194;go_wp2_with fail;go_ret;exact⟨rfl,rfl⟩
theorem FE(L:List Fl)(vl:Value)(a:Int)(g:Nat)(w:World)(hN:NF w w.heap.size vl L)(ha:0≤a∧a<(L.length:Int))(hg:w.cell? ⟨g,0,none⟩=some vl):
 Calls prog 303 #[.int .i64 a, .pointer (some ⟨g,0,none⟩)] w fun e w'=>e= .returned (.bool (!gh (cV L a)))∧w=w':=by
 obtain⟨x,rfl⟩: ∃x:Nat,a=(x:Int):=⟨a.toNat,by omega⟩
 obtain⟨t,ht⟩: ∃t,L[x]? =some t:=⟨_,zk (by omega)⟩
 obtain⟨A,c,rfl,h1,h2⟩:=hN.len;obtain⟨ad,vv,kv,av,rfl,had,_,ca,_⟩:=hN.at_ ht;rw [oy (by rw [zv];exact ht)]
 have HC:=J (yK t.k w);have hxl:(x:Int)<(L.length:Int):=ha.2;generalize gh t.k=r at *;clear hN ht ha;go_enter func303,ntmps303;go_wp2_with (go_at_call 258;(with_reducible refine(HC.out).q ?_));go_ret;exact⟨by cases r<;>rfl,rfl⟩
theorem AP(L:List Fl)(l:List Int)(vl v:Value)(g B:Nat)(w:World)(hN:NF w w.heap.size vl L)(hr: ∀a∈l,0≤a∧a<(L.length:Int))(nQ:IV w B v l)(hg:w.cell? ⟨g,0,none⟩=some vl):
 Calls prog 335 #[v, .func (.func 303) #[] #[.pointer (some ⟨g,0,none⟩)]] w (gC (l.any fun a=> !gh (cV L a)) w):=by
 obtain⟨A,c,rfl,h1,h2⟩:=nQ.len;have hl:l.length≤9223372036854775807:=by unfold maxLen at h2;omega
 have HV:=J nQ;have HW:=J (fun a (h:a∈l)=>FE L vl a g w hN (hr a h) hg)
 have HY:=J (fun k a (h:l[k]? =some a) (hc:(!gh (cV L a))=true)=>Cw (f:=fun a=> !gh (cV L a)) h hc)
 have HN:=J (J7 (l:=l) (f:=fun a=> !gh (cV L a)))
 unfold gC;obtain⟨r,hr2⟩: ∃r,(l.any fun a=> !gh (cV L a))=r:=⟨_,rfl⟩
 rw [hr2]at HY HN⊢;clear hr2 nQ hN hg hr;go_enter func335,ntmps335
 go_wp2
 go_loopw [8] (fun iv wr=>wr=w∧∃k:Nat,k≤l.length∧iv= .int .i64 (k:Int)∧Hid (∀j x,j<k→l[j]? =some x→(!gh (cV L x))=false)) (fun iv _=>l.length-(intOf iv).toNat)
 case atStart=>exact⟨rfl,0,zO _,rfl,J (fun j x h=>by omega)⟩
 case round=>
  obtain⟨rfl,k,hk,rfl,HK⟩:=hrel
  rcases zj k l.length with bw|iE
  ·obtain⟨a,ha⟩: ∃a,l[k]? =some a:=⟨_,zk bw⟩
   obtain⟨aa,rfl,_,ca⟩:=HV.out.at_ ha;have rP:(k:Int)<(l.length:Int):=by omega
   have AI:=J (HW.out a (zC ha))
   cases hca:(!gh (cV L a))
   ·rw [hca]at AI
    have ot:=J (show∀j x,j<k+1→l[j]? =some x→(!gh (cV L x))=false from fun j x hj hx=>by
     rcases zj j k with h3|h3
     ·exact HK.out j x h3 hx
     ·obtain rfl:j=k:=by omega
      rw [ha]at hx;rw [←zz hx];exact hca)
    clear ha hca;go_wp2_with (go_at_call 303;(with_reducible refine(AI.out).q ?_))
    go_roundw
    case rel=>exact⟨by first|rfl|trivial,k+1,by omega,by go_num,ot⟩
    case measure=>simp [intOf];omega
   ·rw [hca]at AI
    have HR:=J (HY.out k a ha hca);clear ha hca;go_wp2_with (go_at_call 303;(with_reducible refine(AI.out).q ?_));go_ret;exact⟨(k:Int),rfl,fun _=>by omega,fun h=>(by rw [HR.out]at h;cases h),rfl⟩
  ·have q:(l.length:Int)≤(k:Int):=by omega
   have HR:=J (HN.out (fun j x hj hx=>HK.out j x (by omega) hx))
   clear iE hk;go_wp2_with fail;go_ret;exact⟨-1,rfl,fun h=>(by rw [HR.out]at h;cases h),fun _=>rfl,rfl⟩
theorem AQ(L:List Fl)(l:List Int)(vl v:Value)(g B:Nat)(w:World)(hN:NF w w.heap.size vl L)(hr: ∀a∈l,0≤a∧a<(L.length:Int))(nQ:IV w B v l)(hg:w.cell? ⟨g,0,none⟩=some vl):
 Calls prog 302 #[v, .func (.func 303) #[] #[.pointer (some ⟨g,0,none⟩)]] w fun e w'=>e= .returned (.bool (l.any fun a=> !gh (cV L a)))∧w=w':=by
 have H:=J (AP L l vl v g B w hN hr nQ hg);obtain⟨r,hr2⟩: ∃r,(l.any fun a=> !gh (cV L a))=r:=⟨_,rfl⟩
 unfold gC at H;rw [hr2]at H⊢;clear nQ hN hg hr hr2;go_enter func302,ntmps302;go_wp2_with fail;go_at_call 335
 (with_reducible refine(H.out).mono ?_)
 rintro e w' ⟨z,rfl,dw,eU,rfl⟩
 cases r
 ·obtain rfl:=eU rfl
  clear dw eU;go_wp2_with fail;go_ret;exact⟨rfl,rfl⟩
 ·have hz:=dw rfl
  have qz:=zc hz;clear dw eU;go_wp2_with fail;go_ret;exact⟨by simp,rfl⟩
theorem fH(L:List Fl)(l:List Int)(vl v:Value)(w:World)(hN:NF w w.heap.size vl L)(hr: ∀a∈l,0≤a∧a<(L.length:Int))(hV:IV w w.heap.size v l):
 Calls prog 255 #[vl,v] w fun e w'=>e= .returned (.bool (dG L l))∧Below w.heap.size w w':=by
 obtain⟨A0,c0,rfl,_,_⟩:=hN.len;obtain⟨W,hW⟩: ∃W,w.alloc (.cells #[.slice A0 L.length c0] 22)=W:=⟨_,rfl⟩;have gZ:Below w.heap.size w W:=by rw [←hW];exact(zg _ _).alloc (za _) _
 have hcw:W.cell? ⟨w.heap.size,0,none⟩=some (.slice A0 L.length c0):=by rw [←hW];exact(ai.new w 22 #[.slice A0 L.length c0]).cell 0
 have HC:=J (AQ L l _ v w.heap.size W.heap.size W (hN.below gZ) hr (hV.below gZ) hcw);have HE:=J (show(!l.any fun a=> !gh (cV L a))=dG L l from J6)
 have HB:=J gZ;obtain⟨r,hr2⟩: ∃r,(l.any fun a=> !gh (cV L a))=r:=⟨_,rfl⟩
 rw [hr2]at HC HE;clear hN hV hr gZ hcw hr2;go_enter func255,ntmps255;go_wp2_with (go_at_call 302;(with_reducible refine(HC.out).q ?_));go_ret;exact⟨by rw [←HE.out];cases r<;>rfl,HB.out⟩
theorem FG(L:List Fl)(vl:Value)(a:Int)(g:Nat)(w:World)(hN:NF w w.heap.size vl L)(ha:0≤a∧a<(L.length:Int))(hg:w.cell? ⟨g,0,none⟩=some vl):
 Calls prog 304 #[.int .i64 a, .pointer (some ⟨g,0,none⟩)] w fun e w'=>e= .returned (.bool (!gv (cV L a)))∧w=w':=by
 obtain⟨x,rfl⟩: ∃x:Nat,a=(x:Int):=⟨a.toNat,by omega⟩
 obtain⟨t,ht⟩: ∃t,L[x]? =some t:=⟨_,zk (by omega)⟩
 obtain⟨A,c,rfl,h1,h2⟩:=hN.len;obtain⟨ad,vv,kv,av,rfl,had,_,ca,_⟩:=hN.at_ ht;rw [oy (by rw [zv];exact ht)]
 have HC:=J (yL t.k w);have hxl:(x:Int)<(L.length:Int):=ha.2;generalize gv t.k=r at *;clear hN ht ha;go_enter func304,ntmps304;go_wp2_with (go_at_call 194;(with_reducible refine(HC.out).q ?_));go_ret;exact⟨by cases r<;>rfl,rfl⟩
theorem AR(L:List Fl)(l:List Int)(vl v:Value)(g B:Nat)(w:World)(hN:NF w w.heap.size vl L)(hr: ∀a∈l,0≤a∧a<(L.length:Int))(nQ:IV w B v l)(hg:w.cell? ⟨g,0,none⟩=some vl):
 Calls prog 335 #[v, .func (.func 304) #[] #[.pointer (some ⟨g,0,none⟩)]] w (gC (l.any fun a=> !gv (cV L a)) w):=by
 obtain⟨A,c,rfl,h1,h2⟩:=nQ.len;have hl:l.length≤9223372036854775807:=by unfold maxLen at h2;omega
 have HV:=J nQ;have HW:=J (fun a (h:a∈l)=>FG L vl a g w hN (hr a h) hg)
 have HY:=J (fun k a (h:l[k]? =some a) (hc:(!gv (cV L a))=true)=>Cw (f:=fun a=> !gv (cV L a)) h hc)
 have HN:=J (J7 (l:=l) (f:=fun a=> !gv (cV L a)))
 unfold gC;obtain⟨r,hr2⟩: ∃r,(l.any fun a=> !gv (cV L a))=r:=⟨_,rfl⟩
 rw [hr2]at HY HN⊢;clear hr2 nQ hN hg hr;go_enter func335,ntmps335
 go_wp2
 go_loopw [8] (fun iv wr=>wr=w∧∃k:Nat,k≤l.length∧iv= .int .i64 (k:Int)∧Hid (∀j x,j<k→l[j]? =some x→(!gv (cV L x))=false)) (fun iv _=>l.length-(intOf iv).toNat)
 case atStart=>exact⟨rfl,0,zO _,rfl,J (fun j x h=>by omega)⟩
 case round=>
  obtain⟨rfl,k,hk,rfl,HK⟩:=hrel
  rcases zj k l.length with bw|iE
  ·obtain⟨a,ha⟩: ∃a,l[k]? =some a:=⟨_,zk bw⟩
   obtain⟨aa,rfl,_,ca⟩:=HV.out.at_ ha;have rP:(k:Int)<(l.length:Int):=by omega
   have AI:=J (HW.out a (zC ha))
   cases hca:(!gv (cV L a))
   ·rw [hca]at AI
    have ot:=J (show∀j x,j<k+1→l[j]? =some x→(!gv (cV L x))=false from fun j x hj hx=>by
     rcases zj j k with h3|h3
     ·exact HK.out j x h3 hx
     ·obtain rfl:j=k:=by omega
      rw [ha]at hx;rw [←zz hx];exact hca)
    clear ha hca;go_wp2_with (go_at_call 304;(with_reducible refine(AI.out).q ?_))
    go_roundw
    case rel=>exact⟨by first|rfl|trivial,k+1,by omega,by go_num,ot⟩
    case measure=>simp [intOf];omega
   ·rw [hca]at AI
    have HR:=J (HY.out k a ha hca);clear ha hca;go_wp2_with (go_at_call 304;(with_reducible refine(AI.out).q ?_));go_ret;exact⟨(k:Int),rfl,fun _=>by omega,fun h=>(by rw [HR.out]at h;cases h),rfl⟩
  ·have q:(l.length:Int)≤(k:Int):=by omega
   have HR:=J (HN.out (fun j x hj hx=>HK.out j x (by omega) hx))
   clear iE hk;go_wp2_with fail;go_ret;exact⟨-1,rfl,fun h=>(by rw [HR.out]at h;cases h),fun _=>rfl,rfl⟩
theorem AS(L:List Fl)(l:List Int)(vl v:Value)(g B:Nat)(w:World)(hN:NF w w.heap.size vl L)(hr: ∀a∈l,0≤a∧a<(L.length:Int))(nQ:IV w B v l)(hg:w.cell? ⟨g,0,none⟩=some vl):
 Calls prog 302 #[v, .func (.func 304) #[] #[.pointer (some ⟨g,0,none⟩)]] w fun e w'=>e= .returned (.bool (l.any fun a=> !gv (cV L a)))∧w=w':=by
 have H:=J (AR L l vl v g B w hN hr nQ hg);obtain⟨r,hr2⟩: ∃r,(l.any fun a=> !gv (cV L a))=r:=⟨_,rfl⟩
 unfold gC at H;rw [hr2]at H⊢;clear nQ hN hg hr hr2;go_enter func302,ntmps302;go_wp2_with fail;go_at_call 335
 (with_reducible refine(H.out).mono ?_)
 rintro e w' ⟨z,rfl,dw,eU,rfl⟩
 cases r
 ·obtain rfl:=eU rfl
  clear dw eU;go_wp2_with fail;go_ret;exact⟨rfl,rfl⟩
 ·have hz:=dw rfl
  have qz:=zc hz;clear dw eU;go_wp2_with fail;go_ret;exact⟨by simp,rfl⟩
theorem fI(L:List Fl)(l:List Int)(vl v:Value)(w:World)(hN:NF w w.heap.size vl L)(hr: ∀a∈l,0≤a∧a<(L.length:Int))(hV:IV w w.heap.size v l):
 Calls prog 256 #[vl,v] w fun e w'=>e= .returned (.bool (dQ L l))∧Below w.heap.size w w':=by
 obtain⟨A0,c0,rfl,_,_⟩:=hN.len;obtain⟨W,hW⟩: ∃W,w.alloc (.cells #[.slice A0 L.length c0] 22)=W:=⟨_,rfl⟩;have gZ:Below w.heap.size w W:=by rw [←hW];exact(zg _ _).alloc (za _) _
 have hcw:W.cell? ⟨w.heap.size,0,none⟩=some (.slice A0 L.length c0):=by rw [←hW];exact(ai.new w 22 #[.slice A0 L.length c0]).cell 0
 have HC:=J (AS L l _ v w.heap.size W.heap.size W (hN.below gZ) hr (hV.below gZ) hcw);have HE:=J (show(!l.any fun a=> !gv (cV L a))=dQ L l from J6)
 have HB:=J gZ;obtain⟨r,hr2⟩: ∃r,(l.any fun a=> !gv (cV L a))=r:=⟨_,rfl⟩
 rw [hr2]at HC HE;clear hN hV hr gZ hcw hr2;go_enter func256,ntmps256;go_wp2_with (go_at_call 302;(with_reducible refine(HC.out).q ?_));go_ret;exact⟨by rw [←HE.out];cases r<;>rfl,HB.out⟩
set_option maxHeartbeats 4000000
def Yh(base:Nat)(w:World)(l:List Int)(e:Ending)(w':World):Prop:= ∃v,e= .returned v∧OI base w' v l∧Below base w w'
theorem eh{w:World}{base:Nat}{e:TypeId}{size n:Nat}{v:Value}{xs:List Value}(h:w.ownsRow base e size v n xs): ∃a c,v= .slice a n c:=by
 rcases h.2 with⟨rfl,h0⟩|⟨g,cap,Co,rfl,_⟩
 ·exact⟨none,0,by rw [h0]⟩
 ·exact⟨_,_,rfl⟩
def TA(nm:List UInt8)(con args:Int)(ty:ByteArray)(rv:Value):List Value:=[.string ⟨nm.toArray⟩, .int .i64 con, .int .i64 args, .string ty,rv]
def dZ(con:Int)(T1 T2 T3:ByteArray)(rv:Value):List Value:=
 TA [43] con 2 T1 rv++(TA [45] con 2 T1 rv++(TA [42] con 2 T1 rv++(TA [126] con 1 T2 rv++(TA [97,98,115] con 1 T2 rv++(TA [60] con 2 T3 (.slice none 0 0)++(TA [60,61] con 2 T3 (.slice none 0 0)++(TA [62] con 2 T3 (.slice none 0 0)++TA [62,61] con 2 T3 (.slice none 0 0))))))))
theorem DM(con:Int)(T:ByteArray)(ra:Option Addr)(rn rc:Nat)(w:World)(hT:T.size≤100):Calls prog 21 #[.int .i64 con, .string T, .slice ra rn rc] w fun e w'=> ∃T1 T2 T3,e= .returned (.slice (some ⟨w.heap.size,0,none⟩) 9 9)∧w'=w.alloc (.cells (dZ con T1 T2 T3 (.slice ra rn rc)).toArray 36):=by
 go_enter func21,ntmps21;go_wp2_with fail;go_ret;exact⟨_,_,_,rfl,rfl⟩
def t_(x:Int):Bool:=decide (-4611686018427387904≤x∧x≤4611686018427387903)
theorem GF(x:Int):t_ x=(decide (-4611686018427387904≤x)&&decide (x≤4611686018427387903)):=by unfold t_;simp [Bool.decide_and]
theorem GG(x:Int)(w:World):Calls prog 49 #[.int .i64 x] w fun e w'=>e= .returned (.bool (t_ x))∧w=w':=by
 obtain⟨r,hr⟩: ∃r,t_ x=r:=⟨_,rfl⟩;rw [hr];rw [GF]at hr
 by_cases h1: -4611686018427387904≤x
 rotate_left
 focus
  have q1:=zb h1;rw [q1]at hr;obtain rfl:r=false:=hr.symm
 rotate_left
 focus
  by_cases h2:x≤4611686018427387903
  focus
   have q1:=zc h1;have q2:=zc h2;rw [q1,q2]at hr;obtain rfl:r=true:=hr.symm
  rotate_left
  focus
   have q1:=zc h1;have q2:=zb h2;rw [q1,q2]at hr;obtain rfl:r=false:=hr.symm
 all_goals
  clear hr;go_enter func49,ntmps49
  go_wp2
  go_ret;exact⟨rfl,rfl⟩
theorem xe(t:List UInt8)(w:World):Calls prog 50 #[.string ⟨t.toArray⟩] w fun e w'=>e= .returned (.bool (decide (t.length≤65536)))∧w=w':=by
 have hs:=eA t;obtain⟨r,hr⟩: ∃r,decide (t.length≤65536)=r:=⟨_,rfl⟩;have hr2:decide ((t.length:Int)≤65536)=r:=by rw [←hr];congr 1;exact propext ⟨fun h=>by omega,fun h=>by omega⟩
 rw [hr];go_enter func50,ntmps50
 go_wp2
 go_ret;exact⟨rfl,rfl⟩
def DN(y:Ky):Value:= .agg #[.int .i64 y.k, .int .i64 y.i, .string ⟨y.t.toArray⟩]
def Yi(y:Ky):Obj:= .cells #[.int .i64 y.k, .int .i64 y.i, .string ⟨y.t.toArray⟩] 176
theorem rA: ∀(l:List Ky) (i:Nat) (y:Ky),l[i]? =some y→(fz l)[i*3]? =some (.int .i64 y.k)∧(fz l)[i*3+1]? =some (.int .i64 y.i)∧(fz l)[i*3+2]? =some (.string ⟨y.t.toArray⟩)
 |[],i,y,h=>by simp at h
 |x::l,0,y,h=>by
  have:x=y:=by simpa using h
  subst this;exact⟨rfl,rfl,rfl⟩
 |x::l,i+1,y,h=>by
  have ih:=rA l i y (by simpa using h)
  have e:fz (x::l)=[.int .i64 x.k, .int .i64 x.i, .string ⟨x.t.toArray⟩]++fz l:=by unfold fz;rw [List.flatMap_cons]
  rw [e,show(i+1)*3=3+i*3 by omega]
  have sh: ∀m,([.int .i64 x.k, .int .i64 x.i, .string ⟨x.t.toArray⟩]++fz l:List Value)[3+m]? =(fz l)[m]? :=fun m=>by
   rw [List.getElem?_append_right (by simp),show 3+m-[Value.int .i64 x.k, .int .i64 x.i, .string ⟨x.t.toArray⟩].length=m by simp]
  rw [sh,show 3+i*3+1=3+(i*3+1)by omega,sh,show 3+i*3+2=3+(i*3+2)by omega,sh]
  exact ih
theorem KV.at_{w:World}{B:Nat}{A:Option Addr}{n c:Nat}{l:List Ky}(h:KV w B (.slice A n c) l){j:Nat}{y:Ky}(hj:l[j]? =some y):
 ∃ad,A=some ad∧ad.block<B∧w.cell? (ad.add (j*3))=some (.int .i64 y.k)∧w.cell? (ad.add (j*3+(0+1)))=some (.int .i64 y.i)∧w.cell? (ad.add (j*3+(1+1)))=some (.string ⟨y.t.toArray⟩):=by
 obtain⟨A',c',e,_,_,hr⟩:=h;injection e with e1 e2 e3
 subst e1 e3;have bw:j<l.length:=(zq.1 hj).1;obtain⟨ad,hA,hb,hc⟩:=hr.2 (by omega)
 obtain⟨v0,v1,v2⟩:=rA l j y hj;exact⟨ad,hA,hb,hc _ _ v0,hc _ _ v1,hc _ _ v2⟩
theorem KV.len{w:World}{B:Nat}{v:Value}{l:List Ky}(h:KV w B v l): ∃A c,v= .slice A l.length c∧l.length≤c∧c≤maxLen:=by
 obtain⟨A,c,e,h1,h2,_⟩:=h;exact⟨A,c,e,h1,h2⟩
theorem Yj{l:List Ky}{k:Nat}{a:Ky}(h:l[k]? =some a)(hc:fP a=false):l.all fP=false:=by
 rw [Bool.eq_false_iff];intro ha;rw [List.all_eq_true]at ha;rw [ha a (zC h)]at hc;cases hc
theorem acT{l:List Ky}(h: ∀j x,j<l.length→l[j]? =some x→fP x=true):l.all fP=true:=by
 rw [List.all_eq_true];intro x hx;obtain⟨j,hj,e⟩:=List.getElem_of_mem hx;exact h j x hj (by rw [zk hj,e])
def acU(r:Bool)(w:World)(e:Ending)(w':World):Prop:= ∃z:Int,e= .returned (.int .i64 z)∧(r=false→0≤z)∧(r=true→z= -1)∧Below w.heap.size w w'
end Go.Proofs.YtcpmiplofbfmfaaGreatDoor
