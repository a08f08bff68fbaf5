/- Cps: union, without; keys. -/
import Derived.Test.YtcpmiplofbfmfaaGreatDoorA01
import Derived.Deep.Fields
import Derived.Deep.Strs
set_option linter.all false
set_option maxRecDepth 100000
set_option maxHeartbeats 4000000
namespace Go.Proofs.YtcpmiplofbfmfaaGreatDoor
open Tryz
open Lib renaming hid→J
open Go.RowKit LamM CpsM
theorem oA:prog.underlying 271=some (.slice 3):=by kernel_rfl
theorem FJ(a b:List Int)(va vb:Value)(w:World)(hsa:SS a)(hsb:SS b)(Qc:a.length≤2000000000000)(Ll:b.length≤2000000000000)(ha:IV w w.heap.size va a)(hb:IV w w.heap.size vb b):
 Calls prog 259 #[va,vb] w (wY w (uS a b)):=by
 obtain⟨i0,gF,gX,dw,eU⟩:=Zv DK
 rcases b with _|⟨y0,b0⟩
 ·obtain⟨A,c,rfl,h1,h2⟩:=ha.len
  obtain⟨A',c',rfl,h1',h2'⟩:=hb.len;have HA:=J ha;clear ha hb hsa hsb;rw [KO];go_enter func259,ntmps259;go_wp2_with fail;go_ret;exact⟨_,rfl,HA.out,zg _ _⟩
 ·obtain⟨A,c,rfl,h1,h2⟩:=ha.len
  obtain⟨bd,c',rfl,hbd,cb,h1',h2'⟩:=hb.cons;have HA:=J ha;have HB:=J hb;have HSA:=J hsa;have QJ:=J hsb;rw [Za]at Ll;obtain⟨n,hn⟩: ∃n,a.length+(b0.length+1)=n:=⟨_,rfl⟩;have lj:n≤a.length+(b0.length+1):=by omega
  have gW:a.length+(b0.length+1)≤n:=by omega
  obtain⟨R,hR⟩: ∃R,uS a (y0::b0)=R:=⟨_,rfl⟩;have HR:=J hR;rw [hR];clear ha hb hsa hsb hn hR;go_enter func259,ntmps259;go_wp2_with (refine wpList_make_own _ rfl _ _ _ rfl w.heap.size 3 i0 (.int .i64 0) 1 oA gF gX dw _ _ _ n rfl rfl (by omega) (by rw [eU];omega) (by unfold maxLen;omega) (za _) ?_)
  intro w1 cm iF;have oi:=J (show OI w.heap.size w1 _ []from cm)
  have bp:=J ((zg w.heap.size w).grown iF (za _) (fun k hk=>by cases hk))
  have HA1:=J (HA.out.keep (fun p hp=>bp.out.cell hp))
  have HBB:=J (HB.out.keep (fun p hp=>bp.out.cell hp))
  clear cm iF HA HB;go_wp2_with fail
  go_loopg [0,1,5] (a.length+(b0.length+1)) (fun gk av bv o wr=> ∃p q out:List Int,p.length+q.length=gk∧out.length+gk≤n∧Hid (IV wr w.heap.size av p)∧Hid (IV wr w.heap.size bv q)∧Hid (SS p)∧Hid (SS q)∧Hid (OI w.heap.size wr o out)∧Hid (out++uS p q=R)∧Hid (Below w.heap.size w wr))
  case atStart=>exact⟨a,y0::b0,[],by simp,by simp;omega,HA1,HBB,HSA,QJ,oi,HR,bp⟩
  case round=>
   obtain⟨p,q,out,hpq,hon,HP,HQ,HSP,HSQ,HO,oj,dD⟩:=hrel;have dq:=dD.out.size;have V7:p.length+q.length≤gk:=by omega
   have yC:gk≤p.length+q.length:=by omega
   clear hpq
   rcases p with _|⟨x,p⟩
   ·have uo:=J (show out++q=R by have:=oj.out;rw [BE HSQ.out]at this;exact this)
    rw [ZP]at V7 yC;obtain⟨PA,pc,rfl,V_,Cn⟩:=HP.out.len;obtain⟨QA,qc,rfl,hql,hqc⟩:=HQ.out.len;have HRP:=J (HP.out.reads);have HRQ:=J (HQ.out.reads);go_wp2_with (at_builtin;refine aU _ rfl _ _ 271 rfl w.heap.size 3 i0 (.int .i64 0) 1 8 oA gF gX dw eU rfl (by decide) _ _ _ rfl HO.out w.heap.size _ _ _ _ rfl HRP.out (eR _) (by have:=(ZP:([]:List Int).length=0);unfold maxLen;omega) (by have:=(ZP:([]:List Int).length=0);omega) (by omega) ?_)
    intro v2 w2 bX db _;have rR:=J (show OI w.heap.size w2 v2 (out)from(by have:=OI.app (a:=out) (b:=[]) bX;rwa [ZQ]at this))
    have bM:=J (dD.out.grown db (by omega) (fun j hj=>(zr HO.out j hj).1))
    have adu:=J (HRQ.out.keep (fun p hp=>(bM.out.cell hp).trans (dD.out.cell hp).symm))
    have ajW:=bM.out.size;have agk:(out).length=out.length:=by simp
    clear bX db;go_wp2_with (at_builtin;refine aU _ rfl _ _ 271 rfl w.heap.size 3 i0 (.int .i64 0) 1 8 oA gF gX dw eU rfl (by decide) _ _ _ rfl rR.out w.heap.size _ _ _ _ rfl adu.out (eR _) (by have:=(ZP:([]:List Int).length=0);unfold maxLen;omega) (by have:=(ZP:([]:List Int).length=0);omega) (by omega) ?_)
    intro v3 w3 mV kY _;have E4:=J (show OI w.heap.size w3 v3 R from by rw [←uo.out];exact OI.app (a:=out) (b:=q) mV)
    have dF:=J (bM.out.grown kY (by omega) (fun j hj=>(zr rR.out j hj).1))
    clear mV kY;go_wp2_with fail;go_ret;exact⟨_,rfl,E4.out.iv,dF.out⟩
   ·rcases q with _|⟨y,q⟩
    ·have uo:=J (show out++(x::p)=R by have:=oj.out;rw [KO]at this;exact this)
     rw [ZP,Za]at V7 yC;obtain⟨PA,pc,rfl,V_,Cn⟩:=HP.out.len;obtain⟨QA,qc,rfl,hql,hqc⟩:=HQ.out.len;have HRP:=J (HP.out.reads);have HRQ:=J (HQ.out.reads);go_wp2_with (at_builtin;refine aU _ rfl _ _ 271 rfl w.heap.size 3 i0 (.int .i64 0) 1 8 oA gF gX dw eU rfl (by decide) _ _ _ rfl HO.out w.heap.size _ _ _ _ rfl HRP.out (eR _) (by have:=(Za:(x::p).length=p.length+1);unfold maxLen;omega) (by have:=(Za:(x::p).length=p.length+1);omega) (by omega) ?_)
     intro v2 w2 bX db _;have rR:=J (show OI w.heap.size w2 v2 (out++(x::p))from OI.app (a:=out) (b:=x::p) bX)
     have bM:=J (dD.out.grown db (by omega) (fun j hj=>(zr HO.out j hj).1))
     have adu:=J (HRQ.out.keep (fun p hp=>(bM.out.cell hp).trans (dD.out.cell hp).symm))
     have ajW:=bM.out.size;have agk:(out++(x::p)).length=out.length+(p.length+1):=by simp
     clear bX db;go_wp2_with (at_builtin;refine aU _ rfl _ _ 271 rfl w.heap.size 3 i0 (.int .i64 0) 1 8 oA gF gX dw eU rfl (by decide) _ _ _ rfl rR.out w.heap.size _ _ _ _ rfl adu.out (eR _) (by have:=(ZP:([]:List Int).length=0);unfold maxLen;omega) (by have:=(ZP:([]:List Int).length=0);omega) (by omega) ?_)
     intro v3 w3 mV kY _;have E4:=J (show OI w.heap.size w3 v3 R from by rw [←uo.out];exact(by have:=OI.app (a:=out++(x::p)) (b:=[]) (by rw [agk];exact mV);rwa [ZQ]at this))
     have dF:=J (bM.out.grown kY (by omega) (fun j hj=>(zr rR.out j hj).1))
     clear mV kY;go_wp2_with fail;go_ret;exact⟨_,rfl,E4.out.iv,dF.out⟩
    ·obtain⟨pd,pc,rfl,hpd,cp,V_,Cn⟩:=HP.out.cons
     obtain⟨qd,qc,rfl,hqd,cq,hql,hqc⟩:=HQ.out.cons;rw [Za,Za]at V7 yC;have Qb:=dD;obtain⟨PT,hPT⟩: ∃PT,(if pc=1 then some pd else some ({block:=pd.block,off:=pd.off+1}:Addr))=PT:=⟨_,rfl⟩
     obtain⟨QT,hQT⟩: ∃QT,(if qc=1 then some qd else some ({block:=qd.block,off:=qd.off+1}:Addr))=QT:=⟨_,rfl⟩
     have V8:=J (show IV wr w.heap.size (.slice PT p.length (pc-1)) p by rw [←hPT];exact HP.out.tail)
     have HQT:=J (show IV wr w.heap.size (.slice QT q.length (qc-1)) q by rw [←hQT];exact HQ.out.tail)
     have z1:(0:Int)<(p.length:Int)+1:=by omega
     have z2:(0:Int)<(q.length:Int)+1:=by omega
     have r1:(1:Int)≤(p.length:Int)+1:=by omega
     have r2:(1:Int)≤(q.length:Int)+1:=by omega
     have r3:(1:Int)≤((p.length+1:Nat):Int):=by omega
     have r4:(1:Int)≤((q.length+1:Nat):Int):=by omega
     by_cases bw:x<y
     ·have q1:=zc bw
      have uo:=J (show(out++[x])++uS p (y::q)=R by have:=oj.out;rw [acN HSP.out HSQ.out bw]at this;simpa using this)
      go_wp2_with fail
      go_quiet (fail)
      have oi:=J (OI.drewN HO.out nq);have bp:=J (below_drewN dD.out nq);have V9:(wr.drewN nq).cell? pd=some (.int .i64 x):=cp;have YR:(wr.drewN nq).cell? qd=some (.int .i64 y):=cq;generalize wr.drewN nq=w1 at *;go_wp2_with fail;have Qd:=bp.out.size
      go_region_held3 (fun w'=>w'.cell? pd=some (.int .i64 x)) (first|with_reducible exact CP2.out|go_keep) (first
                    |(refine cQ _ rfl _ _ 271 rfl w.heap.size 3 i0 (.int .i64 0) 1 8 oA gF gX dw eU rfl (by decide) _ _ _ rfl (World.ownsRow.drew (ZN oi.out _)) _ _ _ _ _ rfl (IV.reads (IV.drew (tZ _ _))) (eR _) (by have:=(Za:([x]:List Int).length=0+1);unfold maxLen;omega) (by have:=(Za:([x]:List Int).length=0+1);omega) (by simp;omega) ?_;intro v2 w2 bX db _;have rR:=J (OI.one bX);have bM:=J ((bp.out.alloc Qd (.cells #[.int .i64 x] 3)).drew.grown db (by simp;omega) (fun j hj=>(zr oi.out j hj).1));have CP2:=J ((bM.out.cell hpd).trans ((bp.out.cell hpd).symm.trans V9));clear bX db))
      all_goals go_wp2_with fail
      all_goals go_roundg (gk-1)
      all_goals first|omega|exact⟨p,y::q,out++[x],by first|omega|(simp;omega),by first|omega|(simp;omega),J (V8.out.keep (fun p hp=>(bM.out.cell hp).trans (Qb.out.cell hp).symm)),J (HQ.out.keep (fun p hp=>(bM.out.cell hp).trans (Qb.out.cell hp).symm)),J (dy.1 HSP.out).2,HSQ,rR,uo,bM⟩
     ·by_cases hgt:y<x
      ·have q1:=zb bw
       have q2:=zc hgt;have uo:=J (show(out++[y])++uS (x::p) q=R by have:=oj.out;rw [acO HSP.out HSQ.out hgt]at this;simpa using this)
       go_wp2_with fail
       go_quiet (fail)
       have oi:=J (OI.drewN HO.out nq);have bp:=J (below_drewN dD.out nq);have V9:(wr.drewN nq).cell? pd=some (.int .i64 x):=cp;have YR:(wr.drewN nq).cell? qd=some (.int .i64 y):=cq;generalize wr.drewN nq=w1 at *;clear cp cq HO dD;go_wp2_with fail;go_quiet (fail);have HO:=oi;have dD:=bp;clear oi bp;have oi:=J (OI.drewN HO.out nq);have bp:=J (below_drewN dD.out nq);have cp:=V9;have cq:=YR;clear V9 YR;have V9:(w1.drewN nq).cell? pd=some (.int .i64 x):=cp;have YR:(w1.drewN nq).cell? qd=some (.int .i64 y):=cq;clear cp cq;generalize w1.drewN nq=w5 at *;go_wp2_with fail;have Qd:=bp.out.size
       go_region_held3 (fun w'=>w'.cell? qd=some (.int .i64 y)) (first|with_reducible exact CP2.out|go_keep) (first
        |(refine cQ _ rfl _ _ 271 rfl w.heap.size 3 i0 (.int .i64 0) 1 8 oA gF gX dw eU rfl (by decide) _ _ _ rfl (World.ownsRow.drew (ZN oi.out _)) _ _ _ _ _ rfl (IV.reads (IV.drew (tZ _ _))) (eR _) (by have:=(Za:([y]:List Int).length=0+1);unfold maxLen;omega) (by have:=(Za:([y]:List Int).length=0+1);omega) (by simp;omega) ?_;intro v2 w2 bX db _;have rR:=J (OI.one bX);have bM:=J ((bp.out.alloc Qd (.cells #[.int .i64 y] 3)).drew.grown db (by simp;omega) (fun j hj=>(zr oi.out j hj).1));have CP2:=J ((bM.out.cell hqd).trans ((bp.out.cell hqd).symm.trans YR));clear bX db))
       all_goals go_wp2_with fail
       all_goals go_roundg (gk-1)
       all_goals first|omega|exact⟨x::p,q,out++[y],by first|omega|(simp;omega),by first|omega|(simp;omega),J (HP.out.keep (fun p hp=>(bM.out.cell hp).trans (Qb.out.cell hp).symm)),J (HQT.out.keep (fun p hp=>(bM.out.cell hp).trans (Qb.out.cell hp).symm)),HSP,J (dy.1 HSQ.out).2,rR,uo,bM⟩
      ·obtain rfl:x=y:=by omega
       have q1:=zb bw;have uo:=J (show(out++[x])++uS p q=R by have:=oj.out;rw [acP HSP.out HSQ.out]at this;simpa using this)
       go_wp2_with fail
       go_quiet (fail)
       have oi:=J (OI.drewN HO.out nq);have bp:=J (below_drewN dD.out nq);have V9:(wr.drewN nq).cell? pd=some (.int .i64 x):=cp;have YR:(wr.drewN nq).cell? qd=some (.int .i64 x):=cq;generalize wr.drewN nq=w1 at *;clear cp cq HO dD;go_wp2_with fail;go_quiet (fail);have HO:=oi;have dD:=bp;clear oi bp;have oi:=J (OI.drewN HO.out nq);have bp:=J (below_drewN dD.out nq);have cp:=V9;have cq:=YR;clear V9 YR;have V9:(w1.drewN nq).cell? pd=some (.int .i64 x):=cp;have YR:(w1.drewN nq).cell? qd=some (.int .i64 x):=cq;clear cp cq;generalize w1.drewN nq=w5 at *;go_wp2_with fail;have Qd:=bp.out.size
       go_region_held3 (fun w'=>w'.cell? pd=some (.int .i64 x)) (first|with_reducible exact CP2.out|go_keep) (first
        |(refine cQ _ rfl _ _ 271 rfl w.heap.size 3 i0 (.int .i64 0) 1 8 oA gF gX dw eU rfl (by decide) _ _ _ rfl (World.ownsRow.drew (ZN oi.out _)) _ _ _ _ _ rfl (IV.reads (IV.drew (tZ _ _))) (eR _) (by have:=(Za:([x]:List Int).length=0+1);unfold maxLen;omega) (by have:=(Za:([x]:List Int).length=0+1);omega) (by simp;omega) ?_;intro v2 w2 bX db _;have rR:=J (OI.one bX);have bM:=J ((bp.out.alloc Qd (.cells #[.int .i64 x] 3)).drew.grown db (by simp;omega) (fun j hj=>(zr oi.out j hj).1));have CP2:=J ((bM.out.cell hpd).trans ((bp.out.cell hpd).symm.trans V9));clear bX db))
       all_goals go_wp2_with fail
       all_goals go_roundg (gk-2)
       all_goals first|omega|exact⟨p,q,out++[x],by first|omega|(simp;omega),by first|omega|(simp;omega),J (V8.out.keep (fun p hp=>(bM.out.cell hp).trans (Qb.out.cell hp).symm)),J (HQT.out.keep (fun p hp=>(bM.out.cell hp).trans (Qb.out.cell hp).symm)),J (dy.1 HSP.out).2,J (dy.1 HSQ.out).2,rR,uo,bM⟩
theorem WA(s:List Int)(vs:Value)(v:Int)(B:Nat)(w:World)(hs:SS s)(hl:s.length≤2000000000000)(hV:IV w B vs s):
 Calls prog 306 #[vs, .int .i64 v] w (GE s v w):=by
 obtain⟨A,c,rfl,h1,h2⟩:=hV.len;have HV:=J hV;have HS:=J hs;have HL:=J (fun x y w=>Tx x y w)
 have HNA:=J (fun x w=>GC x w)
 have HP:=J (fun i=>KP (s:=s) (v:=v) (i:=i))
 have HC:=J (fun k (h:s[k]? =some v)=>uQ h)
 have HNC:=J (fun(h: ∀k:Nat,k<s.length→s[k]? ≠some v)=>uR h)
 unfold GE;obtain⟨P,hP⟩: ∃P,Nc s v=P:=⟨_,rfl⟩;obtain⟨C,hC⟩: ∃C,s.contains v=C:=⟨_,rfl⟩;rw [hP]at HP⊢;rw [hC]at HC HNC⊢;clear hV hs hP hC;go_enter func306,ntmps306
 go_wp2
 go_loopw [7,8] (fun iv jv wr=>wr=w∧∃i j:Nat,i≤j∧j≤s.length∧iv= .int .i64 (i:Int)∧jv= .int .i64 (j:Int)∧Hid (∀k x,k<i→s[k]? =some x→x<v)∧Hid (∀k x,j≤k→s[k]? =some x→v≤x)) (fun iv jv _=>(intOf jv-intOf iv).toNat)
 case atStart=>exact⟨rfl,0,s.length,zO _,za _,rfl,rfl,J (fun k x h=>by omega),J (fun k x h hx=>by have:=(zq.1 hx).1;omega)⟩
 case round=>
  obtain⟨rfl,i,j,hij,hj,rfl,rfl,HI,HJ⟩:=hrel
  rcases zj i j with bw|iE
  ·have lQ:(i:Int)<(j:Int):=by omega
   obtain⟨h,hh⟩: ∃h:Nat,((i:Int)+(j:Int))/2=(h:Int):=⟨(i+j)/2,by omega⟩
   have JI:i≤h:=by omega
   have Fu:h<j:=by omega
   obtain⟨a,ha⟩: ∃a,s[h]? =some a:=⟨_,zk (by omega)⟩
   obtain⟨ad,rfl,_,ca⟩:=HV.out.at_ ha;have hhl:(h:Int)<(s.length:Int):=by omega
   by_cases Lm:a<v
   ·have q:=zc Lm
    have HI2:=J (show∀k x,k<h+1→s[k]? =some x→x<v from fun k x hk hx=>by
     rcases zj k h with h3|h3
     ·have:=Ty HS.out h3 hx ha;omega
     ·obtain rfl:k=h:=by omega
      rw [ha]at hx;rw [←zz hx];exact Lm)
    clear ha Lm;go_wp2_with (go_at_call 336;(with_reducible refine(HL.out _ _ _).q ?_))
    go_roundw
    case rel=>exact⟨by first|rfl|trivial,h+1,j,by omega,hj,by go_num,rfl,HI2,HJ⟩
    case measure=>simp [intOf];omega
   ·have q:=zb Lm
    have HJ2:=J (show∀k x,h≤k→s[k]? =some x→v≤x from fun k x hk hx=>by
     rcases zj h k with h3|h3
     ·have:=Ty HS.out h3 ha hx;omega
     ·obtain rfl:k=h:=by omega
      rw [ha]at hx;rw [←zz hx];omega)
    clear ha Lm;go_wp2_with (go_at_call 336;(with_reducible refine(HL.out _ _ _).q ?_))
    go_roundw
    case rel=>exact⟨by first|rfl|trivial,i,h,JI,by omega,rfl,by go_num,HI,HJ2⟩
    case measure=>simp [intOf];omega
  ·obtain rfl:i=j:=by omega
   have xY:=J (HP.out i hj HI.out (fun x hx=>HJ.out i x (za _) hx))
   have hii:(i:Int)≤(i:Int):=Int.le_refl _
   rcases zj i s.length with hin|hin
   ·obtain⟨a,ha⟩: ∃a,s[i]? =some a:=⟨_,zk hin⟩
    obtain⟨ad,rfl,_,ca⟩:=HV.out.at_ ha;have hil:(i:Int)<(s.length:Int):=by omega
    have qd:=zc hil
    by_cases Lm:a=v
    ·have q:=be Lm
     have mw:=J (HC.out i (by rw [ha,Lm]))
     clear ha Lm iE;go_wp2_with (go_at_call 337;(with_reducible refine(HNA.out _ _).q ?_));exact zi (v:= .tuple #[.int .i64 (i:Int), .bool true]) (by simp [results,results306,go_sem]) rfl ⟨by rw [xY.out,mw.out],rfl⟩
    ·have q:=ag Lm
     have mw:=J (HNC.out (fun k hk hx=>by
      rcases zj k i with h3|h3
      ·have:=HI.out k v h3 hx;omega
      ·rcases zj i k with h4|h4
       ·have:=Ty HS.out h4 ha hx;have:=HJ.out i a (za _) ha;omega
       ·obtain rfl:k=i:=by omega
        rw [ha]at hx;exact Lm (zz hx)))
     clear ha Lm iE;go_wp2_with (go_at_call 337;(with_reducible refine(HNA.out _ _).q ?_));exact zi (v:= .tuple #[.int .i64 (i:Int), .bool false]) (by simp [results,results306,go_sem]) rfl ⟨by rw [xY.out,mw.out],rfl⟩
   ·have qd:decide ((i:Int)<(s.length:Int))=false:=zb (by omega)
    have qd2:(s.length:Int)≤(i:Int):=by omega
    have mw:=J (HNC.out (fun k hk hx=>by have:=HI.out k v (by omega) hx;omega))
    clear iE;go_wp2_with (go_at_call 337;(with_reducible refine(HNA.out _ _).q ?_));exact zi (v:= .tuple #[.int .i64 (i:Int), .bool false]) (by simp [results,results306,go_sem]) rfl ⟨by rw [xY.out,mw.out],rfl⟩
theorem Q4(s:List Int)(vs:Value)(x:Int)(g B:Nat)(w:World)(hs:SS s)(hl:s.length≤2000000000000)(hV:IV w B vs s)(hg:w.cell? ⟨g,0,none⟩=some vs):
 Calls prog 305 #[.int .i64 x, .pointer (some ⟨g,0,none⟩)] w fun e w'=>e= .returned (.bool (s.contains x))∧w=w':=by
 have H:=J (WA s vs x B w hs hl hV);obtain⟨r,hr⟩: ∃r,s.contains x=r:=⟨_,rfl⟩;unfold GE at H;rw [hr]at H⊢;generalize((Nc s x:Nat):Int)=p at *;clear hV hs hr;go_enter func305,ntmps305;go_wp2_with (go_at_call 306;(with_reducible refine(H.out).q ?_));go_ret;exact⟨rfl,rfl⟩
theorem LH(l s:List Int)(vl vs:Value)(g B:Nat)(w:World)(hs:SS s)(hls:s.length≤2000000000000)(nQ:IV w B vl l)(UV:IV w B vs s)(hg:w.cell? ⟨g,0,none⟩=some vs):
 Calls prog 335 #[vl, .func (.func 305) #[] #[.pointer (some ⟨g,0,none⟩)]] w (gC (l.any (fun v=>s.contains v)) w):=by
 obtain⟨A,c,rfl,h1,h2⟩:=nQ.len;have hl:l.length≤9223372036854775807:=by unfold maxLen at h2;omega
 have HV:=J nQ;have HW:=J (fun x=>Q4 s vs x g B w hs hls UV hg)
 have HY:=J (fun k a (h:l[k]? =some a) (hc:s.contains a=true)=>Yg h hc)
 have HN:=J (acQ (l:=l) (s:=s));unfold gC;obtain⟨r,hr⟩: ∃r,l.any (fun v=>s.contains v)=r:=⟨_,rfl⟩
 rw [hr]at HY HN⊢;clear hr nQ UV hs hg;go_enter func335,ntmps335
 go_wp2
 go_loopw [8] (fun iv wr=>wr=w∧∃k:Nat,k≤l.length∧iv= .int .i64 (k:Int)∧Hid (∀j x,j<k→l[j]? =some x→s.contains x=false)) (fun iv _=>l.length-(intOf iv).toNat)
 case atStart=>exact⟨rfl,0,zO _,rfl,J (fun j x h=>by omega)⟩
 case round=>
  obtain⟨rfl,k,hk,rfl,HK⟩:=hrel
  rcases zj k l.length with bw|iE
  ·obtain⟨a,ha⟩: ∃a,l[k]? =some a:=⟨_,zk bw⟩
   obtain⟨aa,rfl,_,ca⟩:=HV.out.at_ ha;have rP:(k:Int)<(l.length:Int):=by omega
   have AI:=J (HW.out a)
   cases hca:s.contains a
   ·rw [hca]at AI
    have ot:=J (show∀j x,j<k+1→l[j]? =some x→s.contains x=false from fun j x hj hx=>by
     rcases zj j k with h3|h3
     ·exact HK.out j x h3 hx
     ·obtain rfl:j=k:=by omega
      rw [ha]at hx;rw [←zz hx];exact hca)
    clear ha hca;go_wp2_with (go_at_call 305;(with_reducible refine(AI.out).q ?_))
    go_roundw
    case rel=>exact⟨by first|rfl|trivial,k+1,by omega,by go_num,ot⟩
    case measure=>simp [intOf];omega
   ·rw [hca]at AI
    have HR:=J (HY.out k a ha hca);clear ha hca;go_wp2_with (go_at_call 305;(with_reducible refine(AI.out).q ?_));go_ret;exact⟨(k:Int),rfl,fun _=>by omega,fun h=>(by rw [HR.out]at h;cases h),rfl⟩
  ·have q:(l.length:Int)≤(k:Int):=by omega
   have HR:=J (HN.out (fun j x hj hx=>HK.out j x (by omega) hx))
   clear iE hk;go_wp2_with fail;go_ret;exact⟨-1,rfl,fun h=>(by rw [HR.out]at h;cases h),fun _=>rfl,rfl⟩
theorem CA(l s:List Int)(vl vs:Value)(g B:Nat)(w:World)(hs:SS s)(hls:s.length≤2000000000000)(nQ:IV w B vl l)(UV:IV w B vs s)(hg:w.cell? ⟨g,0,none⟩=some vs):
 Calls prog 302 #[vl, .func (.func 305) #[] #[.pointer (some ⟨g,0,none⟩)]] w fun e w'=>e= .returned (.bool (l.any (fun v=>s.contains v)))∧w=w':=by
 have H:=J (LH l s vl vs g B w hs hls nQ UV hg);obtain⟨r,hr⟩: ∃r,l.any (fun v=>s.contains v)=r:=⟨_,rfl⟩
 unfold gC at H;rw [hr]at H⊢;clear nQ UV hs hg hr;go_enter func302,ntmps302;go_wp2_with fail;go_at_call 335
 (with_reducible refine(H.out).mono ?_)
 rintro e w' ⟨z,rfl,dw,eU,rfl⟩
 cases r
 ·obtain rfl:=eU rfl
  clear dw eU;go_wp2_with fail;go_ret;exact⟨rfl,rfl⟩
 ·have hz:=dw rfl
  clear dw eU;go_wp2_with fail;go_ret;exact⟨by simp,rfl⟩
theorem LI(s l:List Int)(vs vl:Value)(w:World)(hs:SS s)(hls:s.length≤2000000000000)(UV:IV w w.heap.size vs s)(nQ:IV w w.heap.size vl l):
 Calls prog 260 #[vs,vl] w (wY w (oe s l)):=by
 obtain⟨i0,gF,gX,dw,eU⟩:=Zv DK;have cT:Below w.heap.size w (w.alloc (.cells #[vs] 271)):=(zg _ _).alloc (za _) _;have HVS:=J UV;have HVL:=J nQ;have bp:=J cT;have cbx:=(ai.new w 271 #[vs]).c0;have HCF:=J (CA l s vl vs w.heap.size w.heap.size _ hs hls (nQ.keep (fun p hp=>cT.cell hp)) (UV.keep (fun p hp=>cT.cell hp)) cbx)
 have Wa:=J (fun x w' (h:IV w' w.heap.size vl l)=>KQ l vl x w.heap.size w' h)
 obtain⟨A,c,rfl,h1,h2⟩:=UV.len;have hlc:s.length≤9223372036854775807:=by omega
 cases hc:l.any (fun v=>s.contains v)
 ·rw [hc]at HCF
  have HR:=J (Nf hc);clear UV nQ hs cT hc;go_enter func260,ntmps260;go_wp2_with (go_at_call 302;(with_reducible refine(HCF.out).q ?_));go_ret;exact⟨_,rfl,by rw [HR.out];exact HVS.out.below bp.out,bp.out⟩
 ·rw [hc]at HCF
  obtain⟨R,hR⟩: ∃R,oe s l=R:=⟨_,rfl⟩;have HR:=J (show oe (s.take s.length) l=R by rw [List.take_length];exact hR)
  rw [hR];clear UV nQ hs cT hc hR;go_enter func260,ntmps260;go_wp2_with (go_at_call 302;(with_reducible refine(HCF.out).q ?_))
  go_loopw [5,15] (fun o iv wr=> ∃(k:Nat) (out:List Int),k≤s.length∧iv= .int .i64 (k:Int)∧out.length≤s.length∧Hid (oe (s.take k) l=out)∧Hid (OI w.heap.size wr o out)∧Hid (Below w.heap.size w wr)) (fun _ iv _=>s.length-(intOf iv).toNat)
  case atStart=>exact⟨0,[],zO _,rfl,zO _,J rfl,J (ZE _ _ _ _),bp⟩
  case round=>
   obtain⟨k,out,hk,rfl,hol,HQ,HO,HB⟩:=hrel;have dq:=HB.out.size
   rcases zj k s.length with bw|iE
   ·obtain⟨a,ha⟩: ∃a,s[k]? =some a:=⟨_,zk bw⟩
    obtain⟨aa,rfl,_,ca⟩:=(HVS.out.keep (fun p hp=>HB.out.cell hp)).at_ ha
    have rP:(k:Int)<(s.length:Int):=by omega
    have HCa:=J (Wa.out a wr (HVL.out.keep (fun p hp=>HB.out.cell hp)))
    have qX:=J (Ng (l:=l) ha);rw [HQ.out]at qX
    cases hca:l.contains a
    ·rw [hca]at HCa qX
     rw [ze (by decide)]at qX
     have hok:out.length+1≤s.length:=by
      have:=Tz (s.take (k+1)) l;rw [qX.out,zS,List.length_take]at this;simp at this;omega
     clear ha hca
     go_wp2_with (first
      |(go_at_call 307;(with_reducible refine(HCa.out).q ?_))
      |(at_builtin;refine wpList_append_own _ rfl _ _ 271 rfl w.heap.size 3 i0 (.int .i64 0) 1 8 oA gF gX dw eU rfl (by decide) _ _ _ rfl (ZN HO.out _) ⟨wr.heap.size,0,none⟩ 1 1 [_] rfl rfl (Tw wr _ _) (Yf _) (by unfold maxLen;omega) (by omega) (by simp;omega) ?_))
     intro v2 w2 bX db _;have rR:=J (OI.one bX);have bM:=J ((HB.out.alloc dq _).grown db (by simp;omega) (fun j hj=>(zr HO.out j hj).1))
     clear bX db;go_wp2_with fail
     go_roundw
     case rel=>exact⟨k+1,_,by omega,by go_num,by simp;omega,qX,rR,bM⟩
     case measure=>simp [intOf];omega
    ·rw [hca]at HCa qX
     rw [zh rfl]at qX;clear ha hca;go_wp2_with (go_at_call 307;(with_reducible refine(HCa.out).q ?_))
     go_roundw
     case rel=>exact⟨k+1,_,by omega,by go_num,hol,qX,HO,HB⟩
     case measure=>simp [intOf];omega
   ·obtain rfl:k=s.length:=by omega
    have q:(s.length:Int)≤(s.length:Int):=Int.le_refl _;have oj:=J (show out=R by rw [←HQ.out];exact HR.out)
    clear iE hk;go_wp2_with fail;go_ret;exact⟨_,rfl,by rw [←oj.out];exact HO.out.iv,HB.out⟩
theorem FK(s:List Int)(vs:Value)(w:World)(hls:s.length≤2000000000000)(hV:IV w w.heap.size vs s):
 Calls prog 261 #[vs] w (Yh w.heap.size w s):=by
 obtain⟨i0,gF,gX,dw,eU⟩:=Zv DK;obtain⟨A,c,rfl,h1,h2⟩:=hV.len;have HV:=J hV;have HRV:=J hV.reads;have bp:=J ((zg w.heap.size w).alloc (za _) (.cells #[] 3));have hl0:=(ZP:([]:List Int).length=0);have HOL:=J (World.ownsRow_lit (size:=1) w (e:=3) #[] 0 (za _) (by unfold maxLen;omega) rfl)
 have qn: ∀(w:World) (a:Option Addr) (n c n' c':Nat),(binOp .eql 271 (.slice a n c) (.slice none n' c')).run prog w= .ok (.bool a.isNone) w:=fun w a n c n' c'=>Lib.run_eql_slice_nil w _ _ a n c n' c' oA
 clear hV
 rcases A with _|ad
 ·have hs0:s=[]:=by
   rcases s with _|⟨x,s⟩
   ·rfl
   ·obtain⟨ad,h,_⟩:=HV.out.at_ (j:=0) rfl
    cases h
  subst hs0;go_enter func261,ntmps261;go_wp2_with fail;go_ret;exact⟨_,rfl,ZE _ _ _ _,zg _ _⟩
 ·go_enter func261,ntmps261
  go_wp2_with (at_builtin;refine aU _ rfl _ _ 271 rfl w.heap.size 3 i0 (.int .i64 0) 1 8 oA gF gX dw eU rfl (by decide) _ _ _ rfl HOL.out w.heap.size _ _ _ _ rfl (HRV.out.alloc (za _) _) (eR _) (by unfold maxLen;omega) (by omega) (by simp) ?_)
  intro v2 w2 bX db _;have rR:=J (show OI w.heap.size w2 v2 s from bX)
  have bM:=J (bp.out.grown db (by simp) (fun j hj=>acR j hj))
  clear bX db;go_wp2_with fail;go_ret;exact⟨_,rfl,rR.out,bM.out⟩
theorem FL(y:Ky)(w:World):Calls prog 301 #[DN y] w fun e w'=>e= .returned (.bool (fP y))∧Below w.heap.size w w':=by
 have HB:=J ((zg w.heap.size w).alloc (za _) (Yi y));have rQ:=ai.new w 176 #[.int .i64 y.k, .int .i64 y.i, .string ⟨y.t.toArray⟩];have c0:=rQ.cell 0;have c2:=rQ.cell 2;have HS:=J (fun w=>xe y.t w)
 obtain⟨r,hr⟩: ∃r,fP y=r:=⟨_,rfl⟩;rw [hr];unfold fP at hr;unfold Yi at HB;unfold DN;clear rQ
 by_cases k1:y.k=1
 ·have q1:=be k1
  rw [show(y.k==1)=true from q1,Bool.true_or,Bool.true_or]at hr
  obtain rfl:r=true:=hr.symm;clear hr k1;go_enter func301,ntmps301;go_wp2_with (go_at_call 50;(with_reducible refine(HS.out _).q ?_));go_ret;exact⟨rfl,HB.out⟩
 ·have q1:=ag k1
  rw [show(y.k==1)=false from q1,Bool.false_or]at hr
  clear k1
  by_cases k2:y.k=2
  ·have q2:=be k2
   rw [show(y.k==2)=true from q2,Bool.true_or]at hr
   obtain rfl:r=true:=hr.symm;clear hr k2;go_enter func301,ntmps301;go_wp2_with (go_at_call 50;(with_reducible refine(HS.out _).q ?_));go_ret;exact⟨rfl,HB.out⟩
  ·have q2:=ag k2
   rw [show(y.k==2)=false from q2,Bool.false_or]at hr
   clear k2
   by_cases k3:y.k=3
   ·have q3:=be k3
    rw [show(y.k==3)=true from q3,zZ]at hr
    rw [hr]at HS;clear hr k3;go_enter func301,ntmps301;go_wp2_with (go_at_call 50;(with_reducible refine(HS.out _).q ?_));go_ret;exact⟨rfl,HB.out⟩
   ·have q3:=ag k3
    rw [show(y.k==3)=false from q3,Ib]at hr
    obtain rfl:r=false:=hr.symm;clear hr k3;go_enter func301,ntmps301;go_wp2_with (go_at_call 50;(with_reducible refine(HS.out _).q ?_));go_ret;exact⟨rfl,HB.out⟩
theorem FM(y:Ky)(w:World):Calls prog 300 #[DN y] w fun e w'=>e= .returned (.bool (!fP y))∧Below w.heap.size w w':=by
 have HB:=J ((zg w.heap.size w).alloc (za _) (Yi y));have rQ:=ai.new w 176 #[.int .i64 y.k, .int .i64 y.i, .string ⟨y.t.toArray⟩];have c0:=rQ.cell 0;have c1:=rQ.cell 1;have c2:=rQ.cell 2;have HK:=J (fun w=>FL y w)
 obtain⟨r,hr⟩: ∃r,fP y=r:=⟨_,rfl⟩;rw [hr]at HK⊢;unfold Yi at HB;unfold DN at HK⊢;clear rQ hr;go_enter func300,ntmps300;go_wp2_with (go_at_call 301;(with_reducible refine(HK.out _).mono ?_);rintro e w' ⟨rfl,hb⟩;have bM:=J (HB.out.trans (hb.mono HB.out.size));clear hb);go_ret;exact⟨rfl,bM.out⟩
theorem LJ(l:List Ky)(vl:Value)(w:World)(nQ:KV w w.heap.size vl l):
 Calls prog 334 #[vl, .func (.func 300) #[] #[]] w (acU (l.all fP) w):=by
 obtain⟨A,c,rfl,h1,h2⟩:=nQ.len;have hl:l.length≤9223372036854775807:=by unfold maxLen at h2;omega
 have HV:=J nQ;have HW:=J (fun y w=>FM y w)
 have HY:=J (fun k a (h:l[k]? =some a) (hc:fP a=false)=>Yj h hc)
 have HN:=J (acT (l:=l));unfold acU;obtain⟨r,hr⟩: ∃r,l.all fP=r:=⟨_,rfl⟩;rw [hr]at HY HN⊢;clear hr nQ;go_enter func334,ntmps334
 go_wp2
 go_loopw [8] (fun iv wr=>Hid (Below w.heap.size w wr)∧∃k:Nat,k≤l.length∧iv= .int .i64 (k:Int)∧Hid (∀j x,j<k→l[j]? =some x→fP x=true)) (fun iv _=>l.length-(intOf iv).toNat)
 case atStart=>exact⟨J (zg _ _),0,zO _,rfl,J (fun j x h=>by omega)⟩
 case round=>
  obtain⟨HB,k,hk,rfl,HK⟩:=hrel;have dq:=HB.out.size
  rcases zj k l.length with bw|iE
  ·obtain⟨a,ha⟩: ∃a,l[k]? =some a:=⟨_,zk bw⟩
   obtain⟨aa,rfl,_,ca,cb,cc⟩:=(HV.out.keep (fun p hp=>HB.out.cell hp)).at_ ha
   rw [wX]at cb cc;have rP:(k:Int)<(l.length:Int):=by omega
   have AI:=J (HW.out a);unfold DN at AI
   cases hca:fP a
   ·rw [hca]at AI
    have HR:=J (HY.out k a ha hca);clear ha hca;go_wp2_with (go_at_call 300;(with_reducible refine(AI.out _).mono ?_);rintro e w' ⟨rfl,hb⟩;have bM:=J (HB.out.trans (hb.mono dq));clear hb);go_ret;exact⟨(k:Int),rfl,fun _=>by omega,fun h=>(by rw [HR.out]at h;cases h),bM.out⟩
   ·rw [hca]at AI
    have ot:=J (show∀j x,j<k+1→l[j]? =some x→fP x=true from fun j x hj hx=>by
     rcases zj j k with h3|h3
     ·exact HK.out j x h3 hx
     ·obtain rfl:j=k:=by omega
      rw [ha]at hx;rw [←zz hx];exact hca)
    clear ha hca;go_wp2_with (go_at_call 300;(with_reducible refine(AI.out _).mono ?_);rintro e w' ⟨rfl,hb⟩;have bM:=J (HB.out.trans (hb.mono dq));clear hb)
    go_roundw
    case rel=>exact⟨bM,k+1,by omega,by go_num,ot⟩
    case measure=>simp [intOf];omega
  ·have q:(l.length:Int)≤(k:Int):=by omega
   have HR:=J (HN.out (fun j x hj hx=>HK.out j x (by omega) hx))
   clear iE hk;go_wp2_with fail;go_ret;exact⟨-1,rfl,fun h=>(by rw [HR.out]at h;cases h),fun _=>rfl,HB.out⟩
theorem AT(l:List Ky)(vl:Value)(w:World)(nQ:KV w w.heap.size vl l):
 Calls prog 299 #[vl, .func (.func 300) #[] #[]] w fun e w'=>e= .returned (.bool (!l.all fP))∧Below w.heap.size w w':=by
 have H:=J (LJ l vl w nQ);obtain⟨r,hr⟩: ∃r,l.all fP=r:=⟨_,rfl⟩;unfold acU at H;rw [hr]at H⊢;clear nQ hr;go_enter func299,ntmps299;go_wp2_with fail;go_at_call 334
 (with_reducible refine(H.out).mono ?_)
 rintro e w' ⟨z,rfl,dw,eU,hb⟩;have HB:=J hb;clear hb
 cases r
 ·have hz:=dw rfl
  clear dw eU;go_wp2_with fail;go_ret;exact⟨by simp,HB.out⟩
 ·obtain rfl:=eU rfl
  clear dw eU;go_wp2_with fail;go_ret;exact⟨rfl,HB.out⟩
set_option maxHeartbeats 2000000
def mA(t:Fl)(vv kv av:Value):Obj:= .cells #[.int .i64 t.k, .int .i64 t.n, .int .i64 t.m, .int .i64 t.i, .int .u64 t.b, .string ⟨t.t.toArray⟩,vv,kv,av] 28
theorem rX{t:Fl}(h:t.k=5∨t.k=6∨t.k=7∨t.k=8):eW t=[t.n]:=by unfold eW;rw [zh h]
theorem Cz{t:Fl}(h:t.k=9∨t.k=10):eW t=t.vars:=by unfold eW;rw [ze (by omega),zh h]
theorem Q3{t:Fl}(h:t.k<5∨10<t.k):eW t=[]:=by unfold eW;rw [ze (by omega),ze (by omega)]
theorem FI(t:Fl)(vv kv av:Value)(w:World)(hT:FV w w.heap.size t vv kv av):
 Calls prog 257 #[.agg (cG t vv kv av).toArray] w (wY w (eW t)):=by
 have bp:=J ((zg w.heap.size w).alloc (za _) (mA t vv kv av));have bM:=J (Nh w (mA t vv kv av) (.cells #[.int .i64 t.n] 3));have HON:=J (Na w (mA t vv kv av) t.n);have HNI:=J (bm (w.alloc (mA t vv kv av)) (w.alloc (mA t vv kv av)).heap.size);have HVS:=J (hT.v.below bp.out);have rQ:=ai.new w 28 #[.int .i64 t.k, .int .i64 t.n, .int .i64 t.m, .int .i64 t.i, .int .u64 t.b, .string ⟨t.t.toArray⟩,vv,kv,av];have c0:=rQ.cell 0;have c1:=rQ.cell 1;have c6:=rQ.cell 6;obtain⟨R,hR⟩: ∃R,eW t=R:=⟨_,rfl⟩;rw [hR];clear hT rQ;unfold cG;unfold mA at bp bM HON HNI HVS
 rcases(by omega:(t.k<5∨10<t.k)∨t.k=5∨t.k=6∨t.k=7∨t.k=8∨t.k=9∨t.k=10)with h|h|h|h|h|h|h
 ·have nX:=J ((show eW t=_ from Q3 h).symm.trans hR)
  have q5:=ag (show t.k≠5 by omega)
  have q6:=ag (show t.k≠6 by omega)
  have q7:=ag (show t.k≠7 by omega)
  have q8:=ag (show t.k≠8 by omega)
  have q9:=ag (show t.k≠9 by omega)
  have q10:=ag (show t.k≠10 by omega)
  clear hR h;go_enter func257,ntmps257;go_wp2_with fail;go_ret;exact⟨_,rfl,by rw [←nX.out];exact HNI.out,bp.out⟩
 ·have nX:=J ((show eW t=_ from rX (.inl h)).symm.trans hR)
  have q5:=be h;clear hR h;go_enter func257,ntmps257;go_wp2_with fail;go_ret;exact⟨_,rfl,by rw [←nX.out];exact HON.out,bM.out⟩
 ·have nX:=J ((show eW t=_ from rX (.inr (.inl h))).symm.trans hR)
  have q5:=ag (show t.k≠5 by omega)
  have q6:=be h;clear hR h;go_enter func257,ntmps257;go_wp2_with fail;go_ret;exact⟨_,rfl,by rw [←nX.out];exact HON.out,bM.out⟩
 ·have nX:=J ((show eW t=_ from rX (.inr (.inr (.inl h)))).symm.trans hR)
  have q5:=ag (show t.k≠5 by omega)
  have q6:=ag (show t.k≠6 by omega)
  have q7:=be h;clear hR h;go_enter func257,ntmps257;go_wp2_with fail;go_ret;exact⟨_,rfl,by rw [←nX.out];exact HON.out,bM.out⟩
 ·have nX:=J ((show eW t=_ from rX (.inr (.inr (.inr h)))).symm.trans hR)
  have q5:=ag (show t.k≠5 by omega)
  have q6:=ag (show t.k≠6 by omega)
  have q7:=ag (show t.k≠7 by omega)
  have q8:=be h;clear hR h;go_enter func257,ntmps257;go_wp2_with fail;go_ret;exact⟨_,rfl,by rw [←nX.out];exact HON.out,bM.out⟩
 ·have nX:=J ((show eW t=_ from Cz (.inl h)).symm.trans hR)
  have q5:=ag (show t.k≠5 by omega)
  have q6:=ag (show t.k≠6 by omega)
  have q7:=ag (show t.k≠7 by omega)
  have q8:=ag (show t.k≠8 by omega)
  have q9:=be h;clear hR h;go_enter func257,ntmps257;go_wp2_with fail;go_ret;exact⟨_,rfl,by rw [←nX.out];exact HVS.out,bp.out⟩
 ·have nX:=J ((show eW t=_ from Cz (.inr h)).symm.trans hR)
  have q5:=ag (show t.k≠5 by omega)
  have q6:=ag (show t.k≠6 by omega)
  have q7:=ag (show t.k≠7 by omega)
  have q8:=ag (show t.k≠8 by omega)
  have q9:=ag (show t.k≠9 by omega)
  have q10:=be h;clear hR h;go_enter func257,ntmps257;go_wp2_with fail;go_ret;exact⟨_,rfl,by rw [←nX.out];exact HVS.out,bp.out⟩
open Go.RowKit Go.ChangeShapes Go.WideShapes Go.Deep LamM
section
variable {H:Type} {enc:TypeId×Value→H} {P:Program} {w:World} {held:Bool}
def jM(P:Program)(t:TypeId)(d:DataW H):Prop:= ∀n∈d.weights P t,n≤reachBytes
theorem wZ{e:TypeId}: ∀{ds:List (DataW H)} {d:DataW H},d∈ds→∀n∈d.weights P e,n∈DataW.weightsAll P e ds
 |x::r,d,hd,n,hn=>by
  simp only [DataW.weightsAll,ZJ]
  rcases zx.1 hd with h|h
  ·subst h;exact Or.inl hn
  ·exact Or.inr (wZ h n hn)
theorem jM.slice{t e:TypeId}{es sp:List (DataW H)}(h:jM P t (.slice es sp))(ht:P.underlying t=some (.slice e)):
 (es.length+sp.length)*P.bytesOf e≤reachBytes∧∀d∈es,jM P e d:=by
 constructor
 ·exact h _ (by simp [DataW.weights,ht])
 ·intro d hd n hn
  refine h n ?_;simp only [DataW.weights,ht,zx,ZJ];exact Or.inr (Or.inl (wZ hd n hn))
theorem jM.agg{t:TypeId}{fs:Array Field}{ds:List (DataW H)}(h:jM P t (.agg ds))(ht:P.underlying t=some (.struct fs)){j:Nat}{f:Field}{d:DataW H}(hf:fs[j]? =some f)(hd:ds[j]? =some d):jM P f.type d:=by
 intro n hn;refine h n ?_;simp only [DataW.weights,ht];exact DataW.weights_mem_each (j:=j) (by simp [hf]) hd n hn
theorem mJ{x:Int}(h:(Lit.int .i64 x).wf=true): -9223372036854775808≤x∧x≤9223372036854775807:=by
 simpa [Lit.wf,IntKind.min,IntKind.max,IntKind.signed,IntKind.bits]using h
theorem w_(s:ByteArray):(⟨s.data.toList.toArray⟩:ByteArray)=s:=by
 cases s
 simp
theorem Ai{t e:TypeId}{xU:Nat}{v:Value}{x:DataW H×List MemPlace}(ht:P.underlying t=some (.slice e))(he:P.underlying e=some (.int .i64))(hc:P.cellsOf e=1)(hb:P.bytesOf e=8)
 (h:DataW.trod enc P w 0 (fun _=>true) held xU t [v]=some x) (hL:jM P t x.1):
 ∃l,IV w w.heap.size v l∧(∀y∈l, -9223372036854775808≤y∧y≤9223372036854775807)∧l.length≤17592186044416:=by
 rcases open_ints ht he hc h with⟨h1,_⟩|⟨a,len,cap,zs,h1,_,hl,hm,hz,hx,eb,hw⟩
 ·injection h1 with h1
  subst h1;exact⟨[],⟨none,0,rfl,za _,by decide,aT.none_⟩,by simp,by simp⟩
 ·injection h1 with h1
  subst h1 hx;have hz':zs.length=cap:=by simpa using hz
  have om:(zs.take len).length=len:=by rw [List.length_take];omega
  have h2:=(jM.slice hL ht).1;rw [hb]at h2;simp only [lits,ZK,List.length_take,List.length_drop,reachBytes]at h2;refine⟨zs.take len,⟨some a,cap,by rw [om],by omega,hm,by simp [aZ],fun hn=>⟨a,rfl,jj (eb 0 (by omega)),fun j u hj=> ?_⟩⟩,fun y hy=>mJ (hw y (Z5 hy)),by omega⟩
  unfold aZ at hj;rw [zT]at hj;obtain⟨z,dw,rfl⟩:=Option.map_eq_some_iff.1 hj;have hjl:j<(zs.take len).length:=(zq.1 dw).1
  have hzj:zs[j]? =some z:=by
   rw [List.getElem?_take]at dw
   split at dw
   ·exact dw
   ·cases dw
  have:=eb j (by omega)
  rw [ZX,hzj]at this;exact this
theorem oQ: ∀l:List Ky,(fz l).length=l.length*3
 |[]=>rfl
 |y::l=>by
  have ih:=oQ l;have e:fz (y::l)=[.int .i64 y.k, .int .i64 y.i, .string ⟨y.t.toArray⟩]++fz l:=by unfold fz;rw [List.flatMap_cons]
  rw [e,zS,ih,Za];simp;omega
theorem Nb{t e:TypeId}{f0 f1 f2:Field}{xU:Nat}{v:Value}{x:DataW H×List MemPlace}(ht:P.underlying t=some (.slice e))(he:P.underlying e=some (.struct #[f0,f1,f2]))(mW:oneCellFields P #[f0,f1,f2]=true)
 (hC:P.cellsOf e=3) (hb:P.bytesOf e=32) (h0:P.underlying f0.type=some (.int .i64)) (h1:P.underlying f1.type=some (.int .i64)) (h2:P.underlying f2.type=some .string)
 (h:DataW.trod enc P w 0 (fun _=>true) held xU t [v]=some x) (hL:jM P t x.1):
 ∃l,KV w w.heap.size v l∧l.length≤17592186044416:=by
 rcases open_slice ht h with⟨h3,_⟩|⟨a,len,cap,m,n,D,Pl,h3,_,hl,hm,B_,hx,hi⟩
 ·injection h3 with h3
  subst h3;exact⟨[],⟨none,0,rfl,za _,by decide,aT.none_⟩,by simp⟩
 ·injection h3 with h3
  subst h3 hx;have hm':m=cap:=by simpa using B_
  have hr:=(jM.slice hL ht).1;rw [hb]at hr;simp only [ZK,List.length_range,reachBytes]at hr
  haveI:Inhabited Ky:=⟨⟨0,0,[]⟩⟩
  obtain⟨K,hK⟩:=choose_lt (α:=Ky) (n:=m) (p:=fun i q=>w.cell? (a.add (i*3))=some (.int .i64 q.k)∧w.cell? (a.add (i*3+1))=some (.int .i64 q.i)∧w.cell? (a.add (i*3+2))=some (.string ⟨q.t.toArray⟩)) (fun i him=>by
   obtain⟨xO,s_,htr⟩:=hi i him;rw [hC]at s_;obtain⟨_,om,Fy⟩:=World.cells?_some s_;obtain⟨y0,y1,y2,n',_,_,g0,g1,g2⟩:=trod_struct3 he htr;obtain⟨o0,k0⟩:=hone_of mW 0 f0 rfl;obtain⟨o1,k1⟩:=hone_of mW 1 f1 rfl;obtain⟨o2,k2⟩:=hone_of mW 2 f2 rfl
   match xO,om with
   |[c0,c1,c2],_=>
    obtain⟨z0,e0,_,_⟩:=DataW.trod_int h0 (by simpa [o0,k0]using g0)
    obtain⟨z1,e1,_,_⟩:=DataW.trod_int h1 (by simpa [o1,k1]using g1)
    obtain⟨s,e2,_,_⟩:=DataW.trod_string h2 (by simpa [o2,k2]using g2)
    injection e0 with e0
    injection e1 with e1
    injection e2 with e2
    subst e0 e1 e2;refine⟨⟨z0,z1,s.data.toList⟩,?_,?_,?_⟩
    ·have:=Fy 0 (by omega)
     rw [add_add,Z4]at this;exact this
    ·have:=Fy 1 (by omega)
     rw [add_add]at this;exact this
    ·have:=Fy 2 (by omega)
     rw [add_add]at this;rw [w_];exact this)
  have hll:((List.range len).map K).length=len:=by simp
  refine⟨(List.range len).map K,⟨some a,cap,by rw [hll],by omega,hm,?_,fun hn=>⟨a,rfl,jj (hK 0 (by omega)).1,fun j u hj=> ?_⟩⟩,by omega⟩
  ·rw [oQ]
  ·have hjl:j<(fz ((List.range len).map K)).length:=(zq.1 hj).1
   have aln:j<len*3:=by
    have e:=oQ ((List.range len).map K);rw [hll]at e;omega
   obtain⟨q,hq⟩: ∃q,j/3=q:=⟨_,rfl⟩;have vj:j=q*3∨j=q*3+1∨j=q*3+2:=by omega
   have hql:q<len:=by omega
   have hg:((List.range len).map K)[q]? =some (K q):=by
    rw [zT,List.getElem?_range hql]
    rfl
   obtain⟨v0,v1,v2⟩:=rA _ _ _ hg;obtain⟨c0,c1,c2⟩:=hK q (by omega)
   clear hq aln
   rcases vj with e|e|e
   ·rw [e,v0]at hj
    injection hj with hj
    subst hj;rw [e];exact c0
   ·rw [e,v1]at hj
    injection hj with hj
    subst hj;rw [e];exact c1
   ·rw [e,v2]at hj
    injection hj with hj
    subst hj;rw [e];exact c2
end
end Go.Proofs.YtcpmiplofbfmfaaGreatDoor
