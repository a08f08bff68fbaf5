/- Cps: programs laid node by node. -/
import Derived.Test.YtcpmiplofbfmfaaGreatDoorA03
import Derived.Test.YtcpmiplofbfmfaaGreatDoorA02
import Derived.Deep.RegionLaw
set_option linter.all false
namespace Go.Proofs.YtcpmiplofbfmfaaGreatDoor
open Go.RowKit LamM CpsM
abbrev Fq:=Fl×Value×Value×Value
def fo(x:Fq):List Value:=cG x.1 x.2.1 x.2.2.1 x.2.2.2
def dH:List Fq→List Value
 |[]=>[]
 |x::r=>fo x++dH r
theorem rf(x:Fq):(fo x).length=9:=rfl
theorem tw: ∀l:List Fq,(dH l).length=l.length*9
 |[]=>rfl
 |x::r=>by
  show(fo x++dH r).length=_;rw [zS,tw r,rf,Za];omega
theorem CK: ∀(l:List Fq) (i:Nat) (x:Fq) (j:Nat) (u:Value),l[i]? =some x→(fo x)[j]? =some u→(dH l)[i*9+j]? =some u
 |[],i,_,_,_,h,_=>by simp at h
 |y::l,0,x,j,u,h,hu=>by
  have e:y=x:=by simpa using h
  subst e;show(fo y++dH l)[0*9+j]? =some u;have hj:j<(fo y).length:=(zq.1 hu).1;rw [Zk,Ih,List.getElem?_append_left hj];exact hu
 |y::l,i+1,x,j,u,h,hu=>by
  show(fo y++dH l)[(i+1)*9+j]? =some u;rw [List.getElem?_append_right (by rw [rf];omega),rf,show(i+1)*9+j-9=i*9+j by omega]
  exact CK l i x j u (by simpa using h) hu
theorem J9{w:World}{g c:Nat}{l:List Fq}(h: ∀k u,(dH l)[k]? =some u→w.cell? ⟨g,k,none⟩=some u)(bw:g<w.heap.size)(hc:l.length≤c)(JH:l.length≤1300000000000)
 (hf: ∀x∈l,FV w w.heap.size x.1 x.2.1 x.2.2.1 x.2.2.2):NF w w.heap.size (.slice (some ⟨g,0,none⟩) l.length c) (l.map (·.1)):=by
 refine⟨some ⟨g,0,none⟩,c,by rw [ZK],by rw [ZK];exact hc,by rw [ZK];exact JH,fun i t ht=> ?_⟩
 rw [zT]at ht;obtain⟨x,hx,rfl⟩:=Option.map_eq_some_iff.1 ht;refine⟨_,x.2.1,x.2.2.1,x.2.2.2,rfl,bw,hf x (zC hx),fun j u hu=> ?_⟩
 rw [show(⟨g,0,none⟩:Addr).add (i*9+j)=⟨g,i*9+j,none⟩by unfold Addr.add;split<;>simp_all]
 exact h _ _ (CK l i x j u hx hu)
theorem FW{w:World}{g:Nat}{l:List Int}(h:ai w g 3 (aZ l).toArray)(hl:l.length≤1000):IV w w.heap.size (.slice (some ⟨g,0,none⟩) l.length l.length) l:=
 ⟨_,_,rfl,za _,by unfold maxLen;omega,aT.blk' h (by simp [aZ])⟩
theorem abW(w:World)(B:Nat):KV w B (.slice none 0 0) []:=⟨none,0,rfl,za _,zO _,rfl,fun h=>absurd h (by decide)⟩
def Q9(t:Fl):Bool:=t.keys.isEmpty&&decide (0≤t.k∧t.k≤100∧0≤t.n∧t.n≤100∧0≤t.m∧t.m≤100∧0≤t.i∧t.i≤100)&&(t.args.all fun x=>decide (0≤x∧x≤100))&&(t.vars.all fun x=>decide (0≤x∧x≤100))&&decide (t.args.length≤100∧t.vars.length≤100)
theorem hJ{w:World}{B:Nat}{t:Fl}{vv av:Value}(hs:Q9 t=true)(hv:IV w B vv t.vars)(ha:IV w B av t.args):FV w B t vv (.slice none 0 0) av:=by
 unfold Q9 at hs;simp only [Zm,List.isEmpty_iff,Zb,List.all_eq_true]at hs;obtain⟨⟨⟨⟨h1,h2,h3,h4,h5,h6,h7,h8,h9⟩,JK⟩,h11⟩,h12,h13⟩:=hs;exact⟨hv,by rw [h1];exact abW _ _,ha,by omega,by omega,by omega,by omega,fun x hx=>by have:=JK x hx;omega,fun x hx=>by have:=h11 x hx;omega,by omega,by rw [h1];decide,by omega⟩
end Go.Proofs.YtcpmiplofbfmfaaGreatDoor
namespace CpsM
open LamM
def rY(L:List Fl)(aJ:Int):List Int:=if aJ<0∨(L.length:Int)≤aJ then []else lz L aJ.toNat
theorem uB{L:List Fl}{r:Nat}(h:r<L.length):rY L (r:Int)=lz L r:=by
 unfold rY;rw [ze (by omega),zv]
theorem rZ{L:List Fl}{aJ:Int}(h:aJ<0∨(L.length:Int)≤aJ):rY L aJ=[]:=zh h
theorem Ka{L:List Fl}{aJ:Int}(h:aJ<0∨(L.length:Int)≤aJ):m_ bD L aJ=130:=zh h
theorem abX{L:List Fl}{r:Nat}{t:Fl}(h:L[r]? =some t):m_ bD L (r:Int)=if gv t.k=false then 130 else if(ay (nR L) r).2=false then 130
 else if jD (jc bD L) (ay (nR L) r).1 L (r+1)=false then 130 else if jD (nS bD) (ay (nR L) r).1 L (r+1)=false then 112
 else if 262144<L.length then 3 else if lz L r=[]then 0 else 111:=by
 have hr:=(zq.1 h).1;unfold m_;rw [ze (by omega),oy (by rw [zv];exact h),zv]
 rfl
theorem CM{P:Fl→Bool}{inb:Nat→Bool}{L:List Fl}{i:Nat}(h:inb i=false):jD P inb L (i+1)=jD P inb L i:=by
 show(jD P inb L i&&(!inb i||_))=_;rw [h];simp
theorem CN{P:Fl→Bool}{inb:Nat→Bool}{L:List Fl}{i:Nat}{t:Fl}(h:inb i=true)(ht:L[i]? =some t):jD P inb L (i+1)=(jD P inb L i&&P t):=by
 show(jD P inb L i&&(!inb i||_))=_;rw [h,ht];simp
theorem yO{t:Fl}(h:t.m<0):eV bD t=false:=by unfold eV;rw [zb (by omega)];rfl
theorem wb{t:Fl}(h:61≤t.m):eV bD t=false:=by
 unfold eV;rw [zK (by rw [Nk];omega),Bool.and_false]
theorem CO{t:Fl}{y:Nat}{p:Pr}(h:t.m=(y:Int))(hp:ao[y]? =some p):eV bD t=decide ((t.args.length:Int)=pJ ⟨p.args,p.raises⟩):=by
 unfold eV;rw [zc (by omega),h,zv,show bD[y]? =some ⟨p.args,p.raises⟩by unfold bD;rw [zT,hp];rfl,zZ]
theorem we: ∀p∈ao,0≤p.args∧p.args≤10∧p.raises.length≤10:=by decide
end CpsM
set_option maxRecDepth 100000
set_option maxHeartbeats 2000000
namespace Go.Proofs.YtcpmiplofbfmfaaGreatDoor
open Tryz
open Lib renaming hid→J
open Go.RowKit LamM CpsM
theorem Q8{p:Pr}(h:p.raises.length=0):pJ ⟨p.args,p.raises⟩=p.args+1:=by
 show p.args+1+(if p.raises.length=0 then 0 else 1)=_
 rw [zh h];omega
theorem LP{p:Pr}(h:p.raises.length≠0):pJ ⟨p.args,p.raises⟩=p.args+1+1:=by
 show p.args+1+(if p.raises.length=0 then 0 else 1)=_
 rw [ze h]
theorem yN(t:Fl)(vv kv av pv:Value)(w:World)(hP:PV w w.heap.size pv ao)(hT:FV w w.heap.size t vv kv av):Calls prog 197 #[.agg (cG t vv kv av).toArray,pv] w fun e w'=>e= .returned (.bool (eV bD t))∧Below w.heap.size w w':=by
 obtain⟨PA,pc,vf,iJ,iK⟩:=hP.len;rw [aN]at vf;subst vf;obtain⟨AA,ac,rfl,Qf,ha2⟩:=hT.a.len;have la:=hT.la;obtain⟨W,hW⟩: ∃W,w.alloc (mA t vv kv (.slice AA t.args.length ac))=W:=⟨_,rfl⟩;have gZ:Below w.heap.size w W:=by rw [←hW];exact(zg _ _).alloc (za _) _
 have HB:=J gZ;have HPW:=J (hP.below gZ);have HX:=J (show ai W w.heap.size 28 #[.int .i64 t.k, .int .i64 t.n, .int .i64 t.m, .int .i64 t.i, .int .u64 t.b, .string ⟨t.t.toArray⟩,vv,kv, .slice AA t.args.length ac]by rw [←hW];exact ai.new _ _ _)
 have c2:=HX.out.c2;have c8:=HX.out.c8;unfold mA at hW;unfold cG;obtain⟨R,hR⟩: ∃R,eV bD t=R:=⟨_,rfl⟩;rw [hR];clear hP hT gZ
 by_cases m0:t.m<0
 ·have r0:=zc m0
  obtain rfl:R=false:=by rw [←hR];exact yO m0
  clear hR m0;go_enter func197,ntmps197;go_wp2_with fail;go_ret;exact⟨rfl,HB.out⟩
 ·have r0:=zb m0
  by_cases m61:61≤t.m
  ·have r1:=zc m61
   obtain rfl:R=false:=by rw [←hR];exact wb m61
   clear hR m0 m61;go_enter func197,ntmps197;go_wp2_with fail;go_ret;exact⟨rfl,HB.out⟩
  ·have r1:=zb m61
   obtain⟨y,hy⟩: ∃y:Nat,t.m=(y:Int):=⟨t.m.toNat,by omega⟩
   obtain⟨p,hpt⟩: ∃p,ao[y]? =some p:=⟨_,zk (by rw [aN];omega)⟩
   obtain⟨ty,rv,_,ol,_,_,ca,_,cr⟩:=HPW.out.at_ hpt;replace ca:=bc (j:=1) ca;replace cr:=bc (j:=3) cr;obtain⟨RA,rc,rfl,Ca,hr2⟩:=ol.len;obtain⟨qy,hs2,Cp⟩:=we p (zC hpt);have hpo:=CO hy hpt;rw [hR]at hpo;have JJ:(y:Int)<61:=by omega
   have Fw:(0:Int)≤(y:Int):=by omega
   rw [hy]at c2 r0 r1;rw [hy]at hW;have hw0:=Q8 (p:=p);have dz:=LP (p:=p);clear hpt ol;generalize p.raises.length=rl at *
   rcases rl with _|rl
   have mz:=J (rfl:0=0)
   all_goals
    first
     |replace mz:=mz
      rw [hw0 rfl]at hpo
     |rw [dz (by omega)]at hpo
    clear hw0 dz
    first
     |replace mz:=mz
      by_cases he:(t.args.length:Int)=p.args+1
     |have q:(0:Int)<(rl:Int)+1:=by omega
      by_cases he:(t.args.length:Int)=p.args+1+1
    focus
     have q2:=be he;have HE:=J q2;obtain rfl:R=true:=by rw [hpo];exact zc he
    rotate_left
    focus
     have q2:=ag he;have HE:=J q2;obtain rfl:R=false:=by rw [hpo];exact zb he
    all_goals
     clear hR hpo he m0 m61;go_enter func197,ntmps197;go_wp2_with fail;go_ret
     first|exact⟨rfl,HB.out⟩|exact⟨by rw [HE.out];rfl,HB.out⟩
end Go.Proofs.YtcpmiplofbfmfaaGreatDoor
namespace LamM
end LamM
namespace Go.Proofs.YtcpmiplofbfmfaaGreatDoor
open Go.RowKit LamM
theorem IV.shape{w:World}{B:Nat}{v:Value}{l:List Int}(h:IV w B v l): ∃A n c,v= .slice A n c:=by
 obtain⟨A,c,e,_⟩:=h;exact⟨A,_,c,e⟩
theorem IV.store{w:World}{B:Nat}{v:Value}{l:List Int}(h:IV w B v l){p:Addr}{A:Option Addr}{n c:Nat}(hp:w.cell? p=some (.slice A n c))(u:Value):IV (w.setCell p u) B v l:=by
 obtain⟨A',c',e,h1,h2,hl,hr⟩:=h;refine⟨A',c',e,h1,h2,hl,fun hn=> ?_⟩
 obtain⟨ad,rfl,hb,hc⟩:=hr hn;refine⟨ad,rfl,hb,fun j x hx=> ?_⟩
 have h3:=hc j x hx
 have hi: ∃y,x= .int .i64 y:=by
  unfold aZ at hx;rw [zT]at hx
  cases hy:l[j]?with
  |none=>rw [hy]at hx;cases hx
  |some y=>rw [hy]at hx;exact⟨y,(zz hx).symm⟩
 obtain⟨y,rfl⟩:=hi;rw [←h3];exact ZF w p _ u (fun e=>by subst e;rw [hp]at h3;cases h3)
structure V4(E:TypeId)(w0:World)(n n' g gb:Nat)(pv:Value)(inb:Nat→Bool)(F:Nat→List Int)(vs:List Value)(wr:World):Prop where
 inb:wr.ownsRow gb 4 1 (.slice (some ⟨gb,0,none⟩) n' n') n' (dJ n' inb)
 prv:PV wr g pv ao
 row:wr.ownsRow g E 1 (.slice (some ⟨g,0,none⟩) n n) n vs
 len:vs.length=n
 val: ∀j v,vs[j]? =some v→IV wr wr.heap.size v (F j)
 bel:Below w0.heap.size w0 wr
 hb:gb<g
 hw:w0.heap.size≤gb
section
variable {E:TypeId} {w0 wr w':World} {n n' g gb:Nat} {pv:Value} {inb:Nat→Bool} {F:Nat→List Int} {vs:List Value}
theorem V4.lt(H:V4 E w0 n n' g gb pv inb F vs wr):g<wr.heap.size:=(zr H.row g rfl).2
theorem V4.below(H:V4 E w0 n n' g gb pv inb F vs wr)(hb:Below wr.heap.size wr w'):V4 E w0 n n' g gb pv inb F vs w':=
 ⟨bj H.inb hb,H.prv.keep (fun _ hp=>hb.cell (Nat.lt_trans hp H.lt)),bj H.row hb,H.len,fun j v hj=>(H.val j v hj).below hb,H.bel.trans (hb.mono H.bel.size),H.hb,H.hw⟩
theorem V4.drew(H:V4 E w0 n n' g gb pv inb F vs wr):V4 E w0 n n' g gb pv inb F vs wr.drew:=H.below (Below.drew (zg _ _))
theorem V4.at_(H:V4 E w0 n n' g gb pv inb F vs wr){i:Nat}(hi:i<n): ∃v,vs[i]? =some v∧wr.cell? ⟨g,i,none⟩=some v∧wr.frozen? ⟨g,i,none⟩=false∧IV wr wr.heap.size v (F i):=by
 obtain⟨v,hv⟩: ∃v,vs[i]? =some v:=⟨_,zk (by have:=H.len;omega)⟩
 exact⟨v,hv,(zM H.row i (by omega)).trans hv,Zt H.row i,H.val i v hv⟩
end
open Go.RowKit LamM CpsM
structure tz(E:TypeId)(w0:World)(n n' g gb:Nat)(inb:Nat→Bool)(F:Nat→List Int)(vs:List Value)(wr:World):Prop where
 inb:wr.ownsRow gb 4 1 (.slice (some ⟨gb,0,none⟩) n' n') n' (dJ n' inb)
 row:wr.ownsRow g E 1 (.slice (some ⟨g,0,none⟩) n n) n vs
 len:vs.length=n
 val: ∀j v,vs[j]? =some v→IV wr wr.heap.size v (F j)
 bel:Below w0.heap.size w0 wr
 hb:gb<g
 hw:w0.heap.size≤gb
section
variable {E:TypeId} {w0 wr w':World} {n n' g gb:Nat} {inb:Nat→Bool} {F:Nat→List Int} {vs:List Value}
theorem tz.lt(H:tz E w0 n n' g gb inb F vs wr):g<wr.heap.size:=(zr H.row g rfl).2
theorem tz.below(H:tz E w0 n n' g gb inb F vs wr)(hb:Below wr.heap.size wr w'):tz E w0 n n' g gb inb F vs w':=
 ⟨bj H.inb hb,bj H.row hb,H.len,fun j v hj=>(H.val j v hj).below hb,H.bel.trans (hb.mono H.bel.size),H.hb,H.hw⟩
theorem tz.drew(H:tz E w0 n n' g gb inb F vs wr):tz E w0 n n' g gb inb F vs wr.drew:=H.below (Below.drew (zg _ _))
theorem tz.at_(H:tz E w0 n n' g gb inb F vs wr){i:Nat}(hi:i<n): ∃v,vs[i]? =some v∧wr.cell? ⟨g,i,none⟩=some v∧wr.frozen? ⟨g,i,none⟩=false∧IV wr wr.heap.size v (F i):=by
 obtain⟨v,hv⟩: ∃v,vs[i]? =some v:=⟨_,zk (by have:=H.len;omega)⟩
 exact⟨v,hv,(zM H.row i (by omega)).trans hv,Zt H.row i,H.val i v hv⟩
theorem tz.made(H:tz E w0 n n' g gb inb F vs wr){i:Nat}(hi:i<n'):wr.cell? ⟨gb,i,none⟩=some (.bool (inb i)):=by
 rw [zM H.inb i (by omega),eY hi]
theorem tz.store(H:tz E w0 n n' g gb inb F vs wr){i:Nat}(hi:i<n){u:Value}{l:List Int}(hu:IV wr wr.heap.size u l):tz E w0 n n' g gb inb (yc F i l) (vs.set i u) (wr.setCell ⟨g,i,none⟩ u):=by
 obtain⟨v,hv,hc,_,hiv⟩:=H.at_ hi;obtain⟨A,c,rfl,_⟩:=hiv.len;obtain⟨ho,hg⟩:=Z7 H.row i u;have hs:(wr.setCell ⟨g,i,none⟩ u).heap.size=wr.heap.size:=by simp [World.setCell]
 refine⟨H.inb.kept hg (.inr ?_),ho,by rw [List.length_set];exact H.len,fun j x hj=> ?_,H.bel.setCell (by show w0.heap.size≤g;have:=H.hb;have:=H.hw;omega) u,H.hb,H.hw⟩
 ·intro e;have:=zz (show some gb=some g from e);have:=H.hb;omega
 ·rw [hs]
  rw [List.getElem?_set]at hj
  by_cases e:i=j
  ·subst e
   rw [zh rfl,zh (by have:=H.len;omega)]at hj
   rw [←zz hj,pK];exact hu.store hc u
  ·rw [ze e]at hj
   rw [ng (fun h=>e h.symm)]
   exact(H.val j x hj).store hc u
theorem tz.cell_(H:tz E w0 n n' g gb inb F vs wr){i:Nat}{v:Value}(hv:vs[i]? =some v)(hi:i<n):wr.cell? ⟨g,i,none⟩=some v:=(zM H.row i (by omega)).trans hv
theorem J_{S:Nat}{tt:TypeId}{v0 v1 v2 v3 v4 v5 v6 v7 v8 vi vx:Value}{i x:Nat}(H:tz E w0 n n' g gb inb F vs wr)(hB:ai wr S tt #[v0,v1,v2,v3,v4,v5,v6,v7,v8])(hi:vs[i]? =some vi)(hx:vs[x]? =some vx)(h1:i<n)(h2:x<n):
 wr.cell? ⟨g,i,none⟩=some vi∧wr.cell? ⟨g,x,none⟩=some vx∧wr.cell? ⟨S,0,none⟩=some v0∧wr.cell? ⟨S,1,none⟩=some v1∧wr.cell? ⟨S,2,none⟩=some v2∧wr.cell? ⟨S,3,none⟩=some v3∧wr.cell? ⟨S,4,none⟩=some v4∧wr.cell? ⟨S,5,none⟩=some v5∧wr.cell? ⟨S,6,none⟩=some v6∧wr.cell? ⟨S,7,none⟩=some v7∧wr.cell? ⟨S,8,none⟩=some v8:=
 ⟨H.cell_ hi h1,H.cell_ hx h2,hB.cell 0,hB.cell 1,hB.cell 2,hB.cell 3,hB.cell 4,hB.cell 5,hB.cell 6,hB.cell 7,hB.cell 8⟩
theorem tz.cast{F':Nat→List Int}(H:tz E w0 n n' g gb inb F vs wr)(h:F=F'):tz E w0 n n' g gb inb F' vs wr:=h▸H
end
set_option maxHeartbeats 8000000
open Tryz
open Lib renaming hid→J
theorem Q_:(prog.info? 271).map (fun i=>(i.zero,i.size,i.bytes))=some (some (.slice none 0 0),1,24):=by kernel_rfl
theorem Ra:prog.underlying 270=some (.slice 271):=by kernel_rfl
theorem tz.start{E:TypeId}{w w1 w3:World}{n n' gb:Nat}{inb:Nat→Bool}(AJ:w1.ownsRow gb 4 1 (.slice (some ⟨gb,0,none⟩) n' n') n' (dJ n' inb))(cT:Below w.heap.size w w1)
 (hgb:w.heap.size≤gb) (hw3:w3.ownsRow w1.heap.size E 1 (.slice (some ⟨w1.heap.size,0,none⟩) n n) n (List.replicate n (.slice none 0 0))) (U0:w1.grownBy w3 none):
 tz E w n n' w1.heap.size gb inb (fun _=>[]) (List.replicate n (.slice none 0 0)) w3:=by
 have kZ:Below w1.heap.size w1 w3:=(zg _ _).grown U0 (za _) (fun k hk=>by cases hk)
 have h1:=(zr AJ gb rfl).2;refine⟨bj AJ kZ,hw3,by simp,fun j v hj=> ?_,cT.trans (kZ.mono cT.size),h1,hgb⟩
 rw [List.getElem?_replicate]at hj
 split at hj
 ·rw [←zz hj];exact bm _ _
 ·cases hj
theorem Rb(L:List Fl)(A:Option Addr)(c n aJ:Nat)(w:World)(hr:aJ<L.length)(hn:n=aJ+1)(hN:NF w w.heap.size (.slice A L.length c) L):
 Calls prog 198 #[.slice A L.length c, .int .i64 (aJ:Int)] w (wY w (lz L aJ)):=by
 obtain⟨i0,gF,gX,dw,eU⟩:=Zv Q_;obtain⟨A',c',e,Qa,JH⟩:=hN.len;injection e with e1 e2 e3
 subst e1 e3;have rQ:=J (vZ L A c n aJ w hr hn hN);have HN:=J hN;have U9:=J (fun i j=>AW (qZ L aJ).1 L i j)
 have hnr:n≤L.length:=by omega
 have lj:n≤aJ+1:=by omega
 have gW:aJ+1≤n:=by omega
 have hrl:(aJ:Int)<(L.length:Int):=by omega
 have hLn:L.length≤1300000000000:=by omega
 have hLt:(nR L).length=L.length:=Wz L;have HFO:=J (show cU (qZ L aJ).1 L (aJ+1) aJ=lz L aJ from rfl)
 obtain⟨R0,hR0⟩: ∃R0,lz L aJ=R0:=⟨_,rfl⟩;rw [hR0]at HFO⊢;unfold pR at rQ;unfold qZ at HFO U9;obtain⟨inb,U7⟩: ∃b,(ay (nR L) aJ).1=b:=⟨_,rfl⟩;rw [U7]at rQ HFO U9;generalize(ay (nR L) aJ).2=ok at rQ;have HAN:=J (fun i t (h:L[i]? =some t) (hb:inb i=true)=>LN h hb)
 have HAS:=J (fun i t (h:L[i]? =some t) (hb:inb i=false)=>LO h hb)
 have HA0:=J (show cU inb L 0=fun _=>[]from rfl)
 have HAB:=J (fun i=>oB (inb:=inb) (L:=L) (za i))
 obtain⟨FF,hFF⟩: ∃F,cU inb L=F:=⟨_,rfl⟩;rw [hFF]at HFO U9 HAN HAS HA0 HAB;have rS:=J hLt;clear hN hn hR0 U7 hFF hLt;go_enter func198,ntmps198;go_wp2_with fail;go_at_call 195
 (with_reducible refine(rQ.out).mono ?_)
 rintro e w1 ⟨gb,rfl,hgb,AJ,cT⟩;have qA:=J AJ;have bp:=J cT;clear AJ cT rQ;go_wp2_with (refine wpList_make_full _ rfl _ _ _ rfl w1.heap.size 271 i0 (.slice none 0 0) 1 Ra gF gX dw _ _ _ _ n rfl rfl (by omega) (by omega) (by rw [eU];omega) (by unfold maxLen;omega) (za _) ?_)
 intro w3 mV kY;rw [toList_madeCells_one]at mV;have YQ:=J (tz.start qA.out bp.out hgb mV kY);obtain⟨g,hg⟩: ∃g,w1.heap.size=g:=⟨_,rfl⟩;rw [hg]at YQ⊢;clear mV kY qA bp hg hgb;generalize List.replicate n (Value.slice none 0 0)=vs0 at YQ;go_wp2_with fail
 go_loopw [35] (fun ix wr=> ∃(k:Nat) (vs:List Value),k≤n∧ix= .int .i64 (k:Int)∧Hid (tz 271 w n n g gb inb (FF k) vs wr)) (fun ix _=>n-(intOf ix).toNat)
 case atStart=>exact⟨0,vs0,zO _,rfl,by rw [HA0.out];exact YQ⟩
 case round=>
  obtain⟨k,vs,hk,rfl,HS⟩:=hrel;obtain⟨wo,rfl⟩: ∃wo:World,wo=wr:=⟨_,rfl⟩
  rcases zj k n with bw|iE
  ·obtain⟨t,ht⟩: ∃t,L[k]? =some t:=⟨_,zk (by omega)⟩
   have Wc:=HN.out.keep (fun p hp=>HS.out.bel.cell hp)
   obtain⟨ad,vv,kv,av,rfl,had,xJ,a0,a1,a2,a3,a4,a5,a6,a7,a8⟩:=Wc.at9 ht;obtain⟨VA,vc,rfl,_,_⟩:=xJ.v.len;obtain⟨KA,kc,rfl,_,_⟩:=xJ.k.len;obtain⟨AA,ac,rfl,Qf,ha2⟩:=xJ.a.len;have lv:=xJ.lv;have lk:=xJ.lk;have la:=xJ.la;have HTV:=J xJ;obtain⟨W1,hW⟩: ∃W1,wo.alloc (mA t (.slice VA t.vars.length vc) (.slice KA t.keys.length kc) (.slice AA t.args.length ac))=W1:=⟨_,rfl⟩;have gZ:Below wo.heap.size wo W1:=by rw [←hW];exact(zg _ _).alloc (za _) _
   have tu:=J (show ai W1 wo.heap.size 28 #[.int .i64 t.k, .int .i64 t.n, .int .i64 t.m, .int .i64 t.i, .int .u64 t.b, .string ⟨t.t.toArray⟩, .slice VA t.vars.length vc, .slice KA t.keys.length kc, .slice AA t.args.length ac]by rw [←hW];exact ai.new _ _ _)
   have qu:=J (HS.out.below gZ);have dD:=J gZ;have cin:=qu.out.made bw;unfold mA at hW;have hkL:(k:Int)<(L.length:Int):=by omega
   have We:(k:Int)<(n:Int):=by omega
   have hkr:(k:Int)<(aJ:Int)+1:=by omega
   clear xJ Wc gZ
   cases hin:inb k
   ·rw [hin]at cin
    have HE:=J (HAS.out k t ht hin);clear ht hin;go_wp2_with fail
    go_roundw
    case rel=>exact⟨k+1,vs,by omega,by go_num,by rw [HE.out];exact qu⟩
    case measure=>simp [intOf];omega
   ·rw [hin]at cin
    have HE:=J (HAN.out k t ht hin);obtain⟨RR,hRR⟩: ∃RR,dX L (FF k) t k t.args (fj t)=RR:=⟨_,rfl⟩;rw [hRR]at HE;have HMT:=J (zC ht);have HHI:=J (CH HMT.out);have HQ:=J (show dX L (FF k) t k (t.args.drop 0) (fj t)=RR from hRR)
    have HZ:=J (HAB.out k);have c0:=tu.out.c0;have c1:=tu.out.c1;clear ht hin hRR
    go_upto_if 47 with fail
    go_cut [35]from 35 to 103 (fun ix wx=>ix= .int .i64 (k:Int)∧∃vs1:List Value,Hid (tz 271 w n n g gb inb (yc (FF k) k (fj t)) vs1 wx)∧Hid (ai wx wo.heap.size 28 #[.int .i64 t.k, .int .i64 t.n, .int .i64 t.m, .int .i64 t.i, .int .u64 t.b, .string ⟨t.t.toArray⟩, .slice VA t.vars.length vc, .slice KA t.keys.length kc, .slice AA t.args.length ac]))
    case first=>
     by_cases k1:t.k=1
     ·have q1:=be k1
      have U_:Below W1.heap.size W1 (W1.alloc (.cells #[.int .i64 t.n] 3)):=(zg _ _).alloc (za _) _;have sZ:=J (qu.out.below U_);obtain⟨v0,_,cv,fv,_⟩:=sZ.out.at_ bw;have lR:=J (sZ.out.store bw (u:= .slice (some ⟨W1.heap.size,0,none⟩) 1 1) ((tZ W1 t.n).more (by simp)))
      have hgS:g<wo.heap.size:=HS.out.lt;have Wd:=J ((tu.out.alloc (.cells #[.int .i64 t.n] 3)).far (p:=⟨g,k,none⟩) (by show wo.heap.size≠g;omega) (.slice (some ⟨W1.heap.size,0,none⟩) 1 1))
      have Cc:=J (show fj t=[t.n]from zh k1)
      clear k1 U_;go_wp2_with fail
      go_meet
      case rel=>exact⟨rfl,_,by rw [Cc.out];exact lR,Wd⟩
     ·have q1:=ag k1
      have Cc:=J (show fj t=[]from ze k1)
      clear k1;go_wp2_with fail
      go_meet
      case rel=>exact⟨rfl,vs,by rw [Cc.out];exact qu.out.cast (WC HZ.out).symm,tu⟩
    case rest=>
     obtain⟨rfl,vs1,vX,jC⟩:=hcut;clear cin c0 c1;have b0:=jC.out.c0;have b1:=jC.out.c1;have b2:=jC.out.c2;have b3:=jC.out.c3;have b4:=jC.out.c4;have b5:=jC.out.c5;have b6:=jC.out.c6;have b7:=jC.out.c7;have b8:=jC.out.c8;have HTW:=J (show FV wc wc.heap.size t (.slice VA t.vars.length vc) (.slice KA t.keys.length kc) (.slice AA t.args.length ac)from(HTV.out.keep (w':=wc) (fun p hp=>(vX.out.bel.cell hp).trans (HS.out.bel.cell hp).symm)).more (by have:=vX.out.bel.size;omega))
     have HBD:=J (FI t _ _ _ wc HTW.out);unfold cG at HBD;have vu:=J (show∀rI l a,dX L (FF k) t k (a::l) rI=dX L (FF k) t k l (if a<0∨(k:Int)≤a then rI else uS rI (Q7 (gh (cV L a)) (eW t) (FF k a.toNat)))from fun _ _ _=>FT)
     obtain⟨bl,qB⟩: ∃b,eW t=b:=⟨_,rfl⟩;rw [qB]at HBD vu;clear qB;go_wp2_with (go_at_call 257;(with_reducible refine(HBD.out).mono ?_);rintro e w3 ⟨bv,rfl,hbv,kZ⟩;have HBV:=J hbv;have Cq:=J (vX.out.below kZ);have U8:=J (jC.out.below kZ jC.out.lt);clear hbv kZ;clear b0 b1 b2 b3 b4 b5 b6 b7 b8;have b8:=U8.out.c8)
     go_loopw [59] (fun jx wr=> ∃(m:Nat) (vs2:List Value) (rI:List Int),m≤t.args.length∧jx= .int .i64 (m:Int)∧Hid (In (nR L) rI)∧Hid (dX L (FF k) t k (t.args.drop m) rI=RR)∧Hid (tz 271 w n n g gb inb (yc (FF k) k rI) vs2 wr)∧Hid (ai wr wo.heap.size 28 #[.int .i64 t.k, .int .i64 t.n, .int .i64 t.m, .int .i64 t.i, .int .u64 t.b, .string ⟨t.t.toArray⟩, .slice VA t.vars.length vc, .slice KA t.keys.length kc, .slice AA t.args.length ac])∧Hid (IV wr wr.heap.size bv bl)) (fun jx _=>t.args.length-(intOf jx).toNat)
     case atStart=>exact⟨0,_,(fj t),zO _,rfl,HHI,HQ,Cq,U8,HBV⟩
     case round=>
      obtain⟨m,vs2,rI,hm,rfl,HI2,qX,sZ,UW,adD⟩:=hrel
      rcases zj m t.args.length with akc|aj4
      ·obtain⟨a,ha⟩: ∃a,t.args[m]? =some a:=⟨_,zk akc⟩
       have YW:=HTV.out.keep (w':=wr) (fun p hp=>(sZ.out.bel.cell hp).trans (HS.out.bel.cell hp).symm)
       obtain⟨aa,rfl,haa,kX⟩:=YW.a.at_ ha;have hra:=HTV.out.ra a (zC ha);have vw:=qX.out;rw [sC ha,vu.out]at vw;have rP:(m:Int)<(t.args.length:Int):=by omega
       clear ha
       by_cases h1:a<0
       ·rw [zh (.inl h1)]at vw
        have QI:=J vw;have q1:decide (a<0)=true:=zc h1;clear vw h1 YW;go_wp2_with fail
        go_roundw
        case rel=>exact⟨m+1,vs2,rI,by omega,by go_num,HI2,QI,sZ,UW,adD⟩
        case measure=>simp [intOf];omega
       ·by_cases h2:(k:Int)≤a
        ·rw [zh (.inr h2)]at vw
         have QI:=J vw;have q1:decide (a<0)=false:=zb (by omega)
         have q2:decide ((k:Int)≤a)=true:=zc (by omega)
         clear vw h1 h2 YW;go_wp2_with fail
         go_roundw
         case rel=>exact⟨m+1,vs2,rI,by omega,by go_num,HI2,QI,sZ,UW,adD⟩
         case measure=>simp [intOf];omega
        ·rw [ze (by rintro(h|h)<;>omega)]at vw
         obtain⟨x,rfl⟩: ∃x:Nat,a=(x:Int):=⟨a.toNat,by omega⟩
         rw [zv]at vw;obtain⟨tx,htx⟩: ∃tx,L[x]? =some tx:=⟨_,zk (by omega)⟩
         rw [oy (by rw [zv];exact htx)]at vw
         obtain⟨adx,_,_,_,hax,_,_,cxk,_⟩:=(HN.out.keep (w':=wr) (fun p hp=>sZ.out.bel.cell hp)).at_ htx
         obtain rfl:=zz hax;have U6:=J (fun w'=>yK tx.k w')
         obtain⟨at_,Fy⟩: ∃b,gh tx.k=b:=⟨_,rfl⟩;rw [Fy]at vw U6;have QI:=J vw;have q1:decide ((x:Int)<0)=false:=zb (by omega)
         have q2:decide ((k:Int)≤(x:Int))=false:=zb (by omega)
         have hxk:x<k:=by omega
         have YV:x<n:=by omega
         have hxn:(x:Int)<(n:Int):=by omega
         have hxL:(x:Int)<(L.length:Int):=by omega
         obtain⟨vi,ki,ci,fi,hvi⟩:=sZ.out.at_ (i:=k) bw;obtain⟨vx,kx,cx,_,hvx⟩:=sZ.out.at_ (i:=x) YV;rw [pK]at hvi;rw [ng (by omega)]at hvx
         obtain⟨IA,ic,rfl,lQ,yD⟩:=hvi.len;obtain⟨XA,xc,rfl,gY,hx2⟩:=hvx.len;have HIX:=J (U9.out k x);have Qc:=HI2.out.len;have hlx:=HIX.out.len;rw [rS.out]at Qc hlx;have HWO:=J (fun w' vb (h1:IV w' w'.heap.size (.slice XA (FF k x).length xc) (FF k x)) (h2:IV w' w'.heap.size vb bl)=>LI (FF k x) bl _ vb w' HIX.out.ss (by omega) h1 h2)
         have HUN:=J (fun w' vb (h1:IV w' w'.heap.size (.slice IA rI.length ic) rI) (h2:IV w' w'.heap.size vb (Q7 at_ bl (FF k x)))=>FJ rI (Q7 at_ bl (FF k x)) _ vb w' HI2.out.ss (FU at_ HIX.out).ss (by omega) (by have:=(FU (b:=bl) at_ HIX.out).len;rw [rS.out]at this;omega) h1 h2)
         have adI:=J sZ.out.drew;have U4:=J UW.out.drew;have HVI:=J hvi.drew;have HVX:=J hvx.drew;have HKI:=J ki;have HKX:=J kx;have adH:=J adD.out.drew;have K2:=J (J_ adI.out U4.out ki kx bw YV);have HI3:=J (HI2.out.mrg (FU (b:=bl) at_ HIX.out).sub);have hgS:g<wo.heap.size:=HS.out.lt;clear vw h1 h2 YW hvi hvx lQ yD gY hx2 ki kx htx hax Fy;have b8':=UW.out.c8
         cases at_
         ·go_wp2_with (go_at_call 258;(with_reducible refine(U6.out _).q ?_))
          go_region_with
              (first
               |(go_at_call 260;(with_reducible refine(HWO.out _ _ HVX.out adH.out).mono ?_);rintro e w4 ⟨wv,rfl,hwv,k6⟩;have HWV:=J (show IV w4 w4.heap.size wv (Q7 false bl (FF k x))from hwv);have vX:=J (adI.out.below k6);have jC:=J (U4.out.below k6 U4.out.lt);have aka:=J (HVI.out.below k6);have aj6:=J (adH.out.below k6);have K4:=J (J_ vX.out jC.out HKI.out HKX.out bw YV);have ck4:=K4.out;obtain⟨e0,e1,e2,e3,e4,e5,e6,e7,e8,e9,e10⟩:=ck4;clear hwv k6)
               |(go_at_call 259;(with_reducible refine(HUN.out _ _ aka.out HWV.out).mono ?_);rintro e w5 ⟨uv,rfl,huv,lq⟩;obtain⟨UA,uc,rfl,_,_⟩:=huv.len;have Cq:=J (vX.out.below lq);have U8:=J (jC.out.below lq jC.out.lt);have adG:=J (aj6.out.below lq);have f5:=Zt Cq.out.row k;have c5:=Cq.out.cell_ HKI.out bw;have HS6:=J ((Cq.out.store bw huv).cast CJ);have HX6:=J (U8.out.far (p:=⟨g,k,none⟩) (by show wo.heap.size≠g;omega) (.slice UA (uS rI (Q7 false bl (FF k x))).length uc));have adE:=J (adG.out.store c5 (.slice UA (uS rI (Q7 false bl (FF k x))).length uc));clear huv lq))
          all_goals
              go_wp2_with fail
              go_roundw
              case rel=>exact⟨m+1,_,_,by omega,by go_num,HI3,QI,HS6,HX6,by simpa using adE⟩
              case measure=>simp [intOf];omega
         ·have aj7:=J (show IV wr.drew wr.drew.heap.size (.slice XA (FF k x).length xc) (Q7 true bl (FF k x))from HVX.out)
          go_wp2_with (go_at_call 258;(with_reducible refine(U6.out _).q ?_))
          go_region_with
              (first
               |(go_at_call 259;(with_reducible refine(HUN.out _ _ HVI.out aj7.out).mono ?_);rintro e w5 ⟨uv,rfl,huv,lq⟩;obtain⟨UA,uc,rfl,_,_⟩:=huv.len;have Cq:=J (adI.out.below lq);have U8:=J (U4.out.below lq U4.out.lt);have adG:=J (adH.out.below lq);have f5:=Zt Cq.out.row k;have c5:=Cq.out.cell_ HKI.out bw;have HS6:=J ((Cq.out.store bw huv).cast CJ);have HX6:=J (U8.out.far (p:=⟨g,k,none⟩) (by show wo.heap.size≠g;omega) (.slice UA (uS rI (Q7 true bl (FF k x))).length uc));have adE:=J (adG.out.store c5 (.slice UA (uS rI (Q7 true bl (FF k x))).length uc));clear huv lq))
          all_goals
              go_wp2_with fail
              go_roundw
              case rel=>exact⟨m+1,_,_,by omega,by go_num,HI3,QI,HS6,HX6,by simpa using adE⟩
              case measure=>simp [intOf];omega
      ·obtain rfl:m=t.args.length:=by omega
       have oj:=J (show rI=RR by have:=qX.out;rw [List.drop_length]at this;exact this)
       have q0:(t.args.length:Int)≤(t.args.length:Int):=Int.le_refl _;clear aj4 hm;go_wp2_with fail
       go_roundw
       case rel=>exact⟨k+1,vs2,by omega,by go_num,by rw [HE.out,←oj.out];exact sZ⟩
       case measure=>simp [intOf];omega
  ·obtain rfl:k=aJ+1:=by omega
   obtain⟨v0,_,c0,_,Wb⟩:=HS.out.at_ (i:=aJ) (by omega)
   rw [HFO.out]at Wb;have hlr:=(U9.out (aJ+1) aJ).len;rw [HFO.out,rS.out]at hlr;obtain⟨IA,un,uc,rfl⟩:=Wb.shape;have vW:=J (FK R0 _ wo (by omega) Wb)
   have HSO:=J HS.out.bel;have hrn:(aJ:Int)<(n:Int):=by omega
   have q0:(aJ:Int)+1≤((aJ+1:Nat):Int):=by omega
   clear Wb hlr iE hk;go_wp2_with (go_at_call 261;(with_reducible refine(vW.out).mono ?_);rintro e w9 ⟨v9,rfl,ho9,U5⟩;have HO9:=J ho9.iv;have QM:=J (HSO.out.trans (U5.mono HSO.out.size));clear ho9 U5);go_ret;exact⟨_,rfl,HO9.out,QM.out⟩
end Go.Proofs.YtcpmiplofbfmfaaGreatDoor
namespace LamM
end LamM
namespace Go.Proofs.YtcpmiplofbfmfaaGreatDoor
open Go.RowKit LamM
section
variable {w0 wr w':World} {n' gb:Nat} {pv:Value} {inb:Nat→Bool} {bx:Array Value}
end
def BH(R:Int)(w:World)(e:Ending)(w':World):Prop:=e= .returned (.int .i64 R)∧Below w.heap.size w w'
set_option maxHeartbeats 1000000
open Tryz
open Go.RowKit LamM CpsM
theorem L6(L:List Fl)(v:Value)(aJ:Int)(w:World)(hN:NF w w.heap.size v L):Calls prog 198 #[v, .int .i64 aJ] w (wY w (rY L aJ)):=by
 obtain⟨A,c,rfl,Qa,JH⟩:=hN.len
 by_cases h0:aJ<0
 ·rw [rZ (.inl h0)]
  have q0:=zc h0;clear hN;go_enter func198,ntmps198;go_wp2_with fail;go_ret;exact⟨_,rfl,bm _ _,zg _ _⟩
 ·by_cases h1:(L.length:Int)≤aJ
  ·rw [rZ (.inr h1)]
   have q0:=zb h0;have q1:=zc h1;clear hN;go_enter func198,ntmps198;go_wp2_with fail;go_ret;exact⟨_,rfl,bm _ _,zg _ _⟩
  ·obtain⟨r,rfl⟩: ∃r:Nat,aJ=(r:Int):=⟨aJ.toNat,by omega⟩
   rw [uB (by omega)]
   exact Rb L A c (r+1) r w (by omega) rfl hN
structure L7(w0:World)(n' gb:Nat)(pv:Value)(inb:Nat→Bool)(bx:Array Value)(wr:World):Prop where
 own:wr.ownsRow gb 4 1 (.slice (some ⟨gb,0,none⟩) n' n') n' (dJ n' inb)
 prv:PV wr wr.heap.size pv ao
 bel:Below w0.heap.size w0 wr
 box:ai wr w0.heap.size 63 bx
section
variable {w0 wr w':World} {n' gb:Nat} {pv:Value} {inb:Nat→Bool} {bx:Array Value}
theorem L7.below(H:L7 w0 n' gb pv inb bx wr)(hb:Below wr.heap.size wr w'):L7 w0 n' gb pv inb bx w':=
 ⟨bj H.own hb,H.prv.below hb,H.bel.trans (hb.mono H.bel.size),H.box.below hb H.box.lt⟩
theorem L7.drewN(H:L7 w0 n' gb pv inb bx wr)(k:Nat):L7 w0 n' gb pv inb bx (wr.drewN k):=H.below ⟨rfl,rfl,rfl,za _,fun _ _=>rfl⟩
theorem L7.drew(H:L7 w0 n' gb pv inb bx wr):L7 w0 n' gb pv inb bx wr.drew:=H.below (Below.drew (zg _ _))
theorem L7.made(H:L7 w0 n' gb pv inb bx wr){i:Nat}(hi:i<n'):wr.cell? ⟨gb,i,none⟩=some (.bool (inb i)):=by
 rw [zM H.own i (by omega),eY hi]
end
open Go.RowKit LamM Go.Maps
def ajF:Value→Option (DataW Value×List MemPlace)
 | .func f a b=>some (.held (.func f a b),[])
 | .nilFunc=>some (.held .nilFunc,[])
 |_=>none
abbrev prK:Lit:= .string [112,114,105,110,116]
def KS(w:World)(B n:Nat)(x:Option Value):Prop:=
 ∃D:DataW Value,w.ownsMap prog 9 ajF B n D∧(∀v,x=some v→∀z,D.atKey prK z= .held v)
section
variable {w w':World} {B n:Nat} {x:Option Value}
theorem KS.lt(h:KS w B n x):B<w.heap.size:=by obtain⟨D,h,_⟩:=h;exact h.lt
theorem KS.below(h:KS w B n x)(hb:Below w.heap.size w w'):KS w' B n x:=by
 obtain⟨D,h,hx⟩:=h;exact⟨D,h.kept (Below.toGrown hb) (by simp),hx⟩
theorem KS.alloc(h:KS w B n x)(o:Obj):KS (w.alloc o) B n x:=h.below ((zg _ _).alloc (za _) o)
theorem KS.setCell(h:KS w B n x){p:Addr}(hp:p.block≠B)(u:Value):KS (w.setCell p u) B n x:=by
 obtain⟨D,h,hx⟩:=h;exact⟨D,h.setCell (fun e=>hp e.symm) u,hx⟩
theorem KS.mono(h:KS w B n x){m:Nat}(hm:n≤m):KS w B m x:=by obtain⟨D,h,hx⟩:=h;exact⟨D,h.mono hm,hx⟩
end
end Go.Proofs.YtcpmiplofbfmfaaGreatDoor
namespace LamM
end LamM
namespace Go.Proofs.YtcpmiplofbfmfaaGreatDoor
open Go.RowKit LamM Go.Maps
def PN(w:World)(P0:Nat)(ad:Addr):Prop:=
 ad.block<P0∧∀i p,ao[i]? =some p→∃ty RA rn rc,w.cell? (ad.add (i*5))=some (.string ⟨p.nm.toArray⟩)∧w.cell? (ad.add (i*5+1))=some (.int .i64 p.con)∧w.cell? (ad.add (i*5+2))=some (.int .i64 p.args)∧
  w.cell? (ad.add (i*5+3))=some (.string ty)∧w.cell? (ad.add (i*5+4))=some (.slice RA rn rc)
theorem PN.keep{w w':World}{P0:Nat}{ad:Addr}(h:PN w P0 ad)(hk: ∀p:Addr,p.block=ad.block→w'.cell? p=w.cell? p):PN w' P0 ad:=by
 refine⟨h.1,fun i p hp=> ?_⟩
 obtain⟨ty,RA,rn,rc,h0,h1,h2,h3,h4⟩:=h.2 i p hp;exact⟨ty,RA,rn,rc,(hk _ (ak _ _)).trans h0,(hk _ (ak _ _)).trans h1,(hk _ (ak _ _)).trans h2,(hk _ (ak _ _)).trans h3,(hk _ (ak _ _)).trans h4⟩
section
variable {w0 wr w':World} {B M P0 k:Nat} {xU:Int} {ad:Addr} {dv:Value} {vs:List Value}
end
end Go.Proofs.YtcpmiplofbfmfaaGreatDoor
namespace LamM
end LamM
namespace Go.Proofs.YtcpmiplofbfmfaaGreatDoor
open Go.RowKit LamM Go.Maps
open Tryz
open Lib renaming hid→J
open Go.RowKit LamM CpsM
theorem FO{s r:List Int}{v:Int}:uA s (v::r)=(!(decide (v<0)||s.contains v)&&uA (s++[v]) r):=rfl
theorem LK{α:Type}{l:List α}{k:Nat}{a:α}(h:l[k]? =some a):l.take k++[a]=l.take (k+1):=by
 rw [Io,h];rfl
theorem CB(l:List Int)(v:Value)(B:Nat)(w:World)(hV:IV w B v l):
 Calls prog 298 #[v] w fun e w'=>e= .returned (.bool (Cy l))∧w=w':=by
 obtain⟨A,c,rfl,h1,h2⟩:=hV.len;have hl:l.length≤9223372036854775807:=by unfold maxLen at h2;omega
 have HV:=J hV;unfold Cy;obtain⟨r,hr⟩: ∃r,uA [] l=r:=⟨_,rfl⟩;have HQ:=J (show uA (l.take 0) (l.drop 0)=r from hr)
 rw [hr];clear hV hr;go_enter func298,ntmps298
 go_wp2
 go_loopw [7] (fun i wr=>wr=w∧∃k:Nat,k≤l.length∧i= .int .i64 (k:Int)∧Hid (uA (l.take k) (l.drop k)=r)) (fun i _=>l.length-(intOf i).toNat)
 case atStart=>exact⟨rfl,0,zO _,rfl,HQ⟩
 case round=>
  obtain⟨rfl,k,hk,rfl,HK⟩:=hrel
  rcases zj k l.length with bw|iE
  ·obtain⟨a,ha⟩: ∃a,l[k]? =some a:=⟨_,zk bw⟩
   have Wa:=J (KQ (l.take k) (.slice A k c) a B wr (mZ HV.out (by omega)))
   obtain⟨aa,rfl,haa,ca⟩:=HV.out.at_ ha;have rP:(k:Int)<(l.length:Int):=by omega
   have E6:(k:Int)≤(c:Int):=by omega
   have hc0: ¬c=0:=by omega
   have hq:=HK.out;rw [sC ha,FO,LK ha]at hq
   by_cases h:a<0
   ·have HR:=J (show r=false by rw [zc h]at hq;exact hq.symm)
    have q:=zc h;clear h ha hq;go_wp2_with fail;go_ret;exact⟨by rw [HR.out];rfl,rfl⟩
   ·rw [zb h,Bool.false_or]at hq
    have q:=zb h
    cases hcn:(l.take k).contains a
    ·rw [hcn]at hq Wa
     have qX:=J (show uA (l.take (k+1)) (l.drop (k+1))=r from hq)
     clear h ha hq hcn;go_wp2_with (go_at_call 307;(with_reducible refine(Wa.out).q ?_))
     go_roundw
     case rel=>exact⟨by first|rfl|trivial,k+1,by omega,by go_num,qX⟩
     case measure=>simp [intOf];omega
    ·rw [hcn]at hq Wa
     have HR:=J (show r=false from hq.symm)
     clear h ha hq hcn;go_wp2_with (go_at_call 307;(with_reducible refine(Wa.out).q ?_));go_ret;exact⟨by rw [HR.out];rfl,rfl⟩
  ·have HR:=J (show r=true by have:=HK.out;rw [Zx iE]at this;exact this.symm)
   have q:(l.length:Int)≤(k:Int):=by omega
   clear iE hk
   by_cases h64:l.length≤64
   ·have q2:=zc (show(l.length:Int)≤64 by omega)
    have q3:=J (zc h64);clear h64;go_wp2_with fail;go_ret;exact⟨by rw [HR.out,q3.out];rfl,rfl⟩
   ·have q2:=zb (show¬(l.length:Int)≤64 by omega)
    have q3:=J (zb h64);clear h64;go_wp2_with fail;go_ret;exact⟨by rw [HR.out,q3.out];rfl,rfl⟩
end Go.Proofs.YtcpmiplofbfmfaaGreatDoor
