/- Shrink: the writer's scopes: find, bind. -/
import Derived.Test.YtcpmiplofbfmfaaGreatDoorA08
set_option linter.all false
set_option maxRecDepth 100000
set_option maxHeartbeats 2000000
namespace Go.Proofs.YtcpmiplofbfmfaaGreatDoor
open Tryz
open Lib renaming hid→J
open Go.RowKit LamM CpsM FloM ShrM
inductive rG(w:World):Value→List (Int×Int)→Prop
 |nil:rG w (.pointer none) []
 |cons {b:Nat} {o n:Int} {v:Value} {S:List (Int×Int)} (h:ai w b 219 #[.int .i64 o, .int .i64 n,v]) (k:rG w v S):rG w (.pointer (some ⟨b,0,none⟩)) ((o,n)::S)
theorem rG.keep{w w':World}{v:Value}{S:List (Int×Int)}(h:rG w v S)(hk: ∀b cs,ai w b 219 cs→ai w' b 219 cs):rG w' v S:=by
 induction h with
 |nil=>exact .nil
 |cons h _ ih=>exact .cons (hk _ _ h) ih
theorem rG.down{w w':World}{v:Value}{S:List (Int×Int)}(h:rG w v S)(hb:Below w.heap.size w w'):rG w' v S:=h.keep (fun _ _ hB=>hB.below hb hB.lt)
theorem rG.ptr{w:World}{v:Value}{S:List (Int×Int)}(h:rG w v S): ∃p,v= .pointer p:=by
 cases h with
 |nil=>exact⟨_,rfl⟩
 |cons h k=>exact⟨_,rfl⟩
theorem P4(x n:Int)(S:List (Int×Int))(v:Value)(w:World)(hS:rG w v ((x,n)::S)):
 Calls prog 199 #[v, .int .i64 x] w fun e w'=>e= .returned (.int .i64 n)∧w=w':=by
 cases hS with
 |cons h k=>
  rename_i b ov;have c0:=h.c0;have c1:=h.c1;have q0:(x !=x)=false:=by simp
  clear h k;go_enter func199,ntmps199;go_wp2_with fail;refine Zi 2 ?_;rw [zI];go_wp2_with fail;go_ret;exact⟨rfl,rfl⟩
theorem EX(P:Nat)(fv ov sv:Value)(nx x:Int)(S:List (Int×Int))(w:World)(hP:ai w P 160 #[fv,ov, .int .i64 nx])(hS:rG w sv S)(h0:0≤nx)(h1:nx≤1000000):
 Calls prog 200 #[.pointer (some ⟨P,0,none⟩), .int .i64 x,sv] w fun e w'=> ∃b,e= .returned (.pointer (some ⟨b,0,none⟩))∧w.heap.size≤b∧ai w' b 219 #[.int .i64 x, .int .i64 (nx+1),sv]∧rG w' sv S∧ai w' P 160 #[fv,ov, .int .i64 (nx+1)]∧ap [P] w w':=by
 obtain⟨pp,rfl⟩:=hS.ptr;have c2:=hP.c2;have f2:=hP.frozen 2;have HP:=J hP;have HS:=J hS;have bw:=hP.lt;obtain⟨W,hW⟩: ∃W,w.setCell ⟨P,2,none⟩ (.int .i64 (nx+1))=W:=⟨_,rfl⟩;have HPW:=J (show ai W P 160 #[fv,ov, .int .i64 (nx+1)]by rw [←hW];exact hP.set_ 2 (.int .i64 (nx+1)))
 have HO:=J (show ap [P] w W by rw [←hW];exact(ap.refl _ _).one)
 have d2:=HPW.out.c2;have dq:W.heap.size=w.heap.size:=by rw [←hW];simp
 have HSW:=J (hS.keep (w':=W) (fun b cs hB=>hB.only HO.out (by
  intro h;exact hB.ne_ hP (by decide) (zt.1 h))))
 clear hP hS;go_enter func200,ntmps200;go_wp2_with fail;go_ret;have dD:=J ((zg W.heap.size W).alloc (za _) (.cells #[.int .i64 x, .int .i64 (nx+1), .pointer pp] 219));refine⟨W.heap.size,by rw [dq];rfl,Nat.le_of_eq dq.symm,ai.new W _ _,HSW.out.down dD.out,HPW.out.alloc _,HO.out.alloc _⟩
end Go.Proofs.YtcpmiplofbfmfaaGreatDoor
namespace ShrM
open LamM CpsM
abbrev Sc:=List (Int×Int)
def hdW(t:Fl)(S:Sc)(nx:Int):Option (Fl×Sc×Int):=
 if t.k=1 then(match S with|(o,n)::_=>if o=t.n then some (⟨1,n,0,0,0,[],[],[],[]⟩,S,nx)else none|[]=>none)
 else if t.k=2 then some (⟨2,0,0,t.i,0,[],[],[],[]⟩,S,nx)
 else if t.k=5 then some (⟨5,nx+1,0,0,0,[],[],[],[]⟩,(t.n,nx+1)::S,nx+1)
 else if t.k=7 then some (⟨7,nx+1,t.m,0,0,[],[],[],[]⟩,(t.n,nx+1)::S,nx+1)
 else if t.k=13 then some (⟨13,0,0,0,0,[],[],[],[]⟩,S,nx)
 else none
def iD(sts:Nat→List Fl×Int)(n:Nat):List Int:=(List.range n).map fun k=>((sts (k+1)).1.length:Int)-1
inductive EY(L:List Fl):Nat→Sc→List Fl×Int→List Fl×Int→Prop
 |mk {i:Nat} {S inner:Sc} {st:List Fl×Int} {t out:Fl} {nx1:Int} (sts:Nat→List Fl×Int) (us:Nat→Fl) (ht:L[i]? =some t) (hd:hdW t S st.2=some (out,inner,nx1)) (h0:sts 0=(st.1,nx1))
   (hb: ∀k,k≤t.args.length→(sts k).1.length≤99∧0≤(sts k).2∧(sts k).2≤100) (hx:0≤st.2∧st.2≤99) (hal:t.args.length≤10) (hlf:t.k≤4→t.args=[])
   (hu: ∀k a,t.args[k]? =some a→0≤a∧L[a.toNat]? =some (us k))
   (hk: ∀k a,t.args[k]? =some a→EY L a.toNat (if(us k).k≤4 then S else inner) (sts k) (sts (k+1))):
   EY L i S st ((sts t.args.length).1++[{out with args:=iD sts t.args.length}],(sts t.args.length).2)
end ShrM
namespace Go.Proofs.YtcpmiplofbfmfaaGreatDoor
open Go.RowKit LamM CpsM FloM ShrM
abbrev Wn:=Fl×Value
def YP(x:Wn):Fq:=(x.1, .slice none 0 0, .slice none 0 0,x.2)
structure mU(P:Nat)(fv:Value)(w:World)(ov:Value)(nds:List Wn)(nx:Int):Prop where
 blk:ai w P 160 #[fv,ov, .int .i64 nx]
 own:w.ownsRow (P+1) 28 9 ov nds.length (dH (nds.map YP))
 args: ∀x∈nds,x.1.vars=[]∧x.1.keys=[]∧w.ownsRow (P+1) 3 1 x.2 x.1.args.length (aZ x.1.args)
def sW(P:Nat)(ov:Value):List Nat:=P::ov.ownBlock.toList
def nW(P:Nat)(fv:Value)(w:World)(ov:Value)(nds:List Wn)(st:List Fl×Int)(e:Ending)(w':World):Prop:=
 ∃ov2 more,e= .returned (.int .i64 ((st.1.length:Int)-1))∧mU P fv w' ov2 (nds++more) st.2∧(nds++more).map (·.1)=st.1∧ap (sW P ov) w w'∧(∀g,ov2.ownBlock=some g→ov.ownBlock=some g∨w.heap.size≤g)∧∀x∈more,∀g,x.2.ownBlock=some g→w.heap.size≤g
theorem JD{w:World}{b1 b2 s1 s2 n1 n2:Nat}{e1 e2:TypeId}{v1 v2:Value}{x1 x2:List Value}{g:Nat}(h1:w.ownsRow b1 e1 s1 v1 n1 x1)(h2:w.ownsRow b2 e2 s2 v2 n2 x2)(fa:e1≠e2)(hg:v1.ownBlock=some g):v2.ownBlock≠some g:=by
 intro xX
 rcases h1.2 with⟨rfl,_⟩|⟨g1,c1,arz,rfl,_,JI,_⟩
 ·simp [Value.ownBlock]at hg
 rcases h2.2 with⟨rfl,_⟩|⟨g2,c2,ary,rfl,_,Fu,_⟩
 ·simp [Value.ownBlock]at xX
 obtain rfl:g1=g:=by simpa [Value.ownBlock]using hg
 obtain rfl:g2=g1:=by simpa [Value.ownBlock]using xX
 rw [JI]at Fu;injection Fu with Fu
 injection Fu with _ h
 exact fa h
theorem nP{P k:Nat}{ov:Value}(h:k∈sW P ov):k=P∨ov.ownBlock=some k:=by
 unfold sW at h
 rcases zx.1 h with h|h
 ·exact .inl h
 ·exact .inr (by simpa using h)
theorem mU.ge{P:Nat}{fv:Value}{w:World}{ov:Value}{nds:List Wn}{nx:Int}(h:mU P fv w ov nds nx){k:Nat}(hk:k∈sW P ov):P≤k:=by
 rcases nP hk with rfl|hk
 ·exact za _
 ·have:=(zr h.own k hk).1;omega
theorem mU.keep{P:Nat}{fv:Value}{w w':World}{ov:Value}{nds:List Wn}{nx:Int}(h:mU P fv w ov nds nx)(ho:ap (sW P ov) w w'){p:Addr}(hp:p.block<P):w'.cell? p=w.cell? p:=
 zY (ho.block _ (Nat.lt_trans hp h.blk.lt) (fun hk=>by have:=h.ge hk;omega))
theorem mU.sc{P:Nat}{fv:Value}{w w':World}{ov:Value}{nds:List Wn}{nx:Int}(h:mU P fv w ov nds nx)(ho:ap (sW P ov) w w'){sv:Value}{S:Sc}(hs:rG w sv S):rG w' sv S:=
 hs.keep (fun b cs hB=>hB.only ho (fun hk=>by
  rcases nP hk with rfl|hk
  ·exact absurd rfl (hB.ne_ h.blk (by decide))
  ·exact ee h.own hB (by decide) hk))
theorem mU.row{P:Nat}{fv:Value}{w w':World}{ov:Value}{nds:List Wn}{nx:Int}(h:mU P fv w ov nds nx)(ho:ap (sW P ov) w w'){av:Value}{n:Nat}{xs:List Value}(ha:w.ownsRow (P+1) 3 1 av n xs):w'.ownsRow (P+1) 3 1 av n xs:=
 bh ha ho (fun k hk hm=>by
  rcases nP hm with rfl|hm
  ·have:=(zr ha _ hk).1;omega
  ·exact JD h.own ha (by decide) hm hk)
theorem mU.below{P:Nat}{fv:Value}{w w':World}{ov:Value}{nds:List Wn}{nx:Int}(h:mU P fv w ov nds nx)(hb:Below w.heap.size w w'):mU P fv w' ov nds nx:=
 ⟨h.blk.below hb h.blk.lt,bj h.own hb,fun x hx=>⟨(h.args x hx).1,(h.args x hx).2.1,bj (h.args x hx).2.2 hb⟩⟩
theorem xH: ∀(l:List Fq) (x:Fq),dH (l++[x])=dH l++fo x
 |[],x=>by show fo x++[]=_;rw [ZQ];rfl
 |y::l,x=>by show fo y++dH (l++[x])=fo y++dH l++fo x;rw [xH l x,Zn]
theorem mU.push{P:Nat}{fv:Value}{w w5:World}{ov v2:Value}{nds:List Wn}{nx:Int}(h:mU P fv w ov nds nx){out:Fl}{av:Value}(hv:out.vars=[])(hk:out.keys=[])(ha:w.ownsRow (P+1) 3 1 av out.args.length (aZ out.args))
 (bS:w5.ownsRow (P+1) 28 9 v2 (nds.length+1) (dH (nds.map YP)++cG out (.slice none 0 0) (.slice none 0 0) av)) (ho:ap (sW P ov) w w5) (hb:ai w5 P 160 #[fv,ov, .int .i64 nx]):
 mU P fv (w5.setCell ⟨P,1,none⟩ v2) v2 (nds++[(out,av)]) nx∧ap (sW P ov) w (w5.setCell ⟨P,1,none⟩ v2):=by
 have uy:ap (sW P ov) w (w5.setCell ⟨P,1,none⟩ v2):=ho.setCell (p:=⟨P,1,none⟩) (.inl (by unfold sW;simp)) v2
 refine⟨⟨hb.set_ 1 v2,?_,fun x hx=> ?_⟩,uy⟩
 ·rw [zS,List.map_append]
  show(w5.setCell ⟨P,1,none⟩ v2).ownsRow (P+1) 28 9 v2 (nds.length+1) (dH (nds.map YP++[YP (out,av)]));rw [xH];refine bh bS (ap.one (M:=P) (i:=1) (u:=v2) (ap.refl [P] w5)) (fun k hk hm=> ?_)
  have:=(zr bS k hk).1;have:=zt.1 hm;omega
 ·rcases ZJ.1 hx with hx|hx
  ·exact⟨(h.args x hx).1,(h.args x hx).2.1,h.row uy (h.args x hx).2.2⟩
  ·obtain rfl:=zt.1 hx
   exact⟨hv,hk,h.row uy ha⟩
theorem mU.drew{P:Nat}{fv:Value}{w:World}{ov:Value}{nds:List Wn}{nx:Int}(h:mU P fv w ov nds nx):mU P fv w.drew ov nds nx:=⟨h.blk.drew,h.own.drew,fun x hx=>⟨(h.args x hx).1,(h.args x hx).2.1,(h.args x hx).2.2.drew⟩⟩
theorem mU.other{P:Nat}{fv:Value}{w w':World}{ov:Value}{nds:List Wn}{nx:Int}(h:mU P fv w ov nds nx){bs:List Nat}(ho:ap bs w w')(hP:P∉bs)(hov: ∀g,ov.ownBlock=some g→g∉bs)(ha: ∀x∈nds,∀g,x.2.ownBlock=some g→g∉bs):mU P fv w' ov nds nx:=
 ⟨h.blk.only ho hP,bh h.own ho hov,fun x hx=>⟨(h.args x hx).1,(h.args x hx).2.1,bh (h.args x hx).2.2 ho (ha x hx)⟩⟩
theorem mU.bind{P:Nat}{fv:Value}{w w':World}{ov:Value}{nds:List Wn}{nx nx2:Int}(h:mU P fv w ov nds nx)(hb:ai w' P 160 #[fv,ov, .int .i64 nx2])(ho:ap [P] w w'):mU P fv w' ov nds nx2:=
 ⟨hb,bh h.own ho (fun k hk hm=>by have:=(zr h.own k hk).1;have:=zt.1 hm;omega),fun x hx=>⟨(h.args x hx).1,(h.args x hx).2.1,bh (h.args x hx).2.2 ho (fun k hk hm=>by have:=(zr (h.args x hx).2.2 k hk).1;have:=zt.1 hm;omega)⟩⟩
structure US(P ob:Nat)(fv:Value)(L:List Fl)(S inner:Sc)(sv iv:Value)(A:Array Value)(wc:World)(ov:Value)(nds:List Wn)(sts:Nat→List Fl×Int)(k:Nat)(wr:World)(ov2:Value)(more:List Wn)(av:Value):Prop where
 s:mU P fv wr ov2 (nds++more) (sts k).2
 m:(nds++more).map (·.1)=(sts k).1
 box:ai wr ob 28 (A.push av)
 row:wr.ownsRow (P+1) 3 1 av k (aZ (iD sts k))
 ne:ov2.ownBlock≠some ob
 obn:P<ob∧ob<wc.heap.size
 only:ap (ob::sW P ov) wc wr
 ownb: ∀g,ov2.ownBlock=some g→ov.ownBlock=some g∨wc.heap.size≤g
 fresh: ∀x∈more,∀g,x.2.ownBlock=some g→wc.heap.size≤g
 frow: ∀g,av.ownBlock=some g→wc.heap.size≤g∧∀x∈nds++more,x.2.ownBlock≠some g
 scS:rG wr sv S
 scI:rG wr iv inner
 nf:NF wr P fv L
theorem US.drew{P ob:Nat}{fv:Value}{L:List Fl}{S inner:Sc}{sv iv:Value}{A:Array Value}{wc:World}{ov:Value}{nds:List Wn}{sts:Nat→List Fl×Int}{k:Nat}{wr:World}{ov2:Value}{more:List Wn}{av:Value}(h:US P ob fv L S inner sv iv A wc ov nds sts k wr ov2 more av):US P ob fv L S inner sv iv A wc ov nds sts k wr.drew ov2 more av:=
 ⟨h.s.drew,h.m,h.box.drew,h.row.drew,h.ne,h.obn,h.only.drew,h.ownb,h.fresh,h.frow,h.scS.keep (fun _ _ hB=>hB.drew),h.scI.keep (fun _ _ hB=>hB.drew),h.nf.keep (fun _ _=>rfl)⟩
theorem US.call{P ob:Nat}{fv:Value}{L:List Fl}{S inner:Sc}{sv iv:Value}{A:Array Value}{wc:World}{ov:Value}{nds:List Wn}{sts:Nat→List Fl×Int}{k:Nat}{wr:World}{ov2:Value}{more:List Wn}{av:Value}(h:US P ob fv L S inner sv iv A wc ov nds sts k wr ov2 more av)
 {w5:World} {VT:Value} {n6:List Wn} {nx:Int} (hs:mU P fv w5 VT ((nds++more)++n6) nx) (ho:ap (sW P ov2) wr w5) (hg: ∀g,VT.ownBlock=some g→ov2.ownBlock=some g∨wr.heap.size≤g) (hf: ∀x∈n6,∀g,x.2.ownBlock=some g→wr.heap.size≤g):
 ai w5 ob 28 (A.push av)∧w5.ownsRow (P+1) 3 1 av k (aZ (iD sts k))∧VT.ownBlock≠some ob∧ap (ob::sW P ov) wc w5∧(∀g,VT.ownBlock=some g→ov.ownBlock=some g∨wc.heap.size≤g)∧(∀x∈more++n6,∀g,x.2.ownBlock=some g→wc.heap.size≤g)∧
  (∀g,av.ownBlock=some g→wc.heap.size≤g∧∀x∈nds++(more++n6),x.2.ownBlock≠some g)∧rG w5 sv S∧rG w5 iv inner∧NF w5 P fv L:=by
 have dq:=h.only.size;have AJ:ob<wr.heap.size:=zy h.obn.2 dq;refine⟨h.box.only ho (fun hm=> ?_),h.s.row ho h.row,fun e=> ?_,?_,fun g e=> ?_,fun x hx g e=> ?_,fun g e=>⟨(h.frow g e).1,fun x hx e2=> ?_⟩,h.s.sc ho h.scS,h.s.sc ho h.scI,h.nf.keep (fun p hp=>h.s.keep ho hp)⟩
 ·rcases nP hm with e|e
  ·have:=h.obn.1;omega
  ·exact h.ne e
 ·rcases hg ob e with e|e
  ·exact h.ne e
  ·omega
 ·refine⟨ho.os.trans h.only.os,ho.tape.trans h.only.tape,ho.output.trans h.only.output,zQ h.only.size ho.size,fun i hi hb=>(ho.block i (zy hi dq) (fun hm=> ?_)).trans (h.only.block i hi hb)⟩
  rcases nP hm with rfl|e
  ·exact hb (ZU _ (by unfold sW;simp))
  ·rcases h.ownb i e with e|e
   ·exact hb (ZU _ (by unfold sW;simp [e]))
   ·omega
 ·rcases hg g e with e|e
  ·exact h.ownb g e
  ·exact .inr (by omega)
 ·rcases ZJ.1 hx with hx|hx
  ·exact h.fresh x hx g e
  ·have:=hf x hx g e;omega
 ·rw [←Zn]at hx
  rcases ZJ.1 hx with hx|hx
  ·exact(h.frow g e).2 x hx e2
  ·have h1:=hf x hx g e2
   have h2:=(zr h.row g e).2;omega
theorem ap.more{bs cs:List Nat}{w w1 w2:World}(h:ap bs w w1)(k:ap cs w1 w2)(hc: ∀i∈cs,i∈bs∨w.heap.size≤i):ap bs w w2:=
 ⟨k.os.trans h.os,k.tape.trans h.tape,k.output.trans h.output,zQ h.size k.size,fun i hi hb=>(k.block i (zy hi h.size) (fun hm=>by rcases hc i hm with h|h;exact hb h;omega)).trans (h.block i hi hb)⟩
theorem P5(sts:Nat→List Fl×Int)(k:Nat):iD sts (k+1)=iD sts k++[((sts (k+1)).1.length:Int)-1]:=by
 unfold iD;rw [List.range_succ,List.map_append];rfl
theorem B9(xs:List Int)(x:Int):aZ (xs++[x])=aZ xs++[.int .i64 x]:=by unfold aZ;simp
theorem US.step{P ob:Nat}{fv:Value}{L:List Fl}{S inner:Sc}{sv iv:Value}{A:Array Value}{wc:World}{ov:Value}{nds:List Wn}{sts:Nat→List Fl×Int}{k:Nat}{wr:World}{ov2:Value}{more:List Wn}{av:Value}(h:US P ob fv L S inner sv iv A wc ov nds sts k wr ov2 more av)(hA:A.size=8)
 {w5:World} {VT:Value} {n6:List Wn} (hs:mU P fv w5 VT ((nds++more)++n6) (sts (k+1)).2) (hm:((nds++more)++n6).map (·.1)=(sts (k+1)).1) (ho:ap (sW P ov2) wr w5) (hg: ∀g,VT.ownBlock=some g→ov2.ownBlock=some g∨wr.heap.size≤g) (hf: ∀x∈n6,∀g,x.2.ownBlock=some g→wr.heap.size≤g)
 {w6:World} {QZ:Value} (bS:w6.ownsRow (P+1) 3 1 QZ (k+1) (aZ (iD sts k)++[.int .i64 (((sts (k+1)).1.length:Int)-1)])) (uy:ap av.ownBlock.toList w5 w6) (hor: ∀g,QZ.ownBlock=some g→av.ownBlock=some g∨w5.heap.size≤g):
 US P ob fv L S inner sv iv A wc ov nds sts (k+1) (w6.setCell ⟨ob,8,none⟩ QZ) VT (more++n6) QZ:=by
 obtain⟨dx,rN,fa,abU,ah8,aeN,LG,amq,amp,hnf⟩:=h.call hs ho hg hf;have dq:=abU.size;have AJ:ob<w5.heap.size:=zy h.obn.2 dq;have J4: ∀i∈av.ownBlock.toList,av.ownBlock=some i:=fun i hi=>ZL.1 hi
 have LF:ai w6 ob 28 (A.push av):=dx.only uy (fun hi=>ee rN dx (by decide) (J4 _ hi))
 have ho7:ap [ob] w6 (w6.setCell ⟨ob,8,none⟩ QZ):=(ap.refl _ _).one
 have vY:mU P fv w6 VT ((nds++more)++n6) (sts (k+1)).2:=by
  refine hs.other uy (fun hi=> ?_) (fun g e hi=>JD hs.own rN (by decide) e (J4 _ hi)) (fun x hx g e hi=> ?_)
  ·have:=(zr rN P (J4 _ hi)).1;omega
  ·rw [Zn]at hx
   exact(LG g (J4 _ hi)).2 x hx e
 have hk6: ∀b cs,ai w5 b 219 cs→ai (w6.setCell ⟨ob,8,none⟩ QZ) b 219 cs:=fun b cs hB=>by
  have hB6:ai w6 b 219 cs:=hB.only uy (fun hi=>ee rN hB (by decide) (J4 _ hi))
  exact hB6.only ho7 (fun hi=>hB6.ne_ LF (by decide) (zt.1 hi))
 refine⟨?_,by rw [←Zn];exact hm,?_,?_,fa,h.obn,?_,ah8,aeN,fun g e=> ?_,amq.keep hk6,amp.keep hk6,?_⟩
 ·rw [←Zn]
  refine vY.other ho7 (fun hi=> ?_) (fun g e hi=> ?_) (fun x hx g e hi=> ?_)
  ·have:=zt.1 hi;have:=h.obn.1;omega
  ·exact fa (by rw [e,zt.1 hi])
  ·exact ee (vY.args x hx).2.2 LF (by decide) (by rw [e,zt.1 hi])
 ·have h8:=LF.set_ 8 QZ
  rwa [show(A.push av).setIfInBounds 8 QZ=A.push QZ by rw [←hA];apply Array.ext';simp]at h8
 ·rw [P5,B9]
  exact bh bS ho7 (fun g e hi=>ee bS LF (by decide) (by rw [e,zt.1 hi]))
 ·refine(abU.more uy (fun i hi=> .inr (LG i (J4 i hi)).1)).setCell (.inl (by simp)) _
 ·rcases hor g e with e|e
  ·exact⟨(LG g e).1,(LG g e).2⟩
  ·refine⟨by omega,fun x hx e2=> ?_⟩
   rw [←Zn]at hx;have:=(zr (hs.args x hx).2.2 g e2).2;omega
 ·refine hnf.keep (fun p hp=> ?_)
  have hp5:p.block<w5.heap.size:=Nat.lt_trans hp hs.blk.lt;have h1:w6.cell? p=w5.cell? p:=zY (uy.block _ hp5 (fun hi=>by have:=(zr rN _ (J4 _ hi)).1;omega))
  have h2:(w6.setCell ⟨ob,8,none⟩ QZ).cell? p=w6.cell? p:=zY (ho7.block _ (zy hp5 uy.size) (fun hi=>by have:=zt.1 hi;have:=h.obn.1;omega))
  exact h2.trans h1
set_option maxHeartbeats 8000000
open Tryz
open Lib renaming hid→J
open Go.RowKit LamM CpsM FloM ShrM Go.Maps
def fR(f:Fl)(l:List Int):Fl:={f with args:=l}
def adb(pb P0:Nat)(ov:Value)(nds:List Fq)(r:Value)(w:World)(e:Ending)(w':World):Prop:=
 ∃g c,e= .returned (.int .i64 ((nds.length:Int)-1))∧ai w' pb 63 #[.slice (some ⟨g,0,none⟩) nds.length c,r]∧w'.ownsRow P0 28 9 (.slice (some ⟨g,0,none⟩) nds.length c) nds.length (dH nds)∧ap (pb::ov.ownBlock.toList) w w'∧((Value.slice (some ⟨g,0,none⟩) nds.length c).ownBlock=ov.ownBlock∨w.heap.size≤g)
theorem oY: ∀(l:List Fq) (x:Fq),dH (l++[x])=dH l++fo x
 |[],x=>by show fo x++[]=_;rw [ZQ];rfl
 |y::l,x=>by show fo y++dH (l++[x])=fo y++dH l++fo x;rw [oY l x,Zn]
theorem T5{w:World}{S:Nat→Prop}{v:Value}{f:Fl}(h:iI w S v (.mk f []))(pc pb P0:Nat)(ov r:Value)(nds:List Fq)(hP:ai w pb 63 #[ov,r])(hO:w.ownsRow P0 28 9 ov nds.length (dH nds))(hl:nds.length≤99)(hP0:pb<P0)(Wj: ∃x,r= .int .i64 x)(Lo:P0≤w.heap.size):
 ∃vv kv,rO 0 vv∧rO 0 kv∧qt f∧Calls prog 139 #[v, .pointer (some ⟨pc,0,none⟩), .pointer (some ⟨pb,0,none⟩)] w (adb pb P0 ov (nds++[(fR f [],vv,kv, .slice none 0 0)]) r w):=by
 obtain⟨i0,gF,lQ,yD,hi3⟩:=Zv AU;obtain⟨rx,rfl⟩:=Wj;obtain⟨OA,oc,rfl⟩: ∃a c,ov= .slice a nds.length c:=by obtain⟨a,c,e⟩:=eh hO;exact⟨a,c,e⟩
 cases h with
 | @mk b _ _ vv kv av kids ps hs hb hv hk ha hf hr hl2 ih=>
   refine⟨vv,kv,hv,hk,hf,?_⟩;obtain⟨VA,vc,rfl,_,_⟩:=id hv;obtain⟨KA,kc,rfl,_,_⟩:=id hk;obtain⟨an,QL,AA,ac,rfl,tf,tg⟩:=id ha;obtain⟨DA,dc,rfl,_,_⟩:=hr.slice;have c0:=hb.c0;have c1:=hb.c1;have c2:=hb.c2;have c3:=hb.c3;have c4:=hb.c4;have c5:=hb.c5;have c6:=hb.c6;have c7:=hb.c7;have c8:=hb.c8;have c9:=hb.c9;have qB:=hb.lt;have HP:=J hP;have HO:=J hO;have V_:=hP.lt;clear hb hv hk ha hf hr hl2 ih hs hP hO tf tg QL;go_enter func139,ntmps139;go_wp2_with fail;refine Zi 2 ?_;rw [zI];go_upto_region 8 with fail
   obtain⟨wc,lw⟩: ∃wc,w.alloc (.cells #[.int .i64 f.k, .int .i64 f.n, .int .i64 f.m, .int .i64 f.i, .int .u64 f.b, .string ⟨f.t.toArray⟩, .slice VA 0 vc, .slice KA 0 kc, .slice none 0 0] 28)=wc:=⟨_,rfl⟩;have rW:=J (show Below w.heap.size w wc by rw [←lw];exact(zg _ _).alloc (za _) _)
   have JM:=J (show ai wc w.heap.size 28 #[.int .i64 f.k, .int .i64 f.n, .int .i64 f.m, .int .i64 f.i, .int .u64 f.b, .string ⟨f.t.toArray⟩, .slice VA 0 vc, .slice KA 0 kc, .slice none 0 0]by rw [←lw];exact ai.new _ _ _)
   have dV:=J (HP.out.below rW.out V_);have tp:=J (bj HO.out rW.out);rw [lw];clear lw c0 c1 c2 c3 c4 c5 c6 c7 c8 c9;obtain⟨nl,QY⟩: ∃nl,nds.length=nl:=⟨_,rfl⟩;obtain⟨pc2,Cn⟩: ∃pc2,dH nds=pc2:=⟨_,rfl⟩;rw [QY]at dV tp hl;rw [Cn]at tp;have Fk:=J QY;have th:=J Cn;have oo:=J (FN (t:=fR f []) (vv:= .slice VA 0 vc) (kv:= .slice KA 0 kc) (av:= .slice none 0 0) (by intro u hu;simp only [zx,zD,Zo]at hu;rcases hu with rfl|rfl|rfl<;>rfl))
   have c1:=dV.out.c0;have f1:=dV.out.frozen 0;have d0:=JM.out.c0;have d1:=JM.out.c1;have d2:=JM.out.c2;have d3:=JM.out.c3;have d4:=JM.out.c4;have d5:=JM.out.c5;have d6:=JM.out.c6;have d7:=JM.out.c7;have d8:=JM.out.c8;have qy:=rW.out.size;clear QY Cn;rw [Fk.out];go_wp2_with (refine aU _ rfl _ _ 22 rfl P0 28 i0 _ 9 128 AV gF lQ yD hi3 rfl (by decide) _ nl pc2 rfl (ZN tp.out _) _ _ _ _ [_,_,_,_,_,_,_,_,_] rfl (aT.blk' (ai.new _ _ _) rfl) oo.out (by unfold maxLen;omega) (by omega) (by simp;omega) ?_;intro v2 w5 lc k_ qD;obtain⟨g,c,hv,hgP⟩:=mB lc;subst hv;have yG:=J lc;have HG5:=J (((ap.refl (Value.ownBlock (.slice OA nl oc)).toList wc).alloc _).grown k_ (fun k hk=> .inl (ZL.2 hk)));have FD:=J (dV.out.only HG5.out (fun hm=>by have:=(zr tp.out _ (ZL.1 hm)).1;omega));have VK:=J qD;have c5:=FD.out.c0;have f5:=FD.out.frozen 0;clear lc k_ qD)
   go_ret;have om:(nds++[(fR f [],Value.slice VA 0 vc,Value.slice KA 0 kc,Value.slice none 0 0)]).length=nl+1:=by rw [zS,Fk.out];rfl
   refine⟨g,c,?_,?_,?_,?_,?_⟩
   ·rw [om,show(((nl+1:Nat):Int)-1)=(nl:Int)by omega];rfl
   ·rw [om];exact FD.out.set_ 0 _
   ·rw [om,oY,th.out]
    exact bh yG.out (ap.one (M:=pb) (i:=0) (ap.refl [pb] w5)) (fun x hx hm=>by
     have:g=x:=zz hx;have:=zt.1 hm;omega)
   ·rw [Fk.out]
    exact((ap.of_below rW.out).trans (HG5.out.mono (fun x hx=>ZU _ hx))).setCell (.inl (by simp)) _
   ·rw [om,Fk.out]
    rcases VK.out with h|h
    ·exact .inl h
    ·have:g=wc.heap.size+1∨g=wc.heap.size∨wc.heap.size≤g:=by
      have:g=_:=zz h;simp at this;omega
     exact .inr (by omega)
def adc(pb:Nat)(f g:Fl)(vv kv Qy Qx:Value)(w:World)(e:Ending)(w':World):Prop:=
 ∃gg c av,e= .returned (.int .i64 1)∧ai w' pb 63 #[.slice (some ⟨gg,0,none⟩) 2 c, .int .i64 0]∧w'.ownsRow w.heap.size 28 9 (.slice (some ⟨gg,0,none⟩) 2 c) 2 (dH [(fR g [],Qy,Qx, .slice none 0 0),(fR f [0],vv,kv,av)])∧w'.ownsRow (w.heap.size+1) 3 1 av 1 (aZ [0])∧ap [pb] w w'
abbrev ade(pc pb:Nat):Value:= .func (.func 139) #[] #[.pointer (some ⟨pc,0,none⟩), .pointer (some ⟨pb,0,none⟩)]
theorem Yr{w:World}{S:Nat→Prop}{v:Value}{f h0:Fl}(h:iI w S v (.mk f [.mk h0 []]))(pc pb:Nat)(hP:ai w pb 63 #[.slice none 0 0, .int .i64 0])(hC:ai w pc 170 #[ade pc pb]):
 ∃vv kv Qy Qx,rO 0 vv∧rO 0 kv∧rO 0 Qy∧rO 0 Qx∧qt f∧qt h0∧Calls prog 139 #[v, .pointer (some ⟨pc,0,none⟩), .pointer (some ⟨pb,0,none⟩)] w (adc pb f h0 vv kv Qy Qx w):=by
 obtain⟨i0,gF,lQ,yD,hi3⟩:=Zv AU;obtain⟨j0,hj0,hj1,hj2,hj3⟩:=Zv DK
 cases h with
 | @mk b _ _ vv kv av kids ps hs hb hv hk ha hf hr hl2 ih=>
   obtain⟨VA,vc,rfl,_,_⟩:=id hv;obtain⟨KA,kc,rfl,_,_⟩:=id hk;obtain⟨an,QL,AA,ac,rfl,tf,tg⟩:=id ha;have aax:=ih 0 _ rfl;obtain⟨p0,hp0⟩:=aax.ptr
   obtain⟨kg,dc,rfl,_,_,QX,yJ,E6⟩: ∃kg kc,kids= .slice (some ⟨kg,0,none⟩) 1 kc∧1≤kc∧kc≤maxLen∧S kg∧kg<w.heap.size∧∀k,k<1→w.cell? ⟨kg,k,none⟩=some (ps k):=by
    rcases hr with⟨e,_⟩|h
    ·cases e
    ·exact h
   have k0:=E6 0 (by omega)
   rw [hp0]at aax k0;have c0:=hb.c0;have c1:=hb.c1;have c2:=hb.c2;have c3:=hb.c3;have c4:=hb.c4;have c5:=hb.c5;have c6:=hb.c6;have c7:=hb.c7;have c8:=hb.c8;have c9:=hb.c9;have qB:=hb.lt;have V_:=hP.lt;have Fg:=hC.lt;obtain⟨wc,lw⟩: ∃wc,w.alloc (.cells #[.int .i64 f.k, .int .i64 f.n, .int .i64 f.m, .int .i64 f.i, .int .u64 f.b, .string ⟨f.t.toArray⟩, .slice VA 0 vc, .slice KA 0 kc, .slice none 0 0] 28)=wc:=⟨_,rfl⟩;have rW:=J (show Below w.heap.size w wc by rw [←lw];exact(zg _ _).alloc (za _) _)
   have JM:=J (show ai wc w.heap.size 28 #[.int .i64 f.k, .int .i64 f.n, .int .i64 f.m, .int .i64 f.i, .int .u64 f.b, .string ⟨f.t.toArray⟩, .slice VA 0 vc, .slice KA 0 kc, .slice none 0 0]by rw [←lw];exact ai.new _ _ _)
   have hbd:Below w.heap.size w wc.drew:=below_drewN rW.out 1;obtain⟨Qy,Qx,j8,iP,Qp,Fo⟩:=T5 (aax.down hbd) pc pb w.heap.size (.slice none 0 0) (.int .i64 0) [] (hP.below hbd V_) (ZE _ _ _ _) (by decide) V_ ⟨_,rfl⟩ hbd.size
   refine⟨_,_,Qy,Qx,hv,hk,j8,iP,hf,Qp,?_⟩
   have VP:=J (show Calls prog 139 #[.pointer (some ⟨p0,0,none⟩), .pointer (some ⟨pc,0,none⟩), .pointer (some ⟨pb,0,none⟩)] wc.drew (fun e w'=> ∃g c,e= .returned (.int .i64 0)∧ai w' pb 63 #[.slice (some ⟨g,0,none⟩) 1 c, .int .i64 0]∧w'.ownsRow w.heap.size 28 9 (.slice (some ⟨g,0,none⟩) 1 c) 1 (dH [(fR h0 [],Qy,Qx, .slice none 0 0)])∧ap [pb] wc.drew w'∧wc.heap.size≤g)from
    Fo.mono (fun e w' ⟨g,c,h1,h2,h3,h4,h5⟩=>⟨g,c,h1,h2,h3,h4,h5.resolve_left (fun h=>by cases h)⟩))
   have HC:=J (hC.below rW.out Fg);have q0:=HC.out.c0;have k0c:wc.cell? ⟨kg,0,none⟩=some (.pointer (some ⟨p0,0,none⟩)):=by rw [rW.out.cell (p:=⟨kg,0,none⟩) yJ];exact k0
   have c9c:wc.cell? ⟨b,9,none⟩=some (.slice (some ⟨kg,0,none⟩) 1 dc):=by rw [rW.out.cell (p:=⟨b,9,none⟩) qB];exact c9
   have HW:=J lw;clear hb hv hk ha hf hr hl2 ih hs hP hC tf tg QL aax E6 QX k0 Fo j8 iP Qp hbd hp0 lw;go_enter func139,ntmps139;go_upto_region 3 with fail
   rw [HW.out];clear c0 c1 c2 c3 c4 c5 c6 c7 c8 c9;go_wp2_with fail;refine Zi 2 ?_;rw [zI];go_upto_region 6 with fail
   have b8:=JM.out.c8;have Qd:w.heap.size<wc.heap.size:=JM.out.lt
   go_region_law (first
    |(go_simp;go_at_call 139;(with_reducible refine(VP.out).mono ?_);rintro e w5 ⟨g,c,rfl,hp5,VB,aaz,hg5⟩;have aay:=JM.out.drew.only aaz (by simp;omega);have alX:=J aay;have Fm:=J hp5;have HO5:=J VB;have alT:=J aaz;have b8w:=aay.c8;have b8x: ∀o,(w5.alloc o).cell? ⟨w.heap.size,8,none⟩=some (.slice none 0 0):=fun o=>(aay.alloc o).cell 8;have arc:wc.heap.size≤w5.heap.size:=aaz.size;clear hp5 VB aaz aay)
    |(refine cQ _ rfl _ _ 25 rfl (w.heap.size+1) 3 j0 _ 1 8 af6 hj0 hj1 hj2 hj3 rfl (by decide) _ 0 [] rfl (ZE _ _ _ _) _ _ _ _ [_] rfl (aT.blk' (ai.new _ _ _) rfl) (by simp [Value.oneCell']) (by unfold maxLen;omega) (by omega) (by simp;omega) ?_;intro QZ w6 qY pE Qz;obtain⟨g3,c3,ll,aap⟩:=mB qY;subst ll;have VO:=J ((((ap.refl [] w5).alloc _).grown pE (fun k hk=>by cases hk)));have aeB:=J (alX.out.only VO.out (by simp));have aeA:=J qY;have b86:=aeB.out.c8;have f86:=aeB.out.frozen 8;clear qY pE Qz)
    |fail)
   all_goals
    obtain⟨W7,hW7⟩: ∃W7,w6.setCell ⟨w.heap.size,8,none⟩ (.slice (some ⟨g3,0,none⟩) 1 c3)=W7:=⟨_,rfl⟩;have Cj:=J (show ai W7 w.heap.size 28 #[.int .i64 f.k, .int .i64 f.n, .int .i64 f.m, .int .i64 f.i, .int .u64 f.b, .string ⟨f.t.toArray⟩, .slice VA 0 vc, .slice KA 0 kc, .slice (some ⟨g3,0,none⟩) 1 c3]by rw [←hW7];exact aeB.out.set_ 8 _)
    have HP7:=J (show ai W7 pb 63 #[.slice (some ⟨g,0,none⟩) 1 c, .int .i64 0]by rw [←hW7];exact(Fm.out.only VO.out (by simp)).far (by show pb≠w.heap.size;omega) _)
    have VH:=J (show W7.ownsRow w.heap.size 28 9 (.slice (some ⟨g,0,none⟩) 1 c) 1 (dH [(fR h0 [],Qy,Qx, .slice none 0 0)])by
     rw [←hW7]
     exact bh (bh HO5.out VO.out (fun _ _=>by simp)) (ap.one (M:=w.heap.size) (i:=8) (ap.refl [w.heap.size] w6)) (fun x hx hm=>by
      have:g=x:=zz hx;have:=zt.1 hm;omega))
    have HA7:=J (show W7.ownsRow (w.heap.size+1) 3 1 (.slice (some ⟨g3,0,none⟩) 1 c3) 1 (aZ [0])by
     rw [←hW7]
     exact bh aeA.out (ap.one (M:=w.heap.size) (i:=8) (ap.refl [w.heap.size] w6)) (fun x hx hm=>by
      have:g3=x:=zz hx;have:=zt.1 hm;omega))
    have ahN:=J (show ap [pb] w W7 by
     rw [←hW7];exact(((ap.of_below rW.out).drew.trans alT.out).trans (VO.out.mono (fun x hx=>by cases hx))).setCell (.inr (za _)) _)
    rw [hW7];clear hW7 b86 f86 b8w b8 q0 k0c c9c;have ara:=ahN.out.size;go_wp2_with fail;rw [zI];go_upto_region 8 with fail
   all_goals
    obtain⟨pc2,Cn⟩: ∃pc2,dH [(fR h0 [],Qy,Qx,Value.slice none 0 0)]=pc2:=⟨_,rfl⟩;have HO8:=J VH.out;rw [Cn]at HO8;have th:=J Cn;clear Cn;have oo:=J (FN (t:=fR f [0]) (vv:= .slice VA 0 vc) (kv:= .slice KA 0 kc) (av:= .slice (some ⟨g3,0,none⟩) 1 c3) (by intro u hu;simp only [zx,zD,Zo]at hu;rcases hu with rfl|rfl|rfl<;>rfl))
    have c1:=HP7.out.c0;have f1:=HP7.out.frozen 0;have d0:=Cj.out.c0;have d1:=Cj.out.c1;have d2:=Cj.out.c2;have d3:=Cj.out.c3;have d4:=Cj.out.c4;have d5:=Cj.out.c5;have d6:=Cj.out.c6;have d7:=Cj.out.c7;have d8:=Cj.out.c8;go_wp2_with (refine aU _ rfl _ _ 22 rfl w.heap.size 28 i0 _ 9 128 AV gF lQ yD hi3 rfl (by decide) _ 1 pc2 rfl (ZN HO8.out _) _ _ _ _ [_,_,_,_,_,_,_,_,_] rfl (aT.blk' (ai.new _ _ _) rfl) oo.out (by unfold maxLen;omega) (by omega) (by simp;omega) ?_;intro v2 w8 VM VN alV;obtain⟨gg,cc,hv,hgP⟩:=mB VM;subst hv;have yG:=J VM;have HG8:=J (((ap.refl (Value.ownBlock (.slice (some ⟨g,0,none⟩) 1 c)).toList W7).alloc _).grown VN (fun k hk=> .inl (ZL.2 hk)));have HC8:=J (HP7.out.only HG8.out (fun hm=>by have:=(zr HO8.out _ (ZL.1 hm)).1;omega));have c8:=HC8.out.c0;have f8:=HC8.out.frozen 0;clear VM VN alV)
    go_ret;refine⟨gg,cc, .slice (some ⟨g3,0,none⟩) 1 c3,rfl,HC8.out.set_ 0 _,?_,?_,?_⟩
    ·rw [show dH [(fR h0 [],Qy,Qx, .slice none 0 0),(fR f [0], .slice VA 0 vc, .slice KA 0 kc, .slice (some ⟨g3,0,none⟩) 1 c3)]=pc2++fo (fR f [0], .slice VA 0 vc, .slice KA 0 kc, .slice (some ⟨g3,0,none⟩) 1 c3)by rw [←th.out,←oY];rfl]
     exact bh yG.out (ap.one (M:=pb) (i:=0) (ap.refl [pb] w8)) (fun x hx hm=>by
      have:gg=x:=zz hx;have:=zt.1 hm;omega)
    ·refine bh (bh HA7.out HG8.out (fun x hx hm=> ?_)) (ap.one (M:=pb) (i:=0) (ap.refl [pb] w8)) (fun x hx hm=> ?_)
     ·exact JD HA7.out VH.out (by decide) hx (ZL.1 hm)
     ·have:=(zr HA7.out x hx).1
      have:=zt.1 hm;omega
    ·exact(ahN.out.more HG8.out (fun x hx=> .inr (zr VH.out x (ZL.1 hx)).1)).setCell (.inl (by simp)) _
end Go.Proofs.YtcpmiplofbfmfaaGreatDoor
namespace ShrM
open LamM CpsM
abbrev bV(i:Int):Fl:=⟨2,0,0,i,0,[],[],[],[]⟩
abbrev gU(n:Int):Fl:=⟨1,n,0,0,0,[],[],[],[]⟩
abbrev jP(l:List Int):Fl:=⟨13,0,0,0,0,[],[],[],l⟩
abbrev nI(n:Int)(l:List Int):Fl:=⟨7,n,0,0,0,[],[],[],l⟩
abbrev o9(n:Int)(l:List Int):Fl:=⟨5,n,0,0,0,[],[],[],l⟩
def dM:List Fl:=[bV 5,bV 6,gU 1,gU 2,jP [3],nI 2 [2,4],o9 1 [0,1,5]]
def gp:List Fl:=[bV 5,jP [0]]
theorem NO:m_ bD dM 6=0:=by decide
theorem NP:m_ bD gp 1=0:=by decide
theorem adi:EY gp 1 [] ([],0) (gp,0):=by
 have h:=EY.mk (L:=gp) (i:=1) (S:=[]) (inner:=[]) (st:=([],0)) (t:=jP [0]) (out:=jP []) (nx1:=0) (fun k=>if k=0 then([],0)else([bV 5],0)) (fun _=>bV 5) rfl rfl rfl
  (by intro k hk;by_cases h:k=0<;>simp [h]) (by decide) (by decide) (by intro h;simp at h)
  (by
   intro k a h
   match k,h with
   |0,h=>simp at h;subst h;exact⟨by decide,rfl⟩
   |k+1,h=>simp at h)
  (by
   intro k a h
   match k,h with
   |0,h=>
    simp at h;subst h;have h2:=EY.mk (L:=gp) (i:=0) (S:=[]) (inner:=[]) (st:=([],0)) (t:=bV 5) (out:=bV 5) (nx1:=0) (fun _=>([],0)) (fun _=>bV 5) rfl rfl rfl (by intro k _;simp) (by decide) (by decide) (by intro _;rfl) (by intro k a h;simp at h) (by intro k a h;simp at h)
    exact h2
   |k+1,h=>simp at h)
 exact h
theorem adj:EY dM 6 [] ([],0) (dM,2):=by
 have hi: ∀(S:Sc) (i:Nat) (l:List Fl) (nx x:Int),dM[i]? =some (bV x)→l.length≤99→0≤nx∧nx≤99→EY dM i S (l,nx) (l++[bV x],nx):=by
  intro S i l nx x hx hl hn;exact EY.mk (L:=dM) (i:=i) (S:=S) (inner:=S) (st:=(l,nx)) (t:=bV x) (out:=bV x) (nx1:=nx) (fun _=>(l,nx)) (fun _=>bV 5) hx rfl rfl (by intro k _;exact⟨hl,hn.1,by omega⟩) hn (by simp) (by intro _;rfl) (by intro k a h;simp at h) (by intro k a h;simp at h)
 have hv: ∀(S:Sc) (i:Nat) (l:List Fl) (nx o n:Int),dM[i]? =some (gU o)→l.length≤99→0≤nx∧nx≤99→EY dM i ((o,n)::S) (l,nx) (l++[gU n],nx):=by
  intro S i l nx o n hx hl hn;exact EY.mk (L:=dM) (i:=i) (S:=(o,n)::S) (inner:=(o,n)::S) (st:=(l,nx)) (t:=gU o) (out:=gU n) (nx1:=nx) (fun _=>(l,nx)) (fun _=>bV 5) hx (by simp [hdW]) rfl (by intro k _;exact⟨hl,hn.1,by omega⟩) hn (by simp) (by intro _;rfl) (by intro k a h;simp at h) (by intro k a h;simp at h)
 have h4:EY dM 4 [(2,2),(1,1)] ([bV 5,bV 6,gU 1],2) ([bV 5,bV 6,gU 1,gU 2,jP [3]],2):=by
  have h:=EY.mk (L:=dM) (i:=4) (S:=[(2,2),(1,1)]) (inner:=[(2,2),(1,1)]) (st:=([bV 5,bV 6,gU 1],2)) (t:=jP [3]) (out:=jP []) (nx1:=2) (fun k=>if k=0 then([bV 5,bV 6,gU 1],2)else([bV 5,bV 6,gU 1,gU 2],2)) (fun _=>gU 2) rfl rfl rfl
   (by intro k hk;by_cases h:k=0<;>simp [h]) (by decide) (by decide) (by intro h;simp at h)
   (by
    intro k a h
    match k,h with
    |0,h=>simp at h;subst h;exact⟨by decide,rfl⟩
    |k+1,h=>simp at h)
   (by
    intro k a h
    match k,h with
    |0,h=>simp at h;subst h;exact hv [(1,1)] 3 _ 2 2 2 rfl (by decide) (by decide)
    |k+1,h=>simp at h)
  exact h
 have h5:EY dM 5 [(1,1)] ([bV 5,bV 6],1) ([bV 5,bV 6,gU 1,gU 2,jP [3],nI 2 [2,4]],2):=by
  have h:=EY.mk (L:=dM) (i:=5) (S:=[(1,1)]) (inner:=[(2,2),(1,1)]) (st:=([bV 5,bV 6],1)) (t:=nI 2 [2,4]) (out:=nI 2 []) (nx1:=2) (fun k=>if k=0 then([bV 5,bV 6],2)else if k=1 then([bV 5,bV 6,gU 1],2)else([bV 5,bV 6,gU 1,gU 2,jP [3]],2)) (fun k=>if k=0 then gU 1 else jP [3]) rfl rfl rfl
   (by intro k hk;by_cases h:k=0<;>by_cases h1:k=1<;>simp [h,h1]) (by decide) (by decide) (by intro h;simp at h)
   (by
    intro k a h
    match k,h with
    |0,h=>simp at h;subst h;exact⟨by decide,rfl⟩
    |1,h=>simp at h;subst h;exact⟨by decide,rfl⟩
    |k+2,h=>simp at h)
   (by
    intro k a h
    match k,h with
    |0,h=>simp at h;subst h;exact hv [] 2 _ 2 1 1 rfl (by decide) (by decide)
    |1,h=>simp at h;subst h;exact h4
    |k+2,h=>simp at h)
  exact h
 have h:=EY.mk (L:=dM) (i:=6) (S:=[]) (inner:=[(1,1)]) (st:=([],0)) (t:=o9 1 [0,1,5]) (out:=o9 1 []) (nx1:=1) (fun k=>if k=0 then([],1)else if k=1 then([bV 5],1)else if k=2 then([bV 5,bV 6],1)else([bV 5,bV 6,gU 1,gU 2,jP [3],nI 2 [2,4]],2)) (fun k=>if k=0 then bV 5 else if k=1 then bV 6 else nI 2 [2,4]) rfl rfl rfl
  (by intro k hk;by_cases h:k=0<;>by_cases h1:k=1<;>by_cases h2:k=2<;>simp [h,h1,h2]) (by decide) (by decide) (by intro h;simp at h)
  (by
   intro k a h
   match k,h with
   |0,h=>simp at h;subst h;exact⟨by decide,rfl⟩
   |1,h=>simp at h;subst h;exact⟨by decide,rfl⟩
   |2,h=>simp at h;subst h;exact⟨by decide,rfl⟩
   |k+3,h=>simp at h)
  (by
   intro k a h
   match k,h with
   |0,h=>simp at h;subst h;exact hi [] 0 [] 1 5 rfl (by decide) (by decide)
   |1,h=>simp at h;subst h;exact hi [] 1 [bV 5] 1 6 rfl (by decide) (by decide)
   |2,h=>simp at h;subst h;exact h5
   |k+3,h=>simp at h)
 exact h
def G4:Tr:= .mk (nI 2 [2,4]) [.mk (gU 1) [], .mk (jP [3]) [.mk (gU 2) []]]
def Ub:Tr:= .mk (o9 1 [0,1,5]) [.mk (bV 5) [], .mk (bV 6) [],G4]
theorem Yu:NJ dM:=by
 intro j t h
 match j,h with
 |0,h=>simp [dM]at h;subst h;simp
 |1,h=>simp [dM]at h;subst h;simp
 |2,h=>simp [dM]at h;subst h;simp
 |3,h=>simp [dM]at h;subst h;simp
 |4,h=>simp [dM]at h;subst h;simp
 |5,h=>simp [dM]at h;subst h;simp
 |6,h=>simp [dM]at h;subst h;simp
 |j+7,h=>simp [dM]at h
theorem Yv:NJ gp:=by
 intro j t h
 match j,h with
 |0,h=>simp [gp]at h;subst h;simp
 |1,h=>simp [gp]at h;subst h;simp
 |j+2,h=>simp [gp]at h
theorem mN:lN Ub=[1,2]:=rfl
theorem Uc:V6 Ub:=by simp [Ub,G4,V6,GU]
def xq(l:List Int):Tr:= .mk (jP l) [.mk (bV 5) []]
def T7:Tr:= .mk (o9 1 [0,1,5]) [.mk (bV 5) [], .mk (bV 6) [],xq [3]]
theorem kd(l:List Int):lN (xq l)=[]:=rfl
theorem xr:lN T7=[]:=rfl
theorem K_(l:List Int):V6 (xq l):=by simp [xq,V6,GU]
theorem adf:V6 T7:=by simp [T7,xq,V6,GU]
end ShrM
namespace Go.Proofs.YtcpmiplofbfmfaaGreatDoor
open Tryz
open Go.RowKit LamM CpsM FloM ShrM Go.Maps
section
variable {w:World} {S:Nat→Prop} {v:Value} {s:Nat} {pv:Value} {mu mc mk mp mi:Nat} {tn:Bool} {uf kf pf:Int→Option Value} {c:Nat}
theorem G0(l:List Int)(h:iI w S v (xq l))(hS:mM w s pv mu mc mk mp mi tn uf kf pf c):
 Calls prog 70 #[.pointer (some ⟨s,0,none⟩),v] w (jO s pv mu mc mk mp mi uf tn (xq l) w):=
 Ax h rfl hS (bV 5) (fun u w1 _ ht=>ug ht s (by decide))
theorem adg(h:iI w S v T7)(hS:mM w s pv mu mc mk mp mi tn uf kf pf c)(hu:uf 1=none)(Qw: ∀x,S x→x∉[s,mk,mp]):
 Calls prog 70 #[.pointer (some ⟨s,0,none⟩),v] w (jO s pv mu mc mk mp mi uf true (xq [3]) w):=
 NM h rfl hS hu (fun u w1 _ _ hS1 ht=>G0 [3] ht hS1) Qw
def tsT(k:Nat):Tr:=if k=0 then .mk (bV 5) []else if k=1 then .mk (bV 6) []else xq [3]
theorem T8(h:iI w S v Ub)(hS:mM w s pv mu mc mk mp mi tn uf (fun _=>none) (fun _=>none) 0)(hu1:uf 1=some (.int .i64 1))(Vg:uf 2=some (.int .i64 1))(Qw: ∀x,S x→x∉[s,mk,mp]):
 Calls prog 70 #[.pointer (some ⟨s,0,none⟩),v] w (jO s pv mu mc mk mp mi uf true T7 w):=by
 refine GX (f:=o9 1 [0,1,5]) (A0:= .mk (bV 5) []) (A1:= .mk (bV 6) []) (K2:=G4) tsT (bV 5) (bV 6) rfl rfl h rfl hS (by decide) 1 hu1 (by decide) ?_ ?_ Qw
 ·intro k T hk hT n u w1 hb ht
  match k,hk,hT with
  |0,_,hT=>simp at hT;subst hT;exact ug ht s (by decide)
  |1,_,hT=>simp at hT;subst hT;exact ug ht s (by decide)
 ·intro u w1 b2 g2 vv kv av qs hag hal hS1 ht
  have AL:=hal.kid 0 (by decide)
  obtain⟨q,hq⟩:=AL.ptr;rw [hq]at AL;have hg:=hal.gl
  have hc0:w1.cell? ⟨g2,0,none⟩=some (.pointer (some ⟨q,0,none⟩)):=by
   rw [zM hal.row 0 (by decide),xm (by decide) (by decide),hq]
  have uw:=hal.low
  have al5: ∀x,S x→x∉[s,mp]:=fun x hx hm=>by
   have h1:=Qw x hx;simp at hm h1;omega
  refine GW ht rfl ?_;refine D_ (f:=nI 2 [2,4]) (g:=gU 1) (gks:=[]) (K2:= .mk (jP [3]) [.mk (gU 2) []]) (T':=xq [3]) ht hS1 (by decide) 1 Vg (by decide) rfl rfl b2 g2 3 3 0 (o9 1 [0,1,5]) vv kv av ?_ hal.box rfl (by decide) (by decide) (some ⟨q,0,none⟩) hc0 hg.2 ?_ al5
  ·simp [og]
  ·intro u2 w3 arl dd hS3 ht3
   refine Ax (f:=jP [3]) (K:= .mk (gU 2) []) ht3 rfl hS3 (bV 5) (fun u4 w4 k6 ht4=> ?_)
   have hq3:iI w3 (fun x=>w.heap.size≤x∧x≠g2∧x≠b2) (.pointer (some ⟨q,0,none⟩)) (.mk (bV 5) []):=
    iI.only (T:= .mk (bV 5) []) AL dd (fun x hx hm=>by
     have h1:=uw s (by simp)
     have h2:=uw mp (by simp)
     simp at hm;omega)
   exact TZ (f:=gU 2) (g:=bV 5) (gks:=[]) ht4 s (hS3.below k6) rfl (by simp [og]) (hq3.down k6) (by decide)
end
end Go.Proofs.YtcpmiplofbfmfaaGreatDoor
