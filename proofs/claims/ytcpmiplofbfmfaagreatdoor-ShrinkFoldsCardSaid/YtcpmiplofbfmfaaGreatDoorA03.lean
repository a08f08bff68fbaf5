/- Which blocks may have changed. -/
import Derived.Test.YtcpmiplofbfmfaaGreatDoorA01
import Derived.Great.BuildSlice
set_option linter.all false
namespace Go.Proofs.YtcpmiplofbfmfaaGreatDoor
open Go.RowKit LamM Go.Maps
structure ap(bs:List Nat)(w w':World):Prop where
 os:w'.os=w.os
 tape:w'.tape=w.tape
 output:w'.output=w.output
 size:w.heap.size≤w'.heap.size
 block: ∀k,k<w.heap.size→k∉bs→w'.heap[k]? =w.heap[k]?
section
variable {w w' w'':World} {bs cs:List Nat} {B g n size base:Nat} {t e:TypeId} {xs:List Value} {v:Value} {arr:Array Value}
theorem ap.refl(bs:List Nat)(w:World):ap bs w w:=⟨rfl,rfl,rfl,za _,fun _ _ _=>rfl⟩
theorem ap.trans(h:ap bs w w')(k:ap bs w' w''):ap bs w w'':=
 ⟨k.os.trans h.os,k.tape.trans h.tape,k.output.trans h.output,zQ h.size k.size,fun i hi hb=>(k.block i (zy hi h.size) hb).trans (h.block i hi hb)⟩
theorem ap.mono(h:ap bs w w')(hs: ∀k∈bs,k∈cs):ap cs w w':=⟨h.os,h.tape,h.output,h.size,fun k hk hc=>h.block k hk (fun hb=>hc (hs k hb))⟩
theorem ap.alloc(h:ap bs w w')(o:Obj):ap bs w (w'.alloc o):=h.trans ⟨rfl,rfl,rfl,by simp,fun k hk _=>Below.heap_alloc _ _ _ hk⟩
theorem ap.setCell(h:ap bs w w'){p:Addr}(hp:p.block∈bs∨w.heap.size≤p.block)(u:Value):ap bs w (w'.setCell p u):=
 ⟨h.os,h.tape,h.output,by simpa [World.setCell]using h.size,fun k hk hb=>(Below.heap_setCell w' p u k (fun e=>by subst e;rcases hp with h|h;exact hb h;omega)).trans (h.block k hk hb)⟩
theorem ap.drew(h:ap bs w w'):ap bs w w'.drew:=⟨h.os,h.tape,h.output,h.size,h.block⟩
theorem ap.drewN(h:ap bs w w')(k:Nat):ap bs w (w'.drewN k):=⟨h.os,h.tape,h.output,h.size,h.block⟩
theorem ap.of_below(h:Below w.heap.size w w'):ap bs w w':=⟨h.os,h.tape,h.output,h.size,fun k hk _=>h.block k hk⟩
theorem ap.grown(h:ap bs w w'){row:Option Nat}(hg:w'.grownBy w'' row)(hr: ∀k,row=some k→k∈bs∨w.heap.size≤k):ap bs w w'':=
 ⟨hg.os.trans h.os,hg.tape.trans h.tape,hg.output.trans h.output,zQ h.size hg.size,fun k hk hb=>(hg.block k (zy hk h.size) (fun e=>by rcases hr k e.symm with h|h;exact hb h;omega)).trans (h.block k hk hb)⟩
theorem ai.only(h:ai w g t arr)(ho:ap bs w w')(hg:g∉bs):ai w' g t arr:=(ho.block g h.lt hg).trans h
theorem bh(h:w.ownsRow base e size v n xs)(ho:ap bs w w')(hv: ∀k,v.ownBlock=some k→k∉bs):w'.ownsRow base e size v n xs:=by
 refine⟨h.1,?_⟩
 rcases h.2 with hn|⟨g,cap,Co,rfl,hb,hgg,rest⟩
 ·exact .inl hn
 ·exact .inr ⟨g,cap,Co,rfl,hb,(ho.block g (Array.getElem?_eq_some_iff.1 hgg).1 (hv g rfl)).trans hgg,rest⟩
theorem dl{w0:World}(h:Below B w0 w)(ho:ap bs w w')(hb: ∀k∈bs,B≤k)(hB:B≤w.heap.size):Below B w0 w':=
 h.trans ⟨ho.os,ho.tape,ho.output,ho.size,fun k hk=>ho.block k (by omega) (fun hc=>by have:=hb k hc;omega)⟩
theorem ap.one{M i:Nat}{u:Value}(h:ap [M] w w'):ap [M] w (w'.setCell ⟨M,i,none⟩ u):=h.setCell (.inl (zt.2 rfl)) u
end
end Go.Proofs.YtcpmiplofbfmfaaGreatDoor
namespace LamM
theorem Am: ∀(l m:List Int),SS l→(∀x∈l,x∈m)→l.length≤m.length
 |[],_,_,_=>zO _
 |x::l,m,hp,hs=>by
  obtain⟨h1,h2⟩:=dy.1 hp;have hx:=hs x ZS
  have:=Am l (m.erase x) h2 fun y hy=>by
   have:=h1 y hy;exact(List.mem_erase_of_ne (by omega)).2 (hs y (ZU _ hy))
  rw [List.length_erase_of_mem hx]at this;have:=List.length_pos_of_mem hx;simp;omega
def Ni(L:List Tm):List Int:=L.map (·.n)++[1,2,3,4,5,6,7,8]
theorem TB(L:List Tm):(Ni L).length=L.length+8:=by simp [Ni]
structure In(L:List Tm)(l:List Int):Prop where
 ss:SS l
 sub: ∀x∈l,x∈Ni L
theorem In.len{L:List Tm}{l:List Int}(h:In L l):l.length≤L.length+8:=by
 have:=Am l _ h.ss h.sub;rw [TB]at this;exact this
theorem In.nil(L:List Tm):In L []:=⟨by simp [SS],fun x h=>by cases h⟩
theorem In.mrg{L:List Tm}{a b:List Int}(ha:In L a)(hb: ∀x∈b,x∈Ni L):In L (uS a b):=
 ⟨nB _ ha.ss,fun x hx=>((j4 x _ _).1 hx).elim (ha.sub x) (hb x)⟩
theorem TC{s b:List Int}{x:Int}(h:x∈oe s b):x∈s:=(List.mem_filter.1 h).1
theorem In.wout{L:List Tm}{s:List Int}(hs:In L s)(b:List Int):In L (oe s b):=⟨Ye b hs.ss,fun x hx=>hs.sub x (TC hx)⟩
theorem Nj{L:List Tm}{t:Tm}(h:t∈L):t.n∈Ni L:=List.mem_append_left _ (Ik.2 ⟨t,h,rfl⟩)
end LamM
namespace CpsM
open LamM
theorem FR{L:List Fl}{t:Fl}(h:t∈L):t.n∈Ni (nR L):=
 Nj (L:=nR L) (t:=t.tm) (Ik.2 ⟨t,h,rfl⟩)
theorem CH{L:List Fl}{t:Fl}(ht:t∈L):In (nR L) (fj t):=by
 unfold fj
 split
 ·exact⟨by simp [SS],fun x hx=>by rw [zt.1 hx];exact FR ht⟩
 ·exact In.nil _
theorem CI{L:List Fl}{F:Nat→List Int}(hF: ∀j,In (nR L) (F j))(t:Fl)(i:Nat): ∀(l rI:List Int),In (nR L) rI→In (nR L) (dX L F t i l rI)
 |[],_,h=>h
 |a::l,rI,h=>by
  unfold dX;refine CI hF t i l _ ?_
  split
  ·exact h
  ·split
   ·exact h.mrg (hF _).sub
   ·exact h.mrg ((hF _).wout _).sub
theorem Q6{L:List Fl}{F:Nat→List Int}(hF: ∀j,In (nR L) (F j))(inb:Bool){t:Fl}(ht:t∈L)(i:Nat):In (nR L) (j9 inb L F t i):=by
 unfold j9
 split
 ·exact CI hF t i _ _ (CH ht)
 ·exact In.nil _
theorem AW(inb:Nat→Bool)(L:List Fl): ∀(i j:Nat),In (nR L) (cU inb L i j)
 |0,_=>In.nil _
 |i+1,j=>by
  unfold cU
  split
  ·split
   ·next t h=>exact Q6 (AW inb L i) _ (zC h) i
   ·exact In.nil _
  ·exact AW inb L i j
theorem FT{L:List Fl}{F:Nat→List Int}{t:Fl}{i:Nat}{a:Int}{l rI:List Int}:dX L F t i (a::l) rI=dX L F t i l (if a<0∨(i:Int)≤a then rI else uS rI (if gh (cV L a)then F a.toNat else oe (F a.toNat) (eW t))):=rfl
theorem yM{inb:Nat→Bool}{L:List Fl}{i:Nat}{t:Fl}(h:L[i]? =some t):cU inb L (i+1) i=j9 (inb i) L (cU inb L i) t i:=by
 show(if i=i then _ else _)=_
 rw [zh rfl,h]
theorem re{inb:Nat→Bool}{L:List Fl}{i j:Nat}(h:j≠i):cU inb L (i+1) j=cU inb L i j:=by
 show(if j=i then _ else _)=_
 rw [ze h]
theorem oB{inb:Nat→Bool}{L:List Fl}: ∀{i j:Nat},i≤j→cU inb L i j=[]
 |0,_,_=>rfl
 |i+1,j,h=>by rw [re (by omega)];exact oB (by omega)
def yc(F:Nat→List Int)(i:Nat)(l:List Int):Nat→List Int:=fun j=>if j=i then l else F j
theorem pK{F:Nat→List Int}{i:Nat}{l:List Int}:yc F i l i=l:=zh rfl
theorem ng{F:Nat→List Int}{i j:Nat}{l:List Int}(h:j≠i):yc F i l j=F j:=ze h
theorem CJ{F:Nat→List Int}{i:Nat}{l m:List Int}:yc (yc F i l) i m=yc F i m:=by
 funext j
 by_cases h:j=i
 ·subst h;rw [pK,pK]
 ·rw [ng h,ng h,ng h]
theorem WC{F:Nat→List Int}{i:Nat}(h:F i=[]):yc F i []=F:=by
 funext j
 by_cases e:j=i
 ·subst e;rw [pK,h]
 ·rw [ng e]
theorem LN{inb:Nat→Bool}{L:List Fl}{i:Nat}{t:Fl}(h:L[i]? =some t)(hb:inb i=true):
 cU inb L (i+1)=yc (cU inb L i) i (dX L (cU inb L i) t i t.args (fj t)):=by
 funext j
 by_cases e:j=i
 ·subst e;rw [pK,yM h];unfold j9;rw [zh hb]
 ·rw [ng e,re e]
theorem LO{inb:Nat→Bool}{L:List Fl}{i:Nat}{t:Fl}(h:L[i]? =some t)(hb:inb i=false):
 cU inb L (i+1)=cU inb L i:=by
 funext j
 by_cases e:j=i
 ·subst e;rw [yM h,oB (za _)];unfold j9;rw [hb];rfl
 ·rw [re e]
def Q7(YU:Bool)(b s:List Int):List Int:=if YU then s else oe s b
theorem FU{L:List Tm}{s b:List Int}(YU:Bool)(h:In L s):In L (Q7 YU b s):=by
 unfold Q7
 cases YU
 ·exact h.wout b
 ·exact h
end CpsM
namespace Go.Proofs.YtcpmiplofbfmfaaGreatDoor
open Go.RowKit LamM
theorem NV.more{w:World}{B B':Nat}{v:Value}{L:List Tm}(h:NV w B v L)(hB:B≤B'):NV w B' v L:=by
 obtain⟨A,c,e,h1,h2,h3⟩:=h;refine⟨A,c,e,h1,h2,fun i t ht=> ?_⟩
 obtain⟨ad,vv,kv,av,hA,hb,x9,hc⟩:=h3 i t ht;exact⟨ad,vv,kv,av,hA,zy hb hB,⟨x9.v.more hB,(by obtain⟨A,c,e,h1,h2,h3⟩:=x9.k;exact⟨A,c,e,h1,h2,h3.more hB⟩),x9.a.more hB,x9.rk,x9.rn,x9.ri,x9.ra,x9.rv,x9.lv,x9.lk,x9.la⟩,hc⟩
theorem TV.more{w:World}{B B':Nat}{t:Tm}{vv kv av:Value}(h:TV w B t vv kv av)(hB:B≤B'):TV w B' t vv kv av:=
 ⟨h.v.more hB,(by obtain⟨A,c,e,h1,h2,h3⟩:=h.k;exact⟨A,c,e,h1,h2,h3.more hB⟩),h.a.more hB,h.rk,h.rn,h.ri,h.ra,h.rv,h.lv,h.lk,h.la⟩
theorem NV.below{w w':World}{v:Value}{L:List Tm}(h:NV w w.heap.size v L)(hb:Below w.heap.size w w'):NV w' w'.heap.size v L:=
 (h.keep (fun _ hp=>hb.cell hp)).more hb.size
theorem TV.below{w w':World}{t:Tm}{vv kv av:Value}(h:TV w w.heap.size t vv kv av)(hb:Below w.heap.size w w'):TV w' w'.heap.size t vv kv av:=
 (h.keep (fun _ hp=>hb.cell hp)).more hb.size
theorem KV.below{w w':World}{v:Value}{l:List Ky}(h:KV w w.heap.size v l)(hb:Below w.heap.size w w'):KV w' w'.heap.size v l:=by
 obtain⟨A,c,e,h1,h2,h3⟩:=h;exact⟨A,c,e,h1,h2,(h3.keep (fun _ hp=>hb.cell hp)).more hb.size⟩
end Go.Proofs.YtcpmiplofbfmfaaGreatDoor
namespace LamM
structure Pr where
 nm:List UInt8
 con:Int
 args:Int
 raises:List Int
def dS(con:Int)(r:List Int):List Pr:=[⟨[43],con,2,r⟩,⟨[45],con,2,r⟩,⟨[42],con,2,r⟩,⟨[126],con,1,r⟩,⟨[97,98,115],con,1,r⟩,⟨[60],con,2,[]⟩,⟨[60,61],con,2,[]⟩,⟨[62],con,2,[]⟩,⟨[62,61],con,2,[]⟩]
def ej(con:Int):List Pr:=[⟨[60],con,2,[]⟩,⟨[60,61],con,2,[]⟩,⟨[62],con,2,[]⟩,⟨[62,61],con,2,[]⟩]
def nD:List Pr:=[⟨[100,105,118], -1,2,[3,6]⟩,
 ⟨[109,111,100], -1,2,[3]⟩,
 ⟨[113,117,111,116], -1,2,[3,6]⟩,
 ⟨[114,101,109], -1,2,[3]⟩,
 ⟨[47], -1,2,[]⟩,
 ⟨[102,108,111,111,114], -1,1,[4,6]⟩,
 ⟨[99,101,105,108], -1,1,[4,6]⟩,
 ⟨[116,114,117,110,99], -1,1,[4,6]⟩,
 ⟨[114,111,117,110,100], -1,1,[4,6]⟩,
 ⟨[114,101,97,108], -1,1,[]⟩,
 ⟨[115,97,109,101], -1,2,[]⟩,
 ⟨[105,115,78,97,110], -1,1,[]⟩,
 ⟨[114,101,97,108,84,101,120,116], -1,1,[]⟩,
 ⟨[105,110,116,84,101,120,116], -1,1,[]⟩,
 ⟨[105,110,116,83,99,97,110], -1,1,[6]⟩,
 ⟨[114,101,97,108,83,99,97,110], -1,1,[]⟩,
 ⟨[111,114,100], -1,1,[]⟩,
 ⟨[99,104,114], -1,1,[2]⟩,
 ⟨[94], -1,2,[7]⟩,
 ⟨[115,105,122,101], -1,1,[]⟩,
 ⟨[115,117,98], -1,2,[8]⟩,
 ⟨[115,117,98,115,116,114,105,110,103], -1,3,[8]⟩,
 ⟨[115,116,114], -1,1,[]⟩,
 ⟨[61], -1,2,[]⟩,
 ⟨[60,62], -1,2,[]⟩,
 ⟨[114,101,102], -1,1,[]⟩,
 ⟨[33], -1,1,[]⟩,
 ⟨[58,61], -1,2,[]⟩,
 ⟨[97,114,114,97,121], -1,2,[7]⟩,
 ⟨[108,101,110,103,116,104], -1,1,[]⟩,
 ⟨[103,101,116], -1,2,[8]⟩,
 ⟨[115,101,116], -1,3,[8]⟩,
 ⟨[112,114,105,110,116], -1,1,[]⟩,
 ⟨[105,110,112,117,116], -1,1,[]⟩,
 ⟨[101,120,110], -1,1,[]⟩]
def ao:List Pr:=dS 0 [6]++(dS 1 []++(ej 2++(ej 3++nD)))
def bD:List Pm:=ao.map fun p=>⟨p.args,p.raises⟩
theorem Nk:bD.length=61:=rfl
theorem aN:ao.length=61:=rfl
end LamM
namespace Go.Proofs.YtcpmiplofbfmfaaGreatDoor
open Tryz
open Go.RowKit LamM
def br(p:Pr)(ty:ByteArray)(rv:Value):List Value:=[.string ⟨p.nm.toArray⟩, .int .i64 p.con, .int .i64 p.args, .string ty,rv]
inductive PX(Q:Value→List Int→Prop):List Value→List Pr→Prop
 |nil:PX Q [] []
 |cons {p:Pr} {ty:ByteArray} {rv:Value} {xs:List Value} {tab:List Pr}:Q rv p.raises→PX Q xs tab→PX Q (br p ty rv++xs) (p::tab)
theorem PX.mono{Q Q':Value→List Int→Prop}(hQ: ∀v l,Q v l→Q' v l): ∀{xs:List Value} {tab:List Pr},PX Q xs tab→PX Q' xs tab
 |_,_, .nil=> .nil
 |_,_, .cons h t=> .cons (hQ _ _ h) (t.mono hQ)
theorem PX.app{Q:Value→List Int→Prop}: ∀{xs ys:List Value} {a b:List Pr},PX Q xs a→PX Q ys b→PX Q (xs++ys) (a++b)
 |_,_,_,_, .nil,h=>h
 |_,_,_,_, .cons hq t,h=>by rw [Zn];exact .cons hq (t.app h)
theorem PX.len{Q:Value→List Int→Prop}: ∀{xs:List Value} {tab:List Pr},PX Q xs tab→xs.length=tab.length*5
 |_,_, .nil=>rfl
 |_,_, .cons _ t=>by rw [zS,t.len,Za];simp only [br,Za,ZP];omega
theorem PX.at_{Q:Value→List Int→Prop}: ∀{xs:List Value} {tab:List Pr},PX Q xs tab→∀{i:Nat} {p:Pr},tab[i]? =some p→∃ty rv,Q rv p.raises∧∀k,(br p ty rv)[k]? ≠none→xs[i*5+k]? =(br p ty rv)[k]?
 |_,_, .nil,i,p,h=>by simp at h
 |_,_, .cons (p:=q) (ty:=ty) (rv:=rv) hq t,0,p,h=>by
  have:q=p:=by simpa using h
  subst this;refine⟨ty,rv,hq,fun k hk=> ?_⟩
  rw [Zk,Ih];exact List.getElem?_append_left (Nat.lt_of_not_le fun h=>hk (zK h))
 |_,_, .cons hq t,i+1,p,h=>by
  obtain⟨ty,rv,h1,h2⟩:=t.at_ (i:=i) (p:=p) (by simpa using h)
  refine⟨ty,rv,h1,fun k hk=> ?_⟩
  rw [←h2 k hk,List.getElem?_append_right (by show 5≤_;omega)]
  congr 1
  show(i+1)*5+k-5=_;omega
def PV(w:World)(B:Nat)(v:Value)(tab:List Pr):Prop:=
 ∃ad xs c,v= .slice (some ad) tab.length c∧tab.length≤c∧c≤maxLen∧ad.block<B∧PX (IV w B) xs tab∧∀j u,xs[j]? =some u→w.cell? (ad.add j)=some u
theorem PV.keep{w w':World}{B:Nat}{v:Value}{tab:List Pr}(h:PV w B v tab)(hk: ∀p:Addr,p.block<B→w'.cell? p=w.cell? p):PV w' B v tab:=by
 obtain⟨ad,xs,c,e,h1,h2,h3,h4,h5⟩:=h;exact⟨ad,xs,c,e,h1,h2,h3,h4.mono (fun v l h=>h.keep hk),fun j u hu=>(hk _ (by rw [ak];exact h3)).trans (h5 j u hu)⟩
theorem PV.more{w:World}{B B':Nat}{v:Value}{tab:List Pr}(h:PV w B v tab)(hB:B≤B'):PV w B' v tab:=by
 obtain⟨ad,xs,c,e,h1,h2,h3,h4,h5⟩:=h;exact⟨ad,xs,c,e,h1,h2,zy h3 hB,h4.mono (fun v l h=>h.more hB),h5⟩
theorem PV.below{w w':World}{v:Value}{tab:List Pr}(h:PV w w.heap.size v tab)(hb:Below w.heap.size w w'):PV w' w'.heap.size v tab:=
 (h.keep (fun _ hp=>hb.cell hp)).more hb.size
theorem PV.len{w:World}{B:Nat}{v:Value}{tab:List Pr}(h:PV w B v tab): ∃A c,v= .slice (some A) tab.length c∧tab.length≤c∧c≤maxLen:=by
 obtain⟨ad,xs,c,e,h1,h2,_⟩:=h;exact⟨ad,c,e,h1,h2⟩
theorem PV.at_{w:World}{B:Nat}{ad:Addr}{n c:Nat}{tab:List Pr}(h:PV w B (.slice (some ad) n c) tab){i:Nat}{p:Pr}(hi:tab[i]? =some p):
 ∃ty rv,ad.block<B∧IV w B rv p.raises∧w.cell? (ad.add (i*5))=some (.string ⟨p.nm.toArray⟩)∧w.cell? (ad.add (i*5+1))=some (.int .i64 p.con)∧w.cell? (ad.add (i*5+2))=some (.int .i64 p.args)∧
  w.cell? (ad.add (i*5+3))=some (.string ty)∧w.cell? (ad.add (i*5+4))=some rv:=by
 obtain⟨QQ,xs,c',e,h1,h2,h3,h4,h5⟩:=h;injection e with e1 e2 e3
 injection e1 with e1
 subst e1;obtain⟨ty,rv,hq,hx⟩:=h4.at_ hi;refine⟨ty,rv,h3,hq,h5 _ _ ?_,h5 _ _ ?_,h5 _ _ ?_,h5 _ _ ?_,h5 _ _ ?_⟩
 ·exact(hx 0 (by simp [br])).trans rfl
 ·exact(hx 1 (by simp [br])).trans rfl
 ·exact(hx 2 (by simp [br])).trans rfl
 ·exact(hx 3 (by simp [br])).trans rfl
 ·exact(hx 4 (by simp [br])).trans rfl
theorem Below.toGrown{w w':World}(h:Below w.heap.size w w'):w.grownBy w' none:=⟨h.os,h.tape,h.output,h.size,fun k hk _=>h.block k hk⟩
theorem bj{w w':World}{base size n:Nat}{e:TypeId}{v:Value}{xs:List Value}(h:w.ownsRow base e size v n xs)(hb:Below w.heap.size w w'):w'.ownsRow base e size v n xs:=
 h.kept (Below.toGrown hb) (by cases v.ownBlock<;>simp)
theorem An{Q:Value→List Int→Prop}(con:Int)(T1 T2 T3:ByteArray)(rv:Value)(r:List Int)(h:Q rv r)(hn:Q (.slice none 0 0) []):PX Q (dZ con T1 T2 T3 rv) (dS con r):=by
 have e:dZ con T1 T2 T3 rv=br ⟨[43],con,2,r⟩ T1 rv++(br ⟨[45],con,2,r⟩ T1 rv++(br ⟨[42],con,2,r⟩ T1 rv++(br ⟨[126],con,1,r⟩ T2 rv++(br ⟨[97,98,115],con,1,r⟩ T2 rv++(br ⟨[60],con,2,[]⟩ T3 (.slice none 0 0)++(br ⟨[60,61],con,2,[]⟩ T3 (.slice none 0 0)++(br ⟨[62],con,2,[]⟩ T3 (.slice none 0 0)++(br ⟨[62,61],con,2,[]⟩ T3 (.slice none 0 0)++[])))))))):=by
  unfold dZ TA br;simp
 rw [e];unfold dS;exact .cons h (.cons h (.cons h (.cons h (.cons h (.cons hn (.cons hn (.cons hn (.cons hn .nil))))))))
theorem af7:(prog.info? 36).map (fun i=>(i.zero,i.size,i.bytes))=some (some (.agg #[.string ⟨#[]⟩, .int .i64 0, .int .i64 0, .string ⟨#[]⟩, .slice none 0 0]),5,72):=by kernel_rfl
theorem TD:prog.underlying 33=some (.slice 36):=by kernel_rfl
def Yk(con:Int)(rv:Value)(w:World)(e:Ending)(w':World):Prop:=
 ∃T1 T2 T3,e= .returned (.slice (some ⟨w.heap.size,0,none⟩) 9 9)∧w'.ownsRow w.heap.size 36 5 (.slice (some ⟨w.heap.size,0,none⟩) 9 9) 9 (dZ con T1 T2 T3 rv)∧Below w.heap.size w w'∧w'.heap.size=w.heap.size+1
theorem TE(con:Int)(T:ByteArray)(ra:Option Addr)(rn rc:Nat)(w:World)(hT:T.size≤100):
 Calls prog 21 #[.int .i64 con, .string T, .slice ra rn rc] w (Yk con (.slice ra rn rc) w):=by
 refine(DM con T ra rn rc w hT).mono ?_;rintro e w' ⟨T1,T2,T3,rfl,rfl⟩;refine⟨T1,T2,T3,rfl,?_,(zg _ _).alloc (za _) _,by simp⟩
 have h:=World.ownsRow_lit (base:=w.heap.size) (e:=36) (size:=5) w (dZ con T1 T2 T3 (.slice ra rn rc)).toArray 9 (za _) (by unfold maxLen;omega) rfl
 exact h
set_option maxRecDepth 100000
set_option maxHeartbeats 4000000
open Lib renaming hid→J
theorem Yl(con:Int)(T1 T2 T3:ByteArray)(ra:Option Addr)(rn rc:Nat): ∀u∈dZ con T1 T2 T3 (.slice ra rn rc),u.oneCell'=true:=by
 simp [dZ,TA,Value.oneCell']
theorem DO(T1 T2 T3:ByteArray)(con:Int){k:Nat}(hk:k<4): ∃p,(ej con)[k]? =some p∧p.raises=[]∧
 ∀j,j<5→(dZ con T1 T2 T3 (.slice none 0 0))[25+k*5+j]? =(br p T3 (.slice none 0 0))[j]? :=by
 rcases(by omega:k=0∨k=1∨k=2∨k=3)with rfl|rfl|rfl|rfl
 all_goals
  refine⟨_,rfl,rfl,fun j hj=> ?_⟩
  rcases(by omega:j=0∨j=1∨j=2∨j=3∨j=4)with rfl|rfl|rfl|rfl|rfl<;>rfl
structure KR(w:World)(g G:Nat)(cs:List Value)(n:Nat)(ys:List Value)(tab:List Pr)(l:Value)(wr:World):Prop where
 own:wr.ownsRow g 36 5 l n ys
 px:PX (IV wr g) ys tab
 bel:Below w.heap.size w wr
 ne:l.ownBlock≠some G
 hG:G<wr.heap.size
 hg:g<wr.heap.size
 hw:w.heap.size<g
 cell: ∀j u,cs[j]? =some u→wr.cell? ((⟨G,0,none⟩:Addr).add j)=some u
theorem KR.step{w wr w':World}{g G n:Nat}{cs ys:List Value}{tab:List Pr}{l v':Value}{p:Pr}{ty:ByteArray}(H:KR w g G cs n ys tab l wr)(o o2:Obj)
 (ho:w'.ownsRow g 36 5 v' (n+1) (ys++br p ty (.slice none 0 0))) (rU:((wr.alloc o).alloc o2).grownBy w' l.ownBlock)
 (hor:v'.ownBlock=l.ownBlock∨v'.ownBlock=some (wr.heap.size+1+1)) (hp:p.raises=[]):KR w g G cs (n+1) (ys++br p ty (.slice none 0 0)) (tab++[p]) v' w':=by
 have hs:((wr.alloc o).alloc o2).heap.size=wr.heap.size+2:=by simp
 have hG:=H.hG;have hg:=H.hg;have hb:Below g wr w':=(((zg g wr).alloc (by omega) o).alloc (by simp;omega) o2).grown rU (by omega) (fun j hj=>(zr H.own j hj).1)
 have dq:=hb.size;refine⟨ho,(H.px.mono (fun v l h=>h.keep (fun q hq=>hb.cell hq))).app ?_,H.bel.trans (hb.mono (by have:=H.hw;omega)),?_,by omega,by omega,H.hw,fun j u hu=> ?_⟩
 ·have:=PX.cons (Q:=IV w' g) (p:=p) (ty:=ty) (rv:= .slice none 0 0) (by rw [hp];exact bm _ _) PX.nil
  rwa [ZQ]at this
 ·rcases hor with h|h
  ·rw [h];exact H.ne
  ·rw [h];intro e;have:=zz e;omega
 ·have h1:=H.cell j u hu
  have hbk:((⟨G,0,none⟩:Addr).add j).block=G:=by rw [ak]
  have h2:((wr.alloc o).alloc o2).cell? ((⟨G,0,none⟩:Addr).add j)=some u:=by
   rw [World.cell?_alloc_lt _ _ _ (by rw [hbk];simp;omega),World.cell?_alloc_lt _ _ _ (by rw [hbk];omega)];exact h1
  exact rU.cell h2 (by rw [hbk];exact fun e=>H.ne e.symm)
theorem KR.next{w wr w':World}{g G n:Nat}{cs xO ys:List Value}{tab:List Pr}{l:Value}(H:KR w g G cs n ys tab l wr)(hb:Below wr.heap.size wr w')(hs:w'.heap.size=wr.heap.size+1)
 (ho:w'.ownsRow wr.heap.size 36 5 (.slice (some ⟨wr.heap.size,0,none⟩) 9 9) 9 xO):KR w g wr.heap.size xO n ys tab l w':=by
 have hg:=H.hg;refine⟨bj H.own hb,H.px.mono (fun v l h=>h.keep (fun q hq=>hb.cell (by omega))),H.bel.trans (hb.mono H.bel.size),fun h=> ?_,by omega,by omega,H.hw,fun j u hu=>ho.cells (g:=wr.heap.size) rfl j u hu⟩
 have:=(zr H.own _ h).2;omega
def l_:World→List Obj→World
 |w,[]=>w
 |w,o::l=>l_ (w.alloc o) l
theorem uT: ∀(l:List Obj) (w:World),(l_ w l).heap.size=w.heap.size+l.length
 |[],_=>rfl
 |o::l,w=>by rw [l_,uT l,Za];simp;omega
theorem nE: ∀(l:List Obj) (w:World),Below w.heap.size w (l_ w l)
 |[],w=>zg _ _
 |o::l,w=>((zg w.heap.size w).alloc (za _) o).trans ((nE l (w.alloc o)).mono (by simp))
theorem rB: ∀(l:List Obj) (w:World) (j:Nat) (cs:Array Value) (t:TypeId),l[j]? =some (.cells cs t)→ai (l_ w l) (w.heap.size+j) t cs
 |[],_,_,_,_,h=>by simp at h
 |o::l,w,0,cs,t,h=>by
  obtain rfl:o= .cells cs t:=by simpa using h
  exact(ai.new w t cs).below (B:=(w.alloc (.cells cs t)).heap.size) (nE l _) (by simp)
 |o::l,w,j+1,cs,t,h=>by
  have:=rB l (w.alloc o) j cs t (by simpa using h)
  rw [show(w.alloc o).heap.size+j=w.heap.size+(j+1)by simp;omega]at this
  exact this
theorem oT: ∀(l:List Obj) {w:World} {base size n:Nat} {e:TypeId} {v:Value} {xs:List Value},w.ownsRow base e size v n xs→(l_ w l).ownsRow base e size v n xs
 |[],_,_,_,_,_,_,_,h=>h
 |o::l,_,_,_,_,_,_,_,h=>oT l (h.alloc o)
theorem PX.cons'{Q:Value→List Int→Prop}{nm:List UInt8}{con args:Int}{r:List Int}{ty:ByteArray}{rv:Value}{xs:List Value}{tab:List Pr}(h:Q rv r)(t:PX Q xs tab):
 PX Q (.string ⟨nm.toArray⟩:: .int .i64 con:: .int .i64 args:: .string ty::rv::xs) (⟨nm,con,args,r⟩::tab):=PX.cons (p:=⟨nm,con,args,r⟩) h t
theorem aT.blk{w:World}{g n size:Nat}{t:TypeId}{cs:Array Value}(h:ai w g t cs)(hs:cs.size=n*size):aT w w.heap.size size (some ⟨g,0,none⟩) n cs.toList:=by
 refine⟨by simpa using hs,fun _=>⟨_,rfl,h.lt,fun j u hu=> ?_⟩⟩
 rw [show(⟨g,0,none⟩:Addr).add j=⟨g,j,none⟩by unfold Addr.add;split<;>simp_all,h.cell j]
 simpa using hu
theorem dt{wr w':World}{aek:List Obj}{row:Option Nat}{j:Nat}{l:List Int}(hj:aek[j]? =some (.cells (aZ l).toArray 3))(rU:(l_ wr aek).grownBy w' row)(hr: ∀k,row=some k→k<wr.heap.size)(hm:l.length≤5):
 IV w' w'.heap.size (.slice (some ⟨wr.heap.size+j,0,none⟩) l.length l.length) l:=by
 have hb:=rB aek wr j _ _ hj;have Cs:=hb.grown rU (fun e=>by have:=hr _ e.symm;omega)
 refine⟨_,_,rfl,za _,by unfold maxLen;omega,?_⟩
 exact aT.blk Cs (by simp)
theorem aT.blk'{w:World}{g n size:Nat}{t:TypeId}{xs:List Value}(h:ai w g t xs.toArray)(hs:xs.length=n*size):aT w w.heap.size size (some ⟨g,0,none⟩) n xs:=by
 have:=aT.blk (n:=n) (size:=size) h (by simpa using hs)
 simpa using this
theorem KR.src{w wr:World}{g G n:Nat}{cs ys:List Value}{tab:List Pr}{l:Value}(_:KR w g G cs n ys tab l wr)(p:Pr)(ty:ByteArray)(o:Obj):
 aT ((wr.alloc o).alloc (.cells (br p ty (.slice none 0 0)).toArray 36)) ((wr.alloc o).alloc (.cells (br p ty (.slice none 0 0)).toArray 36)).heap.size 5 (some ⟨wr.heap.size+1,0,none⟩) 1 (br p ty (.slice none 0 0)):=by
 have h:=aT.blk (ai.new (wr.alloc o) 36 (br p ty (.slice none 0 0)).toArray) (n:=1) (size:=5) rfl;rw [show(wr.alloc o).heap.size=wr.heap.size+1 by simp]at h
 exact h
def sE(S:Nat):List (Pr×ByteArray×Value):=[(⟨[100,105,118], -1,2,[3,6]⟩,⟨#[105,110,116,32,42,32,105,110,116,32,45,62,32,105,110,116]⟩, .slice (some ⟨S,0,none⟩) 2 2),
 (⟨[109,111,100], -1,2,[3]⟩,⟨#[105,110,116,32,42,32,105,110,116,32,45,62,32,105,110,116]⟩, .slice (some ⟨S+1,0,none⟩) 1 1),
 (⟨[113,117,111,116], -1,2,[3,6]⟩,⟨#[105,110,116,32,42,32,105,110,116,32,45,62,32,105,110,116]⟩, .slice (some ⟨S+2,0,none⟩) 2 2),
 (⟨[114,101,109], -1,2,[3]⟩,⟨#[105,110,116,32,42,32,105,110,116,32,45,62,32,105,110,116]⟩, .slice (some ⟨S+3,0,none⟩) 1 1),
 (⟨[47], -1,2,[]⟩,⟨#[114,101,97,108,32,42,32,114,101,97,108,32,45,62,32,114,101,97,108]⟩, .slice none 0 0),
 (⟨[102,108,111,111,114], -1,1,[4,6]⟩,⟨#[114,101,97,108,32,45,62,32,105,110,116]⟩, .slice (some ⟨S+4,0,none⟩) 2 2),
 (⟨[99,101,105,108], -1,1,[4,6]⟩,⟨#[114,101,97,108,32,45,62,32,105,110,116]⟩, .slice (some ⟨S+5,0,none⟩) 2 2),
 (⟨[116,114,117,110,99], -1,1,[4,6]⟩,⟨#[114,101,97,108,32,45,62,32,105,110,116]⟩, .slice (some ⟨S+6,0,none⟩) 2 2),
 (⟨[114,111,117,110,100], -1,1,[4,6]⟩,⟨#[114,101,97,108,32,45,62,32,105,110,116]⟩, .slice (some ⟨S+7,0,none⟩) 2 2),
 (⟨[114,101,97,108], -1,1,[]⟩,⟨#[105,110,116,32,45,62,32,114,101,97,108]⟩, .slice none 0 0),
 (⟨[115,97,109,101], -1,2,[]⟩,⟨#[114,101,97,108,32,42,32,114,101,97,108,32,45,62,32,98,111,111,108]⟩, .slice none 0 0),
 (⟨[105,115,78,97,110], -1,1,[]⟩,⟨#[114,101,97,108,32,45,62,32,98,111,111,108]⟩, .slice none 0 0),
 (⟨[114,101,97,108,84,101,120,116], -1,1,[]⟩,⟨#[114,101,97,108,32,45,62,32,115,116,114,105,110,103]⟩, .slice none 0 0),
 (⟨[105,110,116,84,101,120,116], -1,1,[]⟩,⟨#[105,110,116,32,45,62,32,115,116,114,105,110,103]⟩, .slice none 0 0),
 (⟨[105,110,116,83,99,97,110], -1,1,[6]⟩,⟨#[115,116,114,105,110,103,32,45,62,32,105,110,116,32,42,32,105,110,116]⟩, .slice (some ⟨S+8,0,none⟩) 1 1),
 (⟨[114,101,97,108,83,99,97,110], -1,1,[]⟩,⟨#[115,116,114,105,110,103,32,45,62,32,114,101,97,108,32,42,32,105,110,116]⟩, .slice none 0 0),
 (⟨[111,114,100], -1,1,[]⟩,⟨#[99,104,97,114,32,45,62,32,105,110,116]⟩, .slice none 0 0),
 (⟨[99,104,114], -1,1,[2]⟩,⟨#[105,110,116,32,45,62,32,99,104,97,114]⟩, .slice (some ⟨S+9,0,none⟩) 1 1),
 (⟨[94], -1,2,[7]⟩,⟨#[115,116,114,105,110,103,32,42,32,115,116,114,105,110,103,32,45,62,32,115,116,114,105,110,103]⟩, .slice (some ⟨S+10,0,none⟩) 1 1),
 (⟨[115,105,122,101], -1,1,[]⟩,⟨#[115,116,114,105,110,103,32,45,62,32,105,110,116]⟩, .slice none 0 0),
 (⟨[115,117,98], -1,2,[8]⟩,⟨#[115,116,114,105,110,103,32,42,32,105,110,116,32,45,62,32,99,104,97,114]⟩, .slice (some ⟨S+11,0,none⟩) 1 1),
 (⟨[115,117,98,115,116,114,105,110,103], -1,3,[8]⟩,⟨#[115,116,114,105,110,103,32,42,32,105,110,116,32,42,32,105,110,116,32,45,62,32,115,116,114,105,110,103]⟩, .slice (some ⟨S+12,0,none⟩) 1 1),
 (⟨[115,116,114], -1,1,[]⟩,⟨#[99,104,97,114,32,45,62,32,115,116,114,105,110,103]⟩, .slice none 0 0),
 (⟨[61], -1,2,[]⟩,⟨#[39,39,97,32,42,32,39,39,97,32,45,62,32,98,111,111,108]⟩, .slice none 0 0),
 (⟨[60,62], -1,2,[]⟩,⟨#[39,39,97,32,42,32,39,39,97,32,45,62,32,98,111,111,108]⟩, .slice none 0 0),
 (⟨[114,101,102], -1,1,[]⟩,⟨#[39,97,32,45,62,32,39,97,32,114,101,102]⟩, .slice none 0 0),
 (⟨[33], -1,1,[]⟩,⟨#[39,97,32,114,101,102,32,45,62,32,39,97]⟩, .slice none 0 0),
 (⟨[58,61], -1,2,[]⟩,⟨#[39,97,32,114,101,102,32,42,32,39,97,32,45,62,32,117,110,105,116]⟩, .slice none 0 0),
 (⟨[97,114,114,97,121], -1,2,[7]⟩,⟨#[105,110,116,32,42,32,39,97,32,45,62,32,39,97,32,97,114,114,97,121]⟩, .slice (some ⟨S+13,0,none⟩) 1 1),
 (⟨[108,101,110,103,116,104], -1,1,[]⟩,⟨#[39,97,32,97,114,114,97,121,32,45,62,32,105,110,116]⟩, .slice none 0 0),
 (⟨[103,101,116], -1,2,[8]⟩,⟨#[39,97,32,97,114,114,97,121,32,42,32,105,110,116,32,45,62,32,39,97]⟩, .slice (some ⟨S+14,0,none⟩) 1 1),
 (⟨[115,101,116], -1,3,[8]⟩,⟨#[39,97,32,97,114,114,97,121,32,42,32,105,110,116,32,42,32,39,97,32,45,62,32,117,110,105,116]⟩, .slice (some ⟨S+15,0,none⟩) 1 1),
 (⟨[112,114,105,110,116], -1,1,[]⟩,⟨#[115,116,114,105,110,103,32,45,62,32,117,110,105,116]⟩, .slice none 0 0),
 (⟨[105,110,112,117,116], -1,1,[]⟩,⟨#[117,110,105,116,32,45,62,32,115,116,114,105,110,103]⟩, .slice none 0 0),
 (⟨[101,120,110], -1,1,[]⟩,⟨#[115,116,114,105,110,103,32,45,62,32,101,120,110]⟩, .slice none 0 0)]
def BG(S:Nat):List Value:=(sE S).map fun x=> .agg (br x.1 x.2.1 x.2.2).toArray
def ga(S:Nat):List Value:=(sE S).flatMap fun x=>br x.1 x.2.1 x.2.2
def kN(S:Nat):List Obj:=[.cells #[.int .i64 3, .int .i64 6] 3, .cells #[.int .i64 3] 3, .cells #[.int .i64 3, .int .i64 6] 3, .cells #[.int .i64 3] 3, .cells #[.int .i64 4, .int .i64 6] 3, .cells #[.int .i64 4, .int .i64 6] 3, .cells #[.int .i64 4, .int .i64 6] 3, .cells #[.int .i64 4, .int .i64 6] 3, .cells #[.int .i64 6] 3, .cells #[.int .i64 2] 3, .cells #[.int .i64 7] 3, .cells #[.int .i64 8] 3, .cells #[.int .i64 8] 3, .cells #[.int .i64 7] 3, .cells #[.int .i64 8] 3, .cells #[.int .i64 8] 3, .cells (ga S).toArray 36]
theorem Nl(S:Nat):(ga S).length=35*5:=rfl
theorem xf: ∀l:List (Pr×ByteArray×Value),((l.map fun x=>Value.agg (br x.1 x.2.1 x.2.2).toArray).flatMap fun v=>v.cells.toList)=l.flatMap fun x=>br x.1 x.2.1 x.2.2
 |[]=>rfl
 |x::l=>by rw [List.map_cons,List.flatMap_cons,List.flatMap_cons,xf l];rfl
theorem Nm(S:Nat)(AM:List (Nat×Value))(cells:Array Value)(h:AM=((BG S).zipIdx 0).map fun x=>(x.2,x.1))(hn:cells.size=175):Instr.fill (fun i=>some (i*5,5)) cells AM=some (ga S).toArray:=by
 have hl:(BG S).length*5=cells.size:=by rw [hn];rfl
 rw [h,Great.fill_whole (by decide) (BG S) cells (fun v hv=> ?_) hl]
 ·unfold BG ga;rw [xf]
 ·obtain⟨x,_,rfl⟩:=Ik.1 hv;rfl
theorem TF(S:Nat): ∀u∈ga S,u.oneCell'=true:=by
 intro u hu;obtain⟨x,hx,h⟩:=List.mem_flatMap.1 hu;have h2: ∀x∈sE S,x.2.2.oneCell'=true:=by simp [sE,Value.oneCell']
 have:=h2 x hx;simp only [br,zx,zD,Zo]at h
 rcases h with rfl|rfl|rfl|rfl|rfl<;>first|rfl|exact this
theorem Ym{wr w':World}{row:Option Nat}(rU:(l_ wr (kN wr.heap.size)).grownBy w' row)(hr: ∀k,row=some k→k<wr.heap.size):PX (IV w' w'.heap.size) (ga wr.heap.size) nD:=
 PX.cons' (dt (j:=0) (l:=[3,6]) rfl rU hr (by decide)) (.cons' (dt (j:=1) (l:=[3]) rfl rU hr (by decide)) (.cons' (dt (j:=2) (l:=[3,6]) rfl rU hr (by decide)) (.cons' (dt (j:=3) (l:=[3]) rfl rU hr (by decide)) (.cons' (bm _ _) (.cons' (dt (j:=4) (l:=[4,6]) rfl rU hr (by decide)) (.cons' (dt (j:=5) (l:=[4,6]) rfl rU hr (by decide)) (.cons' (dt (j:=6) (l:=[4,6]) rfl rU hr (by decide)) (.cons' (dt (j:=7) (l:=[4,6]) rfl rU hr (by decide)) (.cons' (bm _ _) (.cons' (bm _ _) (.cons' (bm _ _) (.cons' (bm _ _) (.cons' (bm _ _) (.cons' (dt (j:=8) (l:=[6]) rfl rU hr (by decide)) (.cons' (bm _ _) (.cons' (bm _ _) (.cons' (dt (j:=9) (l:=[2]) rfl rU hr (by decide)) (.cons' (dt (j:=10) (l:=[7]) rfl rU hr (by decide)) (.cons' (bm _ _) (.cons' (dt (j:=11) (l:=[8]) rfl rU hr (by decide)) (.cons' (dt (j:=12) (l:=[8]) rfl rU hr (by decide)) (.cons' (bm _ _) (.cons' (bm _ _) (.cons' (bm _ _) (.cons' (bm _ _) (.cons' (bm _ _) (.cons' (bm _ _) (.cons' (dt (j:=13) (l:=[7]) rfl rU hr (by decide)) (.cons' (bm _ _) (.cons' (dt (j:=14) (l:=[8]) rfl rU hr (by decide)) (.cons' (dt (j:=15) (l:=[8]) rfl rU hr (by decide)) (.cons' (bm _ _) (.cons' (bm _ _) (.cons' (bm _ _) .nil))))))))))))))))))))))))))))))))))
theorem Nn{w wr w':World}{g G:Nat}{cs ys:List Value}{l v':Value}(H:KR w g G cs 26 ys (dS 0 [6]++dS 1 []++ej 2++ej 3) l wr)
 (ho:w'.ownsRow g 36 5 v' (26+35) (ys++ga wr.heap.size)) (rU:(l_ wr (kN wr.heap.size)).grownBy w' l.ownBlock):
 PV w' w'.heap.size v' ao∧Below w.heap.size w w':=by
 have hr: ∀k,l.ownBlock=some k→k<wr.heap.size:=fun k hk=>(zr H.own k hk).2
 have Ct: ∀k,l.ownBlock=some k→g≤k:=fun k hk=>(zr H.own k hk).1
 have hs:=uT (kN wr.heap.size) wr;have hg:=H.hg;have bJ:=nE (kN wr.heap.size) wr;have hb:Below g wr w':=(bJ.mono (by omega)).grown rU (by omega) Ct
 have dq:=hb.size;have hpx:=(H.px.mono (Q':=IV w' w'.heap.size) (fun v l h=>(h.keep (fun q hq=>hb.cell hq)).more (by omega))).app (Ym rU hr)
 refine⟨?_,H.bel.trans (hb.mono (by have:=H.hw;omega))⟩
 have hT:dS 0 [6]++dS 1 []++ej 2++ej 3++nD=ao:=by unfold ao;simp only [Zn]
 rw [hT]at hpx
 rcases ho.2 with⟨_,h0⟩|⟨gg,cap,Co,rfl,hbb,hh,hnc,hcm,s_,anQ⟩
 ·omega
 ·refine⟨⟨gg,0,none⟩,ys++ga wr.heap.size,cap,rfl,hnc,hcm,(zr ho gg rfl).2,hpx,fun j u hu=> ?_⟩
  exact ho.cells (g:=gg) rfl j u hu
theorem ua{P:Program}{o:Oper}{a:Act}{w:World}{K:Act→World→Prop}{Q:Exit→Act→World→Prop}(t e:TypeId)(len:Nat)(AM:Array (Nat×Operand))(ho:o.op= .buildSlice t len AM)
 (cells:Array Value) (ie:TypeInfo) (z:Value) (N:Nat) (hN:w.heap.size=N)
 (hu:P.underlying t=some (.slice e)) (hie:P.info? e=some ie) (hz:ie.zero=some z) (ael: ¬len*ie.size>2^24) (Ce: ¬len*ie.size=0)
 (hf:Instr.fill (fun i=>some (i*ie.size,ie.size)) ((Array.range (len*ie.size)).map (z.cells[· %z.cells.size]!)) (AM.map fun(i,x)=>(i,a.eval x)).toList=some cells)
 (h:K (a.put o.dst (.slice (some ⟨N,0,none⟩) len len)) (w.alloc (.cells cells e))):o.wp P a w K Q:=by
 subst hN;exact wp_buildSlice t e len AM ho cells ie z hu hie hz ael Ce hf h
theorem gc(w:World):Calls prog 7 #[] w fun e w'=> ∃v,e= .returned v∧PV w' w'.heap.size v ao∧Below w.heap.size w w':=by
 obtain⟨i0,gF,gX,dw,eU⟩:=Zv af7;have HRC:=J (fun con T ra rn rc w hT=>TE con T ra rn rc w hT)
 have HIV:=J (tZ w 6);have Y9:maxLen=9223372036854775807:=rfl;have HMX:=J Y9;clear Y9;go_enter func7,ntmps7;go_wp2_with fail;go_at_call 21
 (with_reducible refine(HRC.out _ _ _ _ _ _ (by decide)).mono ?_)
 rintro e w1 ⟨T1,T2,T3,rfl,ho1,cT,qy⟩;have hs0:(w.alloc (.cells #[.int .i64 6] 3)).heap.size=w.heap.size+1:=by simp
 have dV:=J (An (Q:=IV w1 (w.heap.size+1)) 0 T1 T2 T3 _ [6] (HIV.out.keep (fun p hp=>cT.cell (by rw [hs0];exact hp))) (bm _ _))
 have bp:Hid (Below w.heap.size w w1):=J (((zg _ _).alloc (za _) _).trans (cT.mono (by rw [hs0];omega)))
 rw [hs0]at ho1 qy;obtain⟨g,hg⟩: ∃g,w.heap.size+1=g:=⟨_,rfl⟩;rw [hs0,hg];rw [hg]at ho1 qy dV;have qC:g<w1.heap.size:=by omega
 generalize dZ 0 T1 T2 T3 (Value.slice (some ⟨w.heap.size,0,none⟩) 1 1)=xs1 at ho1 dV;have oi:=J ho1;have HG:=J hg;clear ho1 cT hs0 qy HIV hg;go_wp2_with fail;go_at_call 21
 (with_reducible refine(HRC.out _ _ _ _ _ _ (by decide)).mono ?_)
 rintro e w2 ⟨U1,U2,U3,rfl,JZ,cB,hs2⟩;have rR:=J (bj oi.out cB);have nX:=J (aT.of_own JZ);have AK:=J ((dV.out.mono (Q':=IV w2 g) (fun v l h=>h.keep (fun p hp=>cB.cell (by omega)))).app (An (Q:=IV w2 g) 1 U1 U2 U3 _ [] (bm _ _) (bm _ _)))
 have bM:=J (bp.out.trans (cB.mono bp.out.size));have xX:w1.heap.size<w2.heap.size:=by omega
 have Qe:=J (Yl 1 U1 U2 U3 none 0 0);clear JZ cB hs2 oi dV bp;generalize dZ 1 U1 U2 U3 (Value.slice none 0 0)=xs2 at *;go_wp2_with (at_builtin;go_must (refine aU _ rfl _ _ 33 rfl g 36 i0 _ 5 72 TD gF gX dw eU rfl (by decide) _ _ _ rfl rR.out w2.heap.size _ _ _ _ rfl nX.out Qe.out (by rw [HMX.out];decide) (by decide) (by omega) ?_))
 intro v3 w3 dd aem alr;have kZ:=(zg g w2).grown aem (by omega) (fun j hj=>(zr rR.out j hj).1)
 have E4:=J dd;have vt:=J (AK.out.mono (Q':=IV w3 g) (fun v l h=>h.keep (fun p hp=>kZ.cell hp)))
 have dF:=J (bM.out.trans (kZ.mono (by have:=HG.out;omega)))
 have U0:g<w3.heap.size:=by have:=aem.size;omega
 clear dd aem alr kZ rR AK bM nX Qe xX qC;generalize xs1++xs2=ys3 at *;go_wp2_with fail;go_at_call 21
 (with_reducible refine(HRC.out _ _ _ _ _ _ (by decide)).mono ?_)
 rintro e w4 ⟨V1,V2,V3,rfl,ho4,k6,Y_⟩;have HO4:=J (bj E4.out k6);have HC4:=J (fun j u=>ho4.cells (g:=w3.heap.size) rfl j u)
 have HP4:=J (vt.out.mono (Q':=IV w4 g) (fun v l h=>h.keep (fun p hp=>k6.cell (by omega))))
 have ce:=J (dF.out.trans (k6.mono dF.out.size));have Wu:g<w4.heap.size:=by omega
 have fa:v3.ownBlock≠some w3.heap.size:=fun h=>by have:=(zr E4.out _ h).2;omega
 obtain⟨G,hG⟩: ∃G,w3.heap.size=G:=⟨_,rfl⟩;rw [hG]at fa HC4⊢;have hG4:G<w4.heap.size:=by omega
 have Wq:=J fa;clear ho4 k6 Y_ E4 vt dF fa hG U0;have Wg:Hid (KR w g G (dZ 2 V1 V2 V3 (.slice none 0 0)) 18 ys3 (dS 0 [6]++dS 1 []) v3 w4):=J ⟨HO4.out,HP4.out,ce.out,Wq.out,hG4,Wu,(by have:=HG.out;omega),HC4.out⟩
 have HCE:=J (fun k (hk:k<4)=>DO V1 V2 V3 2 hk)
 generalize dZ 2 V1 V2 V3 (Value.slice none 0 0)=cs at *;clear HO4 HP4 ce Wq HC4 hG4 Wu;go_wp2_with fail
 go_loopw [1,14] (fun l ix wr=> ∃(k:Nat) (ys:List Value),k≤4∧ix= .int .i64 (k:Int)∧Hid (KR w g G cs (18+k) ys ((dS 0 [6]++dS 1 [])++(ej 2).take k) l wr)) (fun _ i _=>4-(intOf i).toNat)
 case atStart=>exact⟨0,ys3,by omega,rfl,by simpa using Wg⟩
 case round=>
  obtain⟨k,ys,hk,rfl,HL⟩:=hrel
  rcases zj k 4 with bw|iE
  ·have rP:(k:Int)<4:=by omega
   obtain⟨p,hp,hpr,hc⟩:=HCE.out k bw
   have J0: ∀j u,j<5→(br p V3 (.slice none 0 0))[j]? =some u→wr.cell? ⟨G,25+k*5+j,none⟩=some u:=fun j u hj hu=>by
    have:=HL.out.cell (25+k*5+j) u (by rw [hc j hj];exact hu)
    rwa [show(⟨G,0,none⟩:Addr).add (25+k*5+j)=⟨G,25+k*5+j,none⟩by unfold Addr.add;split<;>simp_all]at this
   have k0:wr.cell? ⟨G,25+k*5,none⟩=_:=J0 0 _ (by omega) rfl
   have k1:=J0 1 _ (by omega) rfl
   have k2:=J0 2 _ (by omega) rfl
   have k3:=J0 3 _ (by omega) rfl
   have k4:=J0 4 _ (by omega) rfl
   have Vz:=J (HL.out.src p V3);clear J0 hc;unfold br at Vz;go_wp2_with (at_builtin;go_must (refine aU _ rfl _ _ 33 rfl g 36 i0 _ 5 72 TD gF gX dw eU rfl (by decide) _ _ _ rfl ((HL.out.own.alloc _).alloc _) _ _ _ _ _ rfl (Vz.out _) (by simp [Value.oneCell']) (by rw [HMX.out];omega) (by omega) (by have:=HL.out.hg;simp;omega) ?_))
   intro v5 w5 VB Vy qD;have HL5:=J (HL.out.step (p:=p) (ty:=V3) _ _ VB Vy qD hpr);have HE:=J (show(ej 2).take (k+1)=(ej 2).take k++[p]by rw [Io,hp];rfl)
   clear VB Vy qD Vz k0 k1 k2 k3 k4 hp hpr;go_wp2_with fail
   go_roundw
   case rel=>exact⟨k+1,_,by omega,by go_num,by rw [HE.out,←Zn];exact HL5⟩
   case measure=>simp [intOf];omega
  ·obtain rfl:k=4:=by omega
   have q:(4:Int)≤((4:Nat):Int):=by decide
   have HL3:=J (show KR w g G cs 22 ys ((dS 0 [6]++dS 1 [])++ej 2) u1 wr from HL.out)
   clear iE hk HL HCE Wg;go_wp2_with fail;go_at_call 21
   (with_reducible refine(HRC.out _ _ _ _ _ _ (by decide)).mono ?_)
   rintro e w6 ⟨X1,X2,X3,rfl,uy,JV,vY⟩;have Wg:=J (HL3.out.next JV vY uy);obtain⟨G2,hG2⟩: ∃G,wr.heap.size=G:=⟨_,rfl⟩;rw [hG2]at Wg⊢;clear uy JV vY hG2 HL3;have HCE:=J (fun k (hk:k<4)=>DO X1 X2 X3 3 hk)
   generalize dZ 3 X1 X2 X3 (Value.slice none 0 0)=cs2 at *;go_wp2_with fail
   go_loopw [1,26] (fun l ix wr=> ∃(k:Nat) (ys:List Value),k≤4∧ix= .int .i64 (k:Int)∧Hid (KR w g G2 cs2 (22+k) ys ((dS 0 [6]++dS 1 []++ej 2)++(ej 3).take k) l wr)) (fun _ i _=>4-(intOf i).toNat)
   case atStart=>exact⟨0,ys,by omega,rfl,by simpa using Wg⟩
   case round=>
    obtain⟨k,ys,hk,rfl,HL⟩:=hrel
    rcases zj k 4 with bw|iE
    ·have rP:(k:Int)<4:=by omega
     obtain⟨p,hp,hpr,hc⟩:=HCE.out k bw
     have J0: ∀j u,j<5→(br p X3 (.slice none 0 0))[j]? =some u→wr.cell? ⟨G2,25+k*5+j,none⟩=some u:=fun j u hj hu=>by
      have:=HL.out.cell (25+k*5+j) u (by rw [hc j hj];exact hu)
      rwa [show(⟨G2,0,none⟩:Addr).add (25+k*5+j)=⟨G2,25+k*5+j,none⟩by unfold Addr.add;split<;>simp_all]at this
     have k0:wr.cell? ⟨G2,25+k*5,none⟩=_:=J0 0 _ (by omega) rfl
     have k1:=J0 1 _ (by omega) rfl
     have k2:=J0 2 _ (by omega) rfl
     have k3:=J0 3 _ (by omega) rfl
     have k4:=J0 4 _ (by omega) rfl
     have Vz:=J (HL.out.src p X3);clear J0 hc;unfold br at Vz;go_wp2_with (at_builtin;go_must (refine aU _ rfl _ _ 33 rfl g 36 i0 _ 5 72 TD gF gX dw eU rfl (by decide) _ _ _ rfl ((HL.out.own.alloc _).alloc _) _ _ _ _ _ rfl (Vz.out _) (by simp [Value.oneCell']) (by rw [HMX.out];omega) (by omega) (by have:=HL.out.hg;simp;omega) ?_))
     intro v5 w5 VB Vy qD;have HL5:=J (HL.out.step (p:=p) (ty:=X3) _ _ VB Vy qD hpr);have HE:=J (show(ej 3).take (k+1)=(ej 3).take k++[p]by rw [Io,hp];rfl)
     clear VB Vy qD Vz k0 k1 k2 k3 k4 hp hpr;go_wp2_with fail
     go_roundw
     case rel=>exact⟨k+1,_,by omega,by go_num,by rw [HE.out,←Zn];exact HL5⟩
     case measure=>simp [intOf];omega
    ·obtain rfl:k=4:=by omega
     have q:(4:Int)≤((4:Nat):Int):=by decide
     have HL3:=J (show KR w g G2 cs2 26 ys ((dS 0 [6]++dS 1 []++ej 2)++ej 3) u1 wr from HL.out)
     clear iE hk HL HCE Wg;have Vz:=J (aT.blk' (rB (kN wr.heap.size) wr 16 _ _ rfl) (Nl wr.heap.size));have tp:=J (oT (kN wr.heap.size) HL3.out.own);have HON:=J (TF wr.heap.size);have HPE:=J (fun w' v'=>Nn (w':=w') (v':=v') HL3.out)
     have dq:=HL3.out.hg;simp only [kN,l_]at Vz tp HPE;go_wp2_with fail;refine ua _ _ _ _ rfl _ i0 _ (wr.heap.size+16) (by simp) TD gF gX (by rw [dw];decide) (by rw [dw];decide) (by rw [dw];exact Nm wr.heap.size _ _ (by rw [Array.toList_map];rfl) (by simp)) ?_
     generalize ga wr.heap.size=rc at *;go_wp2_with (at_builtin;go_must (refine aU _ rfl _ _ 33 rfl g 36 i0 _ 5 72 TD gF gX dw eU rfl (by decide) _ _ _ rfl tp.out _ _ _ _ _ rfl Vz.out HON.out (by rw [HMX.out];decide) (by decide) (by simp;omega) ?_))
     intro v7 w7 ho7 ahm _;have HE:=J (HPE.out w7 v7 ho7 ahm);clear ho7 ahm Vz tp HON HPE;go_wp2_with fail;go_ret;exact⟨_,rfl,HE.out.1,HE.out.2⟩
end Go.Proofs.YtcpmiplofbfmfaaGreatDoor
