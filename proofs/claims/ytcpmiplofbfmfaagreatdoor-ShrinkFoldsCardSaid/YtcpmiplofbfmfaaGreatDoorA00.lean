/- Words for memory: a slice that reads as a list, a block know -/
import Derived.Deep.AppendLies
import Derived.Deep.OwnRows
import Derived.WalkSpells
import Derived.WalkLawsBesides
import Derived.Handy
import Derived.Lib.Hide
import Derived.BigQuiet
import Derived.Deep.LoopGhost
import Derived.Test.YtcpmiplofbfmfaaGreatDoorAl
set_option linter.all false
namespace Go.Proofs.YtcpmiplofbfmfaaGreatDoor
open Go.RowKit
theorem ak(a:Addr)(n:Nat):(a.add n).block=a.block:=by unfold Addr.add;split<;>rfl
theorem ru(a:Addr)(i j:Nat):(a.add i).add j=a.add (i+j):=by
 unfold Addr.add
 by_cases hi:i=0<;>by_cases hj:j=0<;>simp [hi,hj,Nat.add_assoc]
def aT(w:World)(B size:Nat)(A:Option Addr)(n:Nat)(xs:List Value):Prop:=
 xs.length=n*size∧(0<n→∃ad,A=some ad∧ad.block<B∧∀j u,xs[j]? =some u→w.cell? (ad.add j)=some u)
section
variable {w w':World} {B B' size n:Nat} {A:Option Addr} {xs:List Value}
theorem aT.none_:aT w B size A 0 []:=⟨by simp,fun h=>absurd h (by omega)⟩
theorem aT.at_{k:Nat}(h:aT w B 1 A n xs)(hk:k<n): ∃ad u,A=some ad∧ad.block<B∧xs[k]? =some u∧w.cell? (ad.add k)=some u:=by
 obtain⟨ad,e,hb,hc⟩:=h.2 (by omega)
 have hl:k<xs.length:=by have:=h.1;omega
 exact⟨ad,xs[k],e,hb,zk hl,hc k _ (zk hl)⟩
theorem aT.keep(h:aT w B size A n xs)(hk: ∀p:Addr,p.block<B→w'.cell? p=w.cell? p):aT w' B size A n xs:=
 ⟨h.1,fun hn=>by
  obtain⟨ad,e,hb,hc⟩:=h.2 hn;exact⟨ad,e,hb,fun j u hu=>(hk _ (by rw [ak];exact hb)).trans (hc j u hu)⟩⟩
theorem aT.more(h:aT w B size A n xs)(hB:B≤B'):aT w B' size A n xs:=
 ⟨h.1,fun hn=>by
  obtain⟨ad,e,hb,hc⟩:=h.2 hn;exact⟨ad,e,by omega,hc⟩⟩
theorem aT.below(h:aT w B size A n xs)(hb:Below B w w'):aT w' B size A n xs:=h.keep fun _ hp=>hb.cell hp
theorem aT.drew(h:aT w B size A n xs):aT w.drew B size A n xs:=h
theorem aT.drewN(h:aT w B size A n xs)(k:Nat):aT (w.drewN k) B size A n xs:=h
theorem aT.alloc(h:aT w B size A n xs)(hB:B≤w.heap.size)(o:Obj):aT (w.alloc o) B size A n xs:=h.keep fun p hp=>World.cell?_alloc_lt w o p (by omega)
theorem aT.setCell(h:aT w B size A n xs){p:Addr}(hB:B≤p.block)(u:Value):aT (w.setCell p u) B size A n xs:=
 h.keep fun q hq=>ZF w p q u (fun e=>by subst e;omega)
theorem aT.cut(h:aT w B size A n xs){k cap:Nat}(hk:k≤n)(hc:n≤cap):
 aT w B size (if cap=k then A else A.map (·.add (k*size))) (n-k) (xs.drop (k*size)):=by
 refine⟨by rw [List.length_drop,h.1,Nat.sub_mul],fun hn=> ?_⟩
 obtain⟨ad,rfl,hb,eb⟩:=h.2 (by omega)
 rw [ze (by omega)]
 refine⟨ad.add (k*size),rfl,by rw [ak];exact hb,fun j u hu=> ?_⟩
 rw [ru];exact eb _ u (by rw [←hu,List.getElem?_drop])
theorem aT.of_own{base:Nat}{e:TypeId}{c:Nat}(h:w.ownsRow base e size (.slice A n c) n xs):aT w w.heap.size size A n xs:=by
 refine⟨h.1,fun hn=> ?_⟩
 obtain⟨g,cap,hv,_,bw⟩:=h.form hn;have hA:A=some ⟨g,0,none⟩:=by injection hv
 subst hA;exact⟨_,rfl,bw,h.cells (g:=g) rfl⟩
end
def ai(w:World)(g:Nat)(t:TypeId)(cs:Array Value):Prop:=w.heap[g]? =some (.cells cs t (0,0))
section
variable {w w':World} {g:Nat} {t:TypeId} {cs:Array Value}
theorem ai.lt(h:ai w g t cs):g<w.heap.size:=by
 rcases zj g w.heap.size with bw|iE
 ·exact bw
 ·unfold ai at h;rw [Array.getElem?_eq_none iE]at h;cases h
theorem ai.cell(h:ai w g t cs)(i:Nat):w.cell? ⟨g,i,none⟩=cs[i]? :=cell_of_row w g i cs t (0,0) h
theorem ai.c0{v0:Value}{vs:List Value}(h:ai w g t (v0::vs).toArray):w.cell? ⟨g,0,none⟩=some v0:=(h.cell 0).trans (by simp)
theorem ai.c1{v0 v1:Value}{vs:List Value}(h:ai w g t (v0::v1::vs).toArray):w.cell? ⟨g,1,none⟩=some v1:=(h.cell 1).trans (by simp)
theorem ai.c2{v0 v1 v2:Value}{vs:List Value}(h:ai w g t (v0::v1::v2::vs).toArray):w.cell? ⟨g,2,none⟩=some v2:=(h.cell 2).trans (by simp)
theorem ai.c3{v0 v1 v2 v3:Value}{vs:List Value}(h:ai w g t (v0::v1::v2::v3::vs).toArray):w.cell? ⟨g,3,none⟩=some v3:=(h.cell 3).trans (by simp)
theorem ai.c4{v0 v1 v2 v3 v4:Value}{vs:List Value}(h:ai w g t (v0::v1::v2::v3::v4::vs).toArray):w.cell? ⟨g,4,none⟩=some v4:=(h.cell 4).trans (by simp)
theorem ai.c5{v0 v1 v2 v3 v4 v5:Value}{vs:List Value}(h:ai w g t (v0::v1::v2::v3::v4::v5::vs).toArray):w.cell? ⟨g,5,none⟩=some v5:=(h.cell 5).trans (by simp)
theorem ai.c6{v0 v1 v2 v3 v4 v5 v6:Value}{vs:List Value}(h:ai w g t (v0::v1::v2::v3::v4::v5::v6::vs).toArray):w.cell? ⟨g,6,none⟩=some v6:=(h.cell 6).trans (by simp)
theorem ai.c7{v0 v1 v2 v3 v4 v5 v6 v7:Value}{vs:List Value}(h:ai w g t (v0::v1::v2::v3::v4::v5::v6::v7::vs).toArray):w.cell? ⟨g,7,none⟩=some v7:=(h.cell 7).trans (by simp)
theorem ai.c8{v0 v1 v2 v3 v4 v5 v6 v7 v8:Value}{vs:List Value}(h:ai w g t (v0::v1::v2::v3::v4::v5::v6::v7::v8::vs).toArray):w.cell? ⟨g,8,none⟩=some v8:=(h.cell 8).trans (by simp)
theorem ai.c9{v0 v1 v2 v3 v4 v5 v6 v7 v8 v9:Value}{vs:List Value}(h:ai w g t (v0::v1::v2::v3::v4::v5::v6::v7::v8::v9::vs).toArray):w.cell? ⟨g,9,none⟩=some v9:=(h.cell 9).trans (by simp)
theorem ai.c10{v0 v1 v2 v3 v4 v5 v6 v7 v8 v9 v10:Value}{vs:List Value}(h:ai w g t (v0::v1::v2::v3::v4::v5::v6::v7::v8::v9::v10::vs).toArray):w.cell? ⟨g,10,none⟩=some v10:=(h.cell 10).trans (by simp)
theorem ai.frozen(h:ai w g t cs)(i:Nat):w.frozen? ⟨g,i,none⟩=false:=by
 unfold ai at h;simp [World.frozen?,h]
theorem ai.new(w:World)(t:TypeId)(cs:Array Value):ai (w.alloc (.cells cs t)) w.heap.size t cs:=heap_alloc_new w _
theorem ai.drew(h:ai w g t cs):ai w.drew g t cs:=h
theorem ai.drewN(h:ai w g t cs)(n:Nat):ai (w.drewN n) g t cs:=h
theorem ai.alloc(h:ai w g t cs)(o:Obj):ai (w.alloc o) g t cs:=(Below.heap_alloc w o g h.lt).trans h
theorem ai.set_(h:ai w g t cs)(i:Nat)(u:Value):ai (w.setCell ⟨g,i,none⟩ u) g t (cs.setIfInBounds i u):=by
 unfold ai at h⊢;simp [World.setCell,Array.getElem?_modify,h]
theorem ai.far(h:ai w g t cs){p:Addr}(hp:g≠p.block)(u:Value):ai (w.setCell p u) g t cs:=(Below.heap_setCell w p u g hp).trans h
theorem ai.below{B:Nat}(h:ai w g t cs)(hb:Below B w w')(hg:g<B):ai w' g t cs:=(hb.block g hg).trans h
theorem ai.grown{row:Option Nat}(h:ai w g t cs)(hb:w.grownBy w' row)(hg:some g≠row):ai w' g t cs:=(hb.block g h.lt hg).trans h
theorem ai.ne_{g':Nat}{t':TypeId}{xO:Array Value}(h:ai w g t cs)(h':ai w g' t' xO)(fa:t≠t'):g≠g':=by
 rintro rfl;unfold ai at h h';rw [h]at h';injection h' with h'
 injection h' with _ ht
 exact fa ht
theorem ee{base:Nat}{e:TypeId}{size n:Nat}{v:Value}{xs:List Value}(h:w.ownsRow base e size v n xs)(hg:ai w g t cs)(fa:e≠t):v.ownBlock≠some g:=by
 rcases h.2 with⟨rfl,_⟩|⟨g',cap,Co,rfl,_,hh,_⟩
 ·simp [Value.ownBlock]
 ·intro he
  have:g'=g:=by simpa [Value.ownBlock]using he
  subst this;exact ai.ne_ (t:=e) hh hg fa rfl
end
section
variable {P:Program} (w:World)
theorem si(base:Nat)(t ty e:TypeId)(i:TypeInfo)(size:Nat)(ht:P.underlying t=some (.slice e))(hi:P.info? e=some i)
 (v:Value) (n:Nat) (xs:List Value) (bS:w.ownsRow base e size v n xs) (c:Nat):(Builtin.append_ #[t,t] ty #[v, .slice none 0 c]).run P w= .ok v w:=by
 rcases bS.2 with⟨rfl,rfl⟩|⟨g,cap,Co,rfl,_,_,hnc,_⟩
 ·simp [Builtin.append_,run_underlying ht,sizeOf,typeInfo,hi,Builtin.lenOf,Builtin.firstCells]
 ·simp [Builtin.append_,run_underlying ht,sizeOf,typeInfo,hi,Builtin.lenOf,Builtin.firstCells,hnc,storeCells]
theorem wy(base:Nat)(t ty e:TypeId)(i:TypeInfo)(z:Value)(size bytes:Nat)(ht:P.underlying t=some (.slice e))(hi:P.info? e=some i)(hz:i.zero=some z)
 (xP:i.size=size) (Y4:i.bytes=bytes) (hzs:z.cells.size=size) (dq:0<size)
 (v:Value) (n:Nat) (xs:List Value) (bS:w.ownsRow base e size v n xs)
 (B:Nat) (A:Option Addr) (m c:Nat) (ls:List Value) (hr:aT w B size A m ls) (h1: ∀u∈ls,u.oneCell'=true)
 (h63:n+m≤maxLen) (rL:(n+m)*bytes≤140737488355328) (xQ:base≤w.heap.size):
 ∃v' w',(Builtin.append_ #[t,t] ty #[v, .slice A m c]).run P w= .ok v' w'∧w'.ownsRow base e size v' (n+m) (xs++ls)∧w.grownBy w' v.ownBlock∧
  (v'.ownBlock=v.ownBlock∨v'.ownBlock=some w.heap.size):=by
 rcases A with _|ad
 ·have hm:m=0:=by
   rcases zX m with h0|h0
   ·exact h0
   ·obtain⟨ad,h,_⟩:=hr.2 h0
    cases h
  subst hm;have hn:ls=[]:=List.eq_nil_of_length_eq_zero (by simpa using hr.1)
  subst hn;exact⟨v,w,si w base t ty e i size ht hi v n xs bS c,by simpa using bS,World.grownBy.refl w _, .inl rfl⟩
 ·have adX: ∀j u,ls[j]? =some u→w.cell? (ad.add j)=some u:=by
   intro j u hu
   rcases zX m with h0|h0
   ·subst h0
    have hn:ls=[]:=List.eq_nil_of_length_eq_zero (by simpa using hr.1)
    subst hn;simp at hu
   ·obtain⟨QQ,h,_,hc⟩:=hr.2 h0
    injection h with h
    subst h;exact hc j u hu
  obtain⟨v',w',lr,h2,h3,_,h5⟩:=run_append_own_at (P:=P) w base t ty e i z size bytes ht hi hz xP Y4 hzs dq v n xs bS ad m c ls hr.1 adX h1 h63 rL xQ;exact⟨v',w',lr,h2,h3,h5⟩
theorem qJ{o:Oper}{a:Act}{K:Act→World→Prop}{Q:Exit→Act→World→Prop}(s x:Operand)(t:TypeId)
 (ho:o.op= .call {callee:= .builtin .append,args:= #[s,x],argTypes:= #[t,t]})
 (base:Nat) (e:TypeId) (i:TypeInfo) (z:Value) (size bytes:Nat) (ht:P.underlying t=some (.slice e)) (hi:P.info? e=some i) (hz:i.zero=some z)
 (xP:i.size=size) (Y4:i.bytes=bytes) (hzs:z.cells.size=size) (dq:0<size)
 (v:Value) (n:Nat) (xs:List Value) (hs:a.eval s=v) (bS:w.ownsRow base e size v n xs)
 (B:Nat) (A:Option Addr) (m c:Nat) (ls:List Value) (hx:a.eval x= .slice A m c) (hr:aT w B size A m ls) (h1: ∀u∈ls,u.oneCell'=true)
 (h63:n+m≤maxLen) (rL:(n+m)*bytes≤140737488355328) (xQ:base≤w.heap.size)
 (h: ∀v' w',w'.ownsRow base e size v' (n+m) (xs++ls)→w.grownBy w' v.ownBlock→(v'.ownBlock=v.ownBlock∨v'.ownBlock=some w.heap.size)→K (a.put o.dst v') w'):o.wp P a w K Q:=by
 obtain⟨v',w',lr,h2,h3,h4⟩:=wy (P:=P) w base t o.type e i z size bytes ht hi hz xP Y4 hzs dq v n xs bS B A m c ls hr h1 h63 rL xQ;unfold Oper.wp execOp;simp only [ho,resolve,invoke,builtin,Sem.run_bind,Sem.run_pure,Result.andThen_ok,List.map_toArray,List.map_cons,List.map_nil,hs,hx,lr];exact h v' w' h2 h3 h4
theorem aU{JT:Array Oper}{rest:List Oper}{o:Oper}{a:Act}{Q:Exit→Act→World→Prop}(hgd:o.guard=none)(s x:Operand)(t:TypeId)
 (ho:o.op= .call {callee:= .builtin .append,args:= #[s,x],argTypes:= #[t,t]})
 (base:Nat) (e:TypeId) (i:TypeInfo) (z:Value) (size bytes:Nat) (ht:P.underlying t=some (.slice e)) (hi:P.info? e=some i) (hz:i.zero=some z)
 (xP:i.size=size) (Y4:i.bytes=bytes) (hzs:z.cells.size=size) (dq:0<size)
 (v:Value) (n:Nat) (xs:List Value) (hs:a.eval s=v) (bS:w.ownsRow base e size v n xs)
 (B:Nat) (A:Option Addr) (m c:Nat) (ls:List Value) (hx:a.eval x= .slice A m c) (hr:aT w B size A m ls) (h1: ∀u∈ls,u.oneCell'=true)
 (h63:n+m≤maxLen) (rL:(n+m)*bytes≤140737488355328) (xQ:base≤w.heap.size)
 (h: ∀v' w',w'.ownsRow base e size v' (n+m) (xs++ls)→w.grownBy w' v.ownBlock→(v'.ownBlock=v.ownBlock∨v'.ownBlock=some w.heap.size)→wpList P JT Q rest (a.put o.dst v') w'):wpList P JT Q (o::rest) a w:=
 wpList_plain hgd fun _ hK=>qJ w s x t ho base e i z size bytes ht hi hz xP Y4 hzs dq v n xs hs bS B A m c ls hx hr h1 h63 rL xQ fun v' w' h2 h3 h4=>hK _ _ (h v' w' h2 h3 h4)
theorem cQ{JT:Array Oper}{o:Oper}{a:Act}{K:Act→World→Prop}{Q:Exit→Act→World→Prop}{E:Prop}(hgd:o.guard=none)(s x:Operand)(t:TypeId)
 (ho:o.op= .call {callee:= .builtin .append,args:= #[s,x],argTypes:= #[t,t]})
 (base:Nat) (e:TypeId) (i:TypeInfo) (z:Value) (size bytes:Nat) (ht:P.underlying t=some (.slice e)) (hi:P.info? e=some i) (hz:i.zero=some z)
 (xP:i.size=size) (Y4:i.bytes=bytes) (hzs:z.cells.size=size) (dq:0<size)
 (v:Value) (n:Nat) (xs:List Value) (hs:a.eval s=v) (bS:w.ownsRow base e size v n xs)
 (B:Nat) (A:Option Addr) (m c:Nat) (ls:List Value) (hx:a.eval x= .slice A m c) (hr:aT w B size A m ls) (h1: ∀u∈ls,u.oneCell'=true)
 (h63:n+m≤maxLen) (rL:(n+m)*bytes≤140737488355328) (xQ:base≤w.heap.size)
 (h: ∀v' w',w'.ownsRow base e size v' (n+m) (xs++ls)→w.grownBy w' v.ownBlock→(v'.ownBlock=v.ownBlock∨v'.ownBlock=some w.heap.size)→K (a.put o.dst v') w'):
 if Region.wanted o (yielded JT a.tmps)=true then Oper.wp P o a w K Q else E:=by
 have hw:Region.wanted o (yielded JT a.tmps)=true:=by simp [Region.wanted,hgd]
 rw [zh hw];exact qJ w s x t ho base e i z size bytes ht hi hz xP Y4 hzs dq v n xs hs bS B A m c ls hx hr h1 h63 rL xQ h
end
theorem below_drewN{B:Nat}{a w:World}(h:Below B a w)(n:Nat):Below B a (w.drewN n):=⟨h.os,h.tape,h.output,h.size,h.block⟩
theorem Gi{a w:World}{row:Option Nat}(h:a.grownBy w row)(n:Nat):a.grownBy (w.drewN n) row:=⟨h.os,h.tape,h.output,h.size,h.block⟩
theorem nt{a w:World}{g:Nat}(h:a.grownBy w (some g)){p:Addr}(hp:p.block=g∨a.heap.size≤p.block)(u:Value):a.grownBy (w.setCell p u) (some g):=
 ⟨h.os,h.tape,h.output,by simpa [World.setCell]using h.size,fun i hi fa=>(Below.heap_setCell w p u i (by
  rintro rfl
  rcases hp with hp|hp
  ·exact fa (by rw [hp])
  ·omega)).trans (h.block i hi fa)⟩
theorem jf{a w:World}(h:Below a.heap.size a w)(row:Option Nat):a.grownBy w row:=⟨h.os,h.tape,h.output,h.size,fun i hi _=>h.block i hi⟩
end Go.Proofs.YtcpmiplofbfmfaaGreatDoor
namespace LamM
structure Ky where
 k:Int
 i:Int
 t:List UInt8
structure Tm where
 k:Int
 n:Int
 i:Int
 b:Int
 t:List UInt8
 vars:List Int
 keys:List Ky
 args:List Int
structure Pm where
 args:Int
 raises:List Int
def VZ(f:Nat→Bool)(a:Nat):Nat→Bool:=fun j=>(j==a)||f j
def iO(i:Nat):List Int→(Nat→Bool)×Bool→(Nat→Bool)×Bool
 |[],s=>s
 |a::l,s=>iO i l (if a<0∨(i:Int)≤a then(s.1,false)else(VZ s.1 a.toNat,s.2))
def oR(L:List Tm)(i:Nat):List Int:=match L[i]?with|some t=>t.args|none=>[]
def fq(L:List Tm):Nat→(Nat→Bool)×Bool→(Nat→Bool)×Bool
 |0,s=>s
 |i+1,s=>fq L i (if s.1 i then iO i (oR L i) s else s)
def ay(L:List Tm)(aJ:Nat):(Nat→Bool)×Bool:=fq L (aJ+1) (VZ (fun _=>false) aJ,true)
theorem Tt{f:Nat→Bool}{a m:Nat}(h: ∀j,f j=true→j≤m)(ha:a≤m): ∀j,VZ f a j=true→j≤m:=fun j hj=>by
 unfold VZ at hj
 rcases Bool.or_eq_true_iff.1 hj with h1|h1
 ·have:=Zr.1 h1;omega
 ·exact h j h1
theorem DH(i m:Nat)(hi:i≤m): ∀(l:List Int) (s:(Nat→Bool)×Bool),(∀j,s.1 j=true→j≤m)→∀j,(iO i l s).1 j=true→j≤m
 |[],s,h=>h
 |a::l,s,h=>by
  unfold iO;refine DH i m hi l _ ?_
  split
  ·exact h
  ·exact Tt h (by omega)
theorem Aj(L:List Tm)(m:Nat): ∀(k:Nat) (s:(Nat→Bool)×Bool),k≤m+1→(∀j,s.1 j=true→j≤m)→∀j,(fq L k s).1 j=true→j≤m
 |0,s,_,h=>h
 |k+1,s,hk,h=>by
  unfold fq;refine Aj L m k _ (by omega) ?_
  split
  ·exact DH k m (by omega) _ _ h
  ·exact h
theorem below_le(L:List Tm)(aJ j:Nat)(h:(ay L aJ).1 j=true):j≤aJ:=
 Aj L aJ (aJ+1) _ (za _) (Tt (fun _ h=>by cases h) (za _)) j h
theorem DI(i:Nat): ∀(l:List Int) (s:(Nat→Bool)×Bool) (j:Nat),i≤j→(iO i l s).1 j=s.1 j
 |[],_,_,_=>rfl
 |a::l,s,j,h=>by
  unfold iO;rw [DI i l _ j h]
  split
  ·rfl
  ·next hc=>
   show VZ s.1 a.toNat j=s.1 j;unfold VZ;rw [show(j==a.toNat)=false from zf.2 (by omega),Bool.false_or]
theorem Ak(L:List Tm): ∀(k:Nat) (s:(Nat→Bool)×Bool) (j:Nat),k≤j+1→(fq L k s).1 j=s.1 j
 |0,_,_,_=>rfl
 |k+1,s,j,h=>by
  unfold fq;rw [Ak L k _ j (by omega)]
  split
  ·exact DI k _ _ j (by omega)
  ·rfl
theorem t9(i:Nat): ∀(l:List Int) (s:(Nat→Bool)×Bool),s.2=false→(iO i l s).2=false
 |[],_,h=>h
 |a::l,s,h=>by
  unfold iO;refine t9 i l _ ?_
  split
  ·rfl
  ·exact h
theorem xb(L:List Tm): ∀(k:Nat) (s:(Nat→Bool)×Bool),s.2=false→(fq L k s).2=false
 |0,_,h=>h
 |k+1,s,h=>by
  unfold fq;refine xb L k _ ?_
  split
  ·exact t9 k _ _ h
  ·exact h
theorem DJ(i:Nat): ∀(l:List Int) (s:(Nat→Bool)×Bool),(iO i l s).2=true→∀a∈l,0≤a∧a<(i:Int)
 |[],_,_,a,h=>by cases h
 |a::l,s,h,x,hx=>by
  unfold iO at h
  by_cases hc:a<0∨(i:Int)≤a
  ·rw [zh hc,t9 i l _ rfl]at h;cases h
  ·rcases zx.1 hx with rfl|hx
   ·omega
   ·exact DJ i l _ h x hx
theorem Al(L:List Tm): ∀(k:Nat) (s:(Nat→Bool)×Bool),(fq L k s).2=true→∀i,i<k→(fq L k s).1 i=true→∀a∈oR L i,0≤a∧a<(i:Int)
 |0,_,_,i,hi,_=>by omega
 |k+1,s,h,i,hi,hm=>by
  unfold fq at h hm
  rcases zj i k with h1|h1
  ·exact Al L k _ h i h1 hm
  ·obtain rfl:i=k:=by omega
   rw [Ak L i _ i (by omega)]at hm
   have hs:s.1 i=true:=by
    cases hb:s.1 i
    ·rw [hb]at hm;simp at hm;rw [hb]at hm;cases hm
    ·rfl
   rw [hs,zh rfl]at h;intro a ha
   have h2:(iO i (oR L i) s).2=true:=by
    cases hc:(iO i (oR L i) s).2
    ·rw [xb L i _ hc]at h;cases h
    ·rfl
   exact DJ i _ s h2 a ha
theorem Tu(L:List Tm)(aJ:Nat)(h:(ay L aJ).2=true)(i:Nat)(hm:(ay L aJ).1 i=true): ∀a∈oR L i,0≤a∧a<(i:Int):=
 Al L (aJ+1) _ h i (by have:=below_le L aJ i hm;omega) hm
abbrev SS(l:List Int):Prop:=l.Pairwise (· < ·)
theorem dy{x:Int}{l:List Int}:SS (x::l)↔(∀y∈l,x<y)∧SS l:=List.pairwise_cons
theorem xd: ∀{l m:List Int},SS l→SS m→(∀x,x∈l↔x∈m)→l=m
 |[],[],_,_,_=>rfl
 |[],y::m,_,_,h=>by have:=(h y).2 ZS;cases this
 |x::l,[],_,_,h=>by have:=(h x).1 ZS;cases this
 |x::l,y::m,hl,hm,h=>by
  obtain⟨l1,l2⟩:=dy.1 hl;obtain⟨m1,m2⟩:=dy.1 hm
  have hxy:x=y:=by
   rcases zx.1 ((h x).1 ZS)with e|e
   ·exact e
   ·rcases zx.1 ((h y).2 ZS)with e2|e2
    ·exact e2.symm
    ·have:=m1 x e;have:=l1 y e2;omega
  subst hxy;rw [xd l2 m2 (fun z=> ?_)]
  have hz:=h z;rw [zx,zx]at hz
  constructor
  ·intro dw
   rcases hz.1 (.inr dw)with e|e
   ·have:=l1 z dw;omega
   ·exact e
  ·intro dw
   rcases hz.2 (.inr dw)with e|e
   ·have:=m1 z dw;omega
   ·exact e
def V0(v:Int):List Int→List Int
 |[]=>[v]
 |x::s=>if v<x then v::x::s else if v=x then x::s else x::V0 v s
theorem BD(v x:Int): ∀s:List Int,x∈V0 v s↔x=v∨x∈s
 |[]=>by simp [V0]
 |y::s=>by
  unfold V0
  split
  ·simp
  ·split
   ·next h=>subst h;simp
   ·rw [zx,BD v x s,zx]
    constructor
    ·rintro(h|h|h)
     ·exact .inr (.inl h)
     ·exact .inl h
     ·exact .inr (.inr h)
    ·rintro(h|h|h)
     ·exact .inr (.inl h)
     ·exact .inl h
     ·exact .inr (.inr h)
theorem Tv(v:Int): ∀{s:List Int},SS s→SS (V0 v s)
 |[],_=>by simp [V0,SS]
 |y::s,h=>by
  obtain⟨h1,h2⟩:=dy.1 h;unfold V0
  split
  ·next hv=>exact dy.2 ⟨fun z hz=>by rcases zx.1 hz with rfl|hz;exact hv;have:=h1 z hz;omega,h⟩
  ·split
   ·exact h
   ·next hv hv2=>
    refine dy.2 ⟨fun z hz=> ?_,Tv v h2⟩
    rcases(BD v z s).1 hz with rfl|hz
    ·omega
    ·exact h1 z hz
def uS(a b:List Int):List Int:=b.foldl (fun s v=>V0 v s) a
theorem nB: ∀(b:List Int) {a:List Int},SS a→SS (uS a b)
 |[],_,h=>h
 |v::b,_,h=>nB b (Tv v h)
theorem j4(x:Int): ∀(b a:List Int),x∈uS a b↔x∈a∨x∈b
 |[],a=>by simp [uS]
 |v::b,a=>by
  show x∈uS (V0 v a) b↔_;rw [j4 x b (V0 v a),BD,zx]
  constructor
  ·rintro((h|h)|h)
   ·exact .inr (.inl h)
   ·exact .inl h
   ·exact .inr (.inr h)
  ·rintro(h|h|h)
   ·exact .inl (.inr h)
   ·exact .inl (.inl h)
   ·exact .inr h
theorem KO(a:List Int):uS a []=a:=rfl
theorem BE{b:List Int}(h:SS b):uS [] b=b:=xd (nB b (by simp [SS])) h fun x=>by rw [j4];simp
theorem acN{x y:Int}{a b:List Int}(ha:SS (x::a))(hb:SS (y::b))(h:x<y):uS (x::a) (y::b)=x::uS a (y::b):=by
 obtain⟨a1,a2⟩:=dy.1 ha;obtain⟨b1,b2⟩:=dy.1 hb;refine xd (nB _ ha) (dy.2 ⟨fun z hz=> ?_,nB _ a2⟩) fun z=> ?_
 ·rcases(j4 z _ _).1 hz with h1|h1
  ·exact a1 z h1
  ·rcases zx.1 h1 with rfl|h1
   ·exact h
   ·have:=b1 z h1;omega
 ·simp only [j4,zx,or_assoc]
theorem acO{x y:Int}{a b:List Int}(ha:SS (x::a))(hb:SS (y::b))(h:y<x):uS (x::a) (y::b)=y::uS (x::a) b:=by
 obtain⟨a1,a2⟩:=dy.1 ha;obtain⟨b1,b2⟩:=dy.1 hb;refine xd (nB _ ha) (dy.2 ⟨fun z hz=> ?_,nB _ ha⟩) fun z=> ?_
 ·rcases(j4 z _ _).1 hz with h1|h1
  ·rcases zx.1 h1 with rfl|h1
   ·exact h
   ·have:=a1 z h1;omega
  ·exact b1 z h1
 ·simp only [j4,zx]
  constructor
  ·rintro((h|h)|h|h)
   ·exact .inr (.inl (.inl h))
   ·exact .inr (.inl (.inr h))
   ·exact .inl h
   ·exact .inr (.inr h)
  ·rintro(h|(h|h)|h)
   ·exact .inr (.inl h)
   ·exact .inl (.inl h)
   ·exact .inl (.inr h)
   ·exact .inr (.inr h)
theorem acP{x:Int}{a b:List Int}(ha:SS (x::a))(hb:SS (x::b)):uS (x::a) (x::b)=x::uS a b:=by
 obtain⟨a1,a2⟩:=dy.1 ha;obtain⟨b1,b2⟩:=dy.1 hb;refine xd (nB _ ha) (dy.2 ⟨fun z hz=> ?_,nB _ a2⟩) fun z=> ?_
 ·rcases(j4 z _ _).1 hz with h1|h1
  ·exact a1 z h1
  ·exact b1 z h1
 ·simp only [j4,zx]
  constructor
  ·rintro((h|h)|h|h)
   ·exact .inl h
   ·exact .inr (.inl h)
   ·exact .inl h
   ·exact .inr (.inr h)
  ·rintro(h|h|h)
   ·exact .inl (.inl h)
   ·exact .inl (.inr h)
   ·exact .inr (.inr h)
def oe(s b:List Int):List Int:=s.filter fun v=> !b.contains v
theorem Ye{s:List Int}(b:List Int)(h:SS s):SS (oe s b):=List.Pairwise.filter _ h
def fP(y:Ky):Bool:=y.k==1||y.k==2||(y.k==3&&decide (y.t.length≤65536))
end LamM
namespace CpsM
open LamM
structure Fl where
 k:Int
 n:Int
 m:Int
 i:Int
 b:Int
 t:List UInt8
 vars:List Int
 keys:List Ky
 args:List Int
def Fl.tm(f:Fl):Tm:=⟨f.k,f.n,f.i,f.b,f.t,f.vars,f.keys,f.args⟩
def nR(L:List Fl):List Tm:=L.map Fl.tm
theorem Wz(L:List Fl):(nR L).length=L.length:=by unfold nR;simp
theorem abV{L:List Fl}{i:Nat}{t:Fl}(h:L[i]? =some t):(nR L)[i]? =some t.tm:=by unfold nR;rw [zT,h];rfl
theorem Cx{L:List Fl}{i:Nat}{t:Fl}(h:L[i]? =some t):oR (nR L) i=t.args:=by unfold oR;rw [abV h];rfl
def qZ(L:List Fl)(aJ:Nat):(Nat→Bool)×Bool:=ay (nR L) aJ
def gh(k:Int):Bool:=decide (1≤k)&&decide (k≤4)
def gv(k:Int):Bool:=decide (5≤k)&&decide (k≤14)&&decide (k≠10)
def cV(L:List Fl)(a:Int):Int:=match L[a.toNat]?with|some u=>u.k|none=>0
def dG(L:List Fl)(l:List Int):Bool:=l.all fun a=>gh (cV L a)
def dQ(L:List Fl)(l:List Int):Bool:=l.all fun a=>gv (cV L a)
theorem oy{L:List Fl}{a:Int}{t:Fl}(h:L[a.toNat]? =some t):cV L a=t.k:=by unfold cV;rw [h]
def uA:List Int→List Int→Bool
 |_,[]=>true
 |seen,v::r=> !(decide (v<0)||seen.contains v)&&uA (seen++[v]) r
def Cy(l:List Int):Bool:=uA [] l&&decide (l.length≤64)
def q_(L:List Fl):List Int→List Int→Bool
 |v::vs,a::a_=> !(decide (v<0)||cV L a !=10)&&q_ L vs a_
 |[],_=>true
 |_::_,[]=>false
def v_(L:List Fl)(t:Fl):Bool:=decide (t.vars.length≠0∧t.args.length=t.vars.length+1)&&(dQ L (t.args.drop t.vars.length)&&q_ L t.vars t.args)
def bK(L:List Fl)(t:Fl):Bool:=
 if t.k=1 then decide (t.args.length=0∧0≤t.n)
 else if t.k=2 then decide (t.args.length=0∧ -4611686018427387904≤t.i∧t.i≤4611686018427387903)
 else if t.k=3 then decide (t.args.length=0)
 else if t.k=4 then decide (t.args.length=0∧t.t.length≤65536)
 else if t.k=5 then decide (2≤t.args.length∧t.args.length≤1025∧0≤t.n)&&(dG L (t.args.take (t.args.length-1))&&dQ L (t.args.drop (t.args.length-1)))
 else if t.k=6∨t.k=7 then decide (t.args.length=2∧0≤t.n∧0≤t.m)&&(dG L (t.args.take 1)&&dQ L (t.args.drop 1))
 else if t.k=8 then decide (0≤t.n)
 else if t.k=9 then v_ L t
 else if t.k=10 then decide (t.args.length=1)&&(Cy t.vars&&dQ L t.args)
 else if t.k=11 then decide (1≤t.args.length∧t.args.length≤65)&&dG L t.args
 else if t.k=12 then decide (t.args.length=1+t.keys.length∨t.args.length=2+t.keys.length)&&(t.keys.all fP&&(dG L (t.args.take 1)&&dQ L (t.args.drop 1)))
 else if t.k=13∨t.k=14 then decide (t.args.length=1)&&dG L t.args
 else false
def pJ(p:Pm):Int:=p.args+1+(if p.raises.length=0 then 0 else 1)
def eV(bD:List Pm)(t:Fl):Bool:=decide (0≤t.m)&&(match bD[t.m.toNat]?with|some p=>decide ((t.args.length:Int)=pJ p)|none=>false)
def rd(bD:List Pm)(L:List Fl)(t:Fl):Bool:=decide (t.k≠8)|| !eV bD t||(match bD[t.m.toNat]?with|some p=>dG L (t.args.take p.args.toNat)&&dQ L (t.args.drop p.args.toNat)|none=>true)
def jc(bD:List Pm)(L:List Fl)(t:Fl):Bool:=bK L t&&rd bD L t
def nS(bD:List Pm)(t:Fl):Bool:=decide (t.k≠8)||eV bD t
def jD(P:Fl→Bool)(inb:Nat→Bool)(L:List Fl):Nat→Bool
 |0=>true
 |i+1=>jD P inb L i&&(!inb i||(match L[i]?with|some t=>P t|none=>true))
theorem oz(P:Fl→Bool)(inb:Nat→Bool)(L:List Fl)(m:Nat)(h: ∀j,inb j=true→j<m): ∀k,jD P inb L (m+k)=jD P inb L m
 |0=>rfl
 |k+1=>by
  show(jD P inb L (m+k)&&_)=_;rw [oz P inb L m h k]
  have:inb (m+k)=false:=by
   cases hb:inb (m+k)
   ·rfl
   ·have:=h _ hb;omega
  rw [show m.add k=m+k from rfl,this];simp
theorem FH{P:Fl→Bool}{inb:Nat→Bool}{L:List Fl}: ∀{i m:Nat},i≤m→jD P inb L i=false→jD P inb L m=false
 |i,m,h,hf=>by
  obtain⟨k,rfl⟩: ∃k,m=i+k:=⟨m-i,by omega⟩
  clear h
  induction k with
  |zero=>exact hf
  |succ k ih=>
   show(jD P inb L (i+k)&&_)=false;rw [ih,Ib]
def eW(t:Fl):List Int:=if t.k=5∨t.k=6∨t.k=7∨t.k=8 then [t.n]else if t.k=9∨t.k=10 then t.vars else []
def dX(L:List Fl)(F:Nat→List Int)(t:Fl)(i:Nat):List Int→List Int→List Int
 |[],rI=>rI
 |a::l,rI=>dX L F t i l (if a<0∨(i:Int)≤a then rI else uS rI (if gh (cV L a)then F a.toNat else oe (F a.toNat) (eW t)))
def fj(t:Fl):List Int:=if t.k=1 then [t.n]else []
def j9(inb:Bool)(L:List Fl)(F:Nat→List Int)(t:Fl)(i:Nat):List Int:=if inb then dX L F t i t.args (fj t)else []
def cU(inb:Nat→Bool)(L:List Fl):Nat→Nat→List Int
 |0,_=>[]
 |i+1,j=>if j=i then(match L[i]?with|some t=>j9 (inb i) L (cU inb L i) t i|none=>[])else cU inb L i j
def lz(L:List Fl)(aJ:Nat):List Int:=cU (qZ L aJ).1 L (aJ+1) aJ
def m_(bD:List Pm)(L:List Fl)(aJ:Int):Int:=
 if aJ<0∨(L.length:Int)≤aJ then 130
 else if gv (cV L aJ)=false then 130
 else if(qZ L aJ.toNat).2=false then 130
 else if jD (jc bD L) (qZ L aJ.toNat).1 L (aJ.toNat+1)=false then 130
 else if jD (nS bD) (qZ L aJ.toNat).1 L (aJ.toNat+1)=false then 112
 else if 262144<L.length then 3
 else if lz L aJ.toNat=[]then 0
 else 111
end CpsM
namespace Go.Proofs.YtcpmiplofbfmfaaGreatDoor
open Go.RowKit LamM
theorem be{a b:Int}(h:a=b):(a==b)=true:=Zr.2 h
theorem ag{a b:Int}(h:a≠b):(a==b)=false:=zf.2 h
theorem oS{a b:Int}(h:a≠b):(a !=b)=true:=by unfold bne;rw [ag h];rfl
theorem f_{a b:Int}(h:a=b):(a !=b)=false:=by unfold bne;rw [be h];rfl
theorem eA(s:List UInt8):(ByteArray.mk s.toArray).size=s.length:=by simp [ByteArray.size]
theorem Nh(w:World)(o o':Obj):Below w.heap.size w ((w.alloc o).alloc o'):=((zg _ _).alloc (za _) o).alloc (by simp) o'
theorem jj{w:World}{p:Addr}{v:Value}(h:w.cell? p=some v):p.block<w.heap.size:=by
 rcases zj p.block w.heap.size with h1|h1
 ·exact h1
 ·unfold World.cell? at h
  rw [Array.getElem?_eq_none h1]at h;simp at h
theorem acR{B n c:Nat}: ∀k,(Value.slice (some ⟨B,0,none⟩) n c).ownBlock=some k→B≤k:=fun _ h=>Nat.le_of_eq (zz h)
def aZ(l:List Int):List Value:=l.map fun x=> .int .i64 x
def fz(l:List Ky):List Value:=l.flatMap fun y=>[.int .i64 y.k, .int .i64 y.i, .string ⟨y.t.toArray⟩]
def IV(w:World)(B:Nat)(v:Value)(l:List Int):Prop:= ∃A c,v= .slice A l.length c∧l.length≤c∧c≤maxLen∧aT w B 1 A l.length (aZ l)
def KV(w:World)(B:Nat)(v:Value)(l:List Ky):Prop:= ∃A c,v= .slice A l.length c∧l.length≤c∧c≤maxLen∧aT w B 3 A l.length (fz l)
def acS(t:Tm)(vv kv av:Value):List Value:=[.int .i64 t.k, .int .i64 t.n, .int .i64 t.i, .int .u64 t.b, .string ⟨t.t.toArray⟩,vv,kv,av]
structure TV(w:World)(B:Nat)(t:Tm)(vv kv av:Value):Prop where
 v:IV w B vv t.vars
 k:KV w B kv t.keys
 a:IV w B av t.args
 rk: -9223372036854775808≤t.k∧t.k≤9223372036854775807
 rn: -9223372036854775808≤t.n∧t.n≤9223372036854775807
 ri: -9223372036854775808≤t.i∧t.i≤9223372036854775807
 ra: ∀x∈t.args, -9223372036854775808≤x∧x≤9223372036854775807
 rv: ∀x∈t.vars, -9223372036854775808≤x∧x≤9223372036854775807
 lv:t.vars.length≤17592186044416
 lk:t.keys.length≤17592186044416
 la:t.args.length≤17592186044416
def NV(w:World)(B:Nat)(v:Value)(L:List Tm):Prop:=
 ∃A c,v= .slice A L.length c∧L.length≤c∧c≤1300000000000∧∀i t,L[i]? =some t→∃ad vv kv av,A=some ad∧ad.block<B∧TV w B t vv kv av∧∀j u,(acS t vv kv av)[j]? =some u→w.cell? (ad.add (i*8+j))=some u
section
variable {w w':World} {B:Nat}
theorem IV.keep{v:Value}{l:List Int}(h:IV w B v l)(hk: ∀p:Addr,p.block<B→w'.cell? p=w.cell? p):IV w' B v l:=by
 obtain⟨A,c,e,h1,h2,h3⟩:=h;exact⟨A,c,e,h1,h2,h3.keep hk⟩
theorem KV.keep{v:Value}{l:List Ky}(h:KV w B v l)(hk: ∀p:Addr,p.block<B→w'.cell? p=w.cell? p):KV w' B v l:=by
 obtain⟨A,c,e,h1,h2,h3⟩:=h;exact⟨A,c,e,h1,h2,h3.keep hk⟩
theorem TV.keep{t:Tm}{vv kv av:Value}(h:TV w B t vv kv av)(hk: ∀p:Addr,p.block<B→w'.cell? p=w.cell? p):TV w' B t vv kv av:=
 ⟨h.v.keep hk,h.k.keep hk,h.a.keep hk,h.rk,h.rn,h.ri,h.ra,h.rv,h.lv,h.lk,h.la⟩
theorem NV.keep{v:Value}{L:List Tm}(h:NV w B v L)(hk: ∀p:Addr,p.block<B→w'.cell? p=w.cell? p):NV w' B v L:=by
 obtain⟨A,c,e,h1,h2,h3⟩:=h;refine⟨A,c,e,h1,h2,fun i t ht=> ?_⟩
 obtain⟨ad,vv,kv,av,hA,hb,x9,hc⟩:=h3 i t ht;exact⟨ad,vv,kv,av,hA,hb,x9.keep hk,fun j u hu=>(hk _ (by rw [ak];exact hb)).trans (hc j u hu)⟩
theorem IV.at_{A:Option Addr}{n c:Nat}{l:List Int}(h:IV w B (.slice A n c) l){j:Nat}{x:Int}(hj:l[j]? =some x): ∃ad,A=some ad∧ad.block<B∧w.cell? (ad.add j)=some (.int .i64 x):=by
 obtain⟨A',c',e,_,_,hr⟩:=h;injection e with e1 e2 e3
 subst e1 e3;have bw:j<l.length:=(zq.1 hj).1;obtain⟨ad,hA,hb,hc⟩:=hr.2 (by omega)
 exact⟨ad,hA,hb,hc j _ (by unfold aZ;rw [zT,hj];rfl)⟩
theorem IV.len{v:Value}{l:List Int}(h:IV w B v l): ∃A c,v= .slice A l.length c∧l.length≤c∧c≤maxLen:=by
 obtain⟨A,c,e,h1,h2,_⟩:=h;exact⟨A,c,e,h1,h2⟩
theorem NV.at_{A:Option Addr}{n c:Nat}{L:List Tm}(h:NV w B (.slice A n c) L){i:Nat}{t:Tm}(hi:L[i]? =some t):
 ∃ad vv kv av,A=some ad∧ad.block<B∧TV w B t vv kv av∧w.cell? (ad.add (i*8))=some (.int .i64 t.k)∧w.cell? (ad.add (i*8+1))=some (.int .i64 t.n)∧w.cell? (ad.add (i*8+2))=some (.int .i64 t.i)∧
  w.cell? (ad.add (i*8+3))=some (.int .u64 t.b)∧w.cell? (ad.add (i*8+4))=some (.string ⟨t.t.toArray⟩)∧w.cell? (ad.add (i*8+5))=some vv∧w.cell? (ad.add (i*8+6))=some kv∧w.cell? (ad.add (i*8+7))=some av:=by
 obtain⟨A',c',e,_,_,h3⟩:=h;injection e with e1 e2 e3
 subst e1 e3;obtain⟨ad,vv,kv,av,hA,hb,ht,hc⟩:=h3 i t hi;exact⟨ad,vv,kv,av,hA,hb,ht,hc 0 _ rfl,hc 1 _ rfl,hc 2 _ rfl,hc 3 _ rfl,hc 4 _ rfl,hc 5 _ rfl,hc 6 _ rfl,hc 7 _ rfl⟩
theorem NV.len{v:Value}{L:List Tm}(h:NV w B v L): ∃A c,v= .slice A L.length c∧L.length≤c∧c≤1300000000000:=by
 obtain⟨A,c,e,h1,h2,_⟩:=h;exact⟨A,c,e,h1,h2⟩
end
def dJ(n:Nat)(f:Nat→Bool):List Value:=(List.range n).map fun i=> .bool (f i)
theorem nC(n:Nat)(f:Nat→Bool):(dJ n f).length=n:=by unfold dJ;simp
theorem eY{n i:Nat}{f:Nat→Bool}(h:i<n):(dJ n f)[i]? =some (.bool (f i)):=by unfold dJ;simp [h]
theorem sD{n j:Nat}{f:Nat→Bool}(_:j<n):(dJ n f).set j (.bool true)=dJ n (VZ f j):=by
 apply ZY;intro i
 rcases zj i n with h|h
 ·rw [List.getElem?_set,eY h,eY h]
  unfold VZ
  by_cases e:j=i
  ·subst e;simp [nC,h]
  ·rw [ze e];simp [show¬i=j from fun x=>e x.symm]
 ·rw [zK (by rw [List.length_set,nC];exact h),zK (by rw [nC];exact h)]
theorem yw(n:Nat):(madeCells #[Value.bool false] n).toList=dJ n (fun _=>false):=by
 rw [toList_madeCells_one];unfold dJ;simp [List.map_const']
open Go.RowKit LamM CpsM
def cG(t:Fl)(vv kv av:Value):List Value:=[.int .i64 t.k, .int .i64 t.n, .int .i64 t.m, .int .i64 t.i, .int .u64 t.b, .string ⟨t.t.toArray⟩,vv,kv,av]
structure FV(w:World)(B:Nat)(t:Fl)(vv kv av:Value):Prop where
 v:IV w B vv t.vars
 k:KV w B kv t.keys
 a:IV w B av t.args
 rk: -9223372036854775808≤t.k∧t.k≤9223372036854775807
 rn: -9223372036854775808≤t.n∧t.n≤9223372036854775807
 rm: -9223372036854775808≤t.m∧t.m≤9223372036854775807
 ri: -9223372036854775808≤t.i∧t.i≤9223372036854775807
 ra: ∀x∈t.args, -9223372036854775808≤x∧x≤9223372036854775807
 rv: ∀x∈t.vars, -9223372036854775808≤x∧x≤9223372036854775807
 lv:t.vars.length≤17592186044416
 lk:t.keys.length≤17592186044416
 la:t.args.length≤17592186044416
def NF(w:World)(B:Nat)(v:Value)(L:List Fl):Prop:=
 ∃A c,v= .slice A L.length c∧L.length≤c∧L.length≤1300000000000∧∀i t,L[i]? =some t→∃ad vv kv av,A=some ad∧ad.block<B∧FV w B t vv kv av∧∀j u,(cG t vv kv av)[j]? =some u→w.cell? (ad.add (i*9+j))=some u
section
variable {w w':World} {B B':Nat}
theorem J8{v:Value}{l:List Int}(h:IV w B v l)(hB:B≤B'):IV w B' v l:=by
 obtain⟨A,c,e,h1,h2,h3⟩:=h;exact⟨A,c,e,h1,h2,h3.more hB⟩
theorem WB{v:Value}{l:List Ky}(h:KV w B v l)(hB:B≤B'):KV w B' v l:=by
 obtain⟨A,c,e,h1,h2,h3⟩:=h;exact⟨A,c,e,h1,h2,h3.more hB⟩
theorem FV.keep{t:Fl}{vv kv av:Value}(h:FV w B t vv kv av)(hk: ∀p:Addr,p.block<B→w'.cell? p=w.cell? p):FV w' B t vv kv av:=
 ⟨h.v.keep hk,h.k.keep hk,h.a.keep hk,h.rk,h.rn,h.rm,h.ri,h.ra,h.rv,h.lv,h.lk,h.la⟩
theorem FV.more{t:Fl}{vv kv av:Value}(h:FV w B t vv kv av)(hB:B≤B'):FV w B' t vv kv av:=
 ⟨J8 h.v hB,WB h.k hB,J8 h.a hB,h.rk,h.rn,h.rm,h.ri,h.ra,h.rv,h.lv,h.lk,h.la⟩
theorem FV.below{t:Fl}{vv kv av:Value}(h:FV w w.heap.size t vv kv av)(hb:Below w.heap.size w w'):FV w' w'.heap.size t vv kv av:=
 (h.keep (fun _ hp=>hb.cell hp)).more hb.size
theorem NF.keep{v:Value}{L:List Fl}(h:NF w B v L)(hk: ∀p:Addr,p.block<B→w'.cell? p=w.cell? p):NF w' B v L:=by
 obtain⟨A,c,e,h1,h2,h3⟩:=h;refine⟨A,c,e,h1,h2,fun i t ht=> ?_⟩
 obtain⟨ad,vv,kv,av,hA,hb,x9,hc⟩:=h3 i t ht;exact⟨ad,vv,kv,av,hA,hb,x9.keep hk,fun j u hu=>(hk _ (by rw [ak];exact hb)).trans (hc j u hu)⟩
theorem NF.more{v:Value}{L:List Fl}(h:NF w B v L)(hB:B≤B'):NF w B' v L:=by
 obtain⟨A,c,e,h1,h2,h3⟩:=h;refine⟨A,c,e,h1,h2,fun i t ht=> ?_⟩
 obtain⟨ad,vv,kv,av,hA,hb,x9,hc⟩:=h3 i t ht;exact⟨ad,vv,kv,av,hA,zy hb hB,x9.more hB,hc⟩
theorem NF.below{v:Value}{L:List Fl}(h:NF w w.heap.size v L)(hb:Below w.heap.size w w'):NF w' w'.heap.size v L:=
 (h.keep (fun _ hp=>hb.cell hp)).more hb.size
theorem NF.at_{A:Option Addr}{n c:Nat}{L:List Fl}(h:NF w B (.slice A n c) L){i:Nat}{t:Fl}(hi:L[i]? =some t):
 ∃ad vv kv av,A=some ad∧ad.block<B∧FV w B t vv kv av∧w.cell? (ad.add (i*9))=some (.int .i64 t.k)∧w.cell? (ad.add (i*9+1))=some (.int .i64 t.n)∧w.cell? (ad.add (i*9+2))=some (.int .i64 t.m)∧w.cell? (ad.add (i*9+3))=some (.int .i64 t.i)∧
  w.cell? (ad.add (i*9+4))=some (.int .u64 t.b)∧w.cell? (ad.add (i*9+5))=some (.string ⟨t.t.toArray⟩)∧w.cell? (ad.add (i*9+6))=some vv∧w.cell? (ad.add (i*9+7))=some kv∧w.cell? (ad.add (i*9+8))=some av:=by
 obtain⟨A',c',e,_,_,h3⟩:=h;injection e with e1 e2 e3
 subst e1 e3;obtain⟨ad,vv,kv,av,hA,hb,ht,hc⟩:=h3 i t hi;exact⟨ad,vv,kv,av,hA,hb,ht,hc 0 _ rfl,hc 1 _ rfl,hc 2 _ rfl,hc 3 _ rfl,hc 4 _ rfl,hc 5 _ rfl,hc 6 _ rfl,hc 7 _ rfl,hc 8 _ rfl⟩
theorem NF.len{v:Value}{L:List Fl}(h:NF w B v L): ∃A c,v= .slice A L.length c∧L.length≤c∧L.length≤1300000000000:=by
 obtain⟨A,c,e,h1,h2,_⟩:=h;exact⟨A,c,e,h1,h2⟩
theorem bc{ad:Addr}{i j:Nat}{v:Value}(h:w.cell? (ad.add (i+(j+1)))=some v):w.cell? ⟨(ad.add i).block,(ad.add i).off+(j+1),none⟩=some v:=by
 rw [←ru]at h;exact h
theorem NF.at9{n c:Nat}{A:Option Addr}{L:List Fl}(h:NF w B (.slice A n c) L){i:Nat}{t:Fl}(hi:L[i]? =some t):
 ∃ad vv kv av,A=some ad∧ad.block<B∧FV w B t vv kv av∧w.cell? (ad.add (i*9))=some (.int .i64 t.k)∧w.cell? ⟨(ad.add (i*9)).block,(ad.add (i*9)).off+1,none⟩=some (.int .i64 t.n)∧w.cell? ⟨(ad.add (i*9)).block,(ad.add (i*9)).off+2,none⟩=some (.int .i64 t.m)∧
  w.cell? ⟨(ad.add (i*9)).block,(ad.add (i*9)).off+3,none⟩=some (.int .i64 t.i)∧w.cell? ⟨(ad.add (i*9)).block,(ad.add (i*9)).off+4,none⟩=some (.int .u64 t.b)∧w.cell? ⟨(ad.add (i*9)).block,(ad.add (i*9)).off+5,none⟩=some (.string ⟨t.t.toArray⟩)∧
  w.cell? ⟨(ad.add (i*9)).block,(ad.add (i*9)).off+6,none⟩=some vv∧w.cell? ⟨(ad.add (i*9)).block,(ad.add (i*9)).off+7,none⟩=some kv∧w.cell? ⟨(ad.add (i*9)).block,(ad.add (i*9)).off+8,none⟩=some av:=by
 obtain⟨ad,vv,kv,av,hA,hb,ht,a0,a1,a2,a3,a4,a5,a6,a7,a8⟩:=h.at_ hi;exact⟨ad,vv,kv,av,hA,hb,ht,a0,bc a1,bc a2,bc a3,bc a4,bc a5,bc a6,bc a7,bc a8⟩
end
end Go.Proofs.YtcpmiplofbfmfaaGreatDoor
