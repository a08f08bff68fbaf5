/- Shrink: are all of a row's atoms of some kinds? -/
import Derived.Test.YtcpmiplofbfmfaaGreatDoorA33
import Derived.Test.YtcpmiplofbfmfaaGreatDoorA06
set_option linter.all false
set_option maxRecDepth 100000
set_option maxHeartbeats 1500000
namespace Go.Proofs.YtcpmiplofbfmfaaGreatDoor
open Go.Proofs.Tryz
open Go.Lib renaming hid→J
open Go.RowKit LamM CpsM FloM ShrM
theorem DQ: ∀{L:List Fl} {ks:List Int},L.length≠ks.length→aW L ks=false
 |[],[],h=>absurd rfl h
 |[],_::_,_=>rfl
 |_::_,[],_=>rfl
 |t::l,k::ks,h=>by
  show(qr t k&&aW l ks)=false;rw [DQ (L:=l) (ks:=ks) (fun e=>h (by simp [e])),Bool.and_false]
theorem Np{L:List Fl}{ks:List Int}{i:Nat}{t:Fl}{k:Int}(ht:L[i]? =some t)(hk:ks[i]? =some k):aW (L.drop i) (ks.drop i)=(qr t k&&aW (L.drop (i+1)) (ks.drop (i+1))):=by
 obtain⟨h1,rfl⟩:=zq.1 ht;obtain⟨h2,rfl⟩:=zq.1 hk;rw [Zw h1,Zw h2]
 rfl
theorem TG(L:List Fl)(ks:List Int){i:Nat}(h1:L.length≤i)(h2:ks.length≤i):aW (L.drop i) (ks.drop i)=true:=by
 rw [Zx h1,Zx h2];rfl
theorem Yp(L:List Fl)(ks:List Int)(v kv:Value)(w:World)(hN:NF w w.heap.size v L)(hK:IV w w.heap.size kv ks):
 Calls prog 10 #[v,kv] w fun e w'=>e= .returned (.bool (aW L ks))∧∃n,w'=w.drewN n:=by
 obtain⟨NA,nc,rfl,lj,gW⟩:=hN.len;obtain⟨KA,kc,rfl,iP,hk2⟩:=hK.len;have HR:=J (fun n w=>eZ n w)
 have HS:=J (fun s w=>kT s w)
 have HN:=J hN;have HK:=J hK;clear hN hK iP hk2 lj
 by_cases om:L.length=ks.length
 ·have q0:((L.length:Int)!=(ks.length:Int))=false:=f_ (by omega)
  have HL:=J om;clear om;go_enter func10,ntmps10;go_wp2_with fail
  go_loopw [13] (fun ix wr=>Hid (∃n,wr=w.drewN n)∧∃k:Nat,k≤L.length∧ix= .int .i64 (k:Int)∧Hid (aW L ks=aW (L.drop k) (ks.drop k))) (fun ix _=>L.length-(intOf ix).toNat)
  case atStart=>exact⟨J ⟨0,rfl⟩,0,zO _,rfl,J rfl⟩
  case round=>
   obtain⟨HW,k,hk,rfl,HE⟩:=hrel;have Wc:=J (show NF wr w.heap.size (.slice NA L.length nc) L by obtain⟨n,hn⟩:=HW.out;rw [hn];exact HN.out.keep (fun _ _=>rfl))
   have HKr:=J (show IV wr w.heap.size (.slice KA ks.length kc) ks by obtain⟨n,hn⟩:=HW.out;rw [hn];exact HK.out.keep (fun _ _=>rfl))
   have AN:=J (fun m=>show∃n,wr.drewN m=w.drewN n by obtain⟨n,hn⟩:=HW.out;exact⟨n+m,by rw [hn,Im]⟩)
   clear HW
   rcases zj k L.length with bw|iE
   ·obtain⟨t,ht⟩: ∃t,L[k]? =some t:=⟨_,zk bw⟩
    obtain⟨x,hx⟩: ∃x,ks[k]? =some x:=⟨_,zk (by rw [←HL.out];exact bw)⟩
    have HD:=J (HE.out.trans (Np ht hx));have ta:k<ks.length:=by rw [←HL.out];exact bw
    obtain⟨ad,vv,kv,av,rfl,_,_,d0,_,_,d3,_,d5,_,_,_⟩:=Wc.out.at9 ht;obtain⟨aa,rfl,_,c0⟩:=HKr.out.at_ hx;have dw:(k:Int)<(L.length:Int):=by omega
    have eU:(k:Int)<(ks.length:Int):=by omega
    clear ht hx HE hk ta;have HRt:=J (fun w=>HR.out t.i w)
    have HSt:=J (fun w=>HS.out t.t w)
    obtain⟨b5,lq⟩: ∃b,decide (t.t.length≤65536)=b:=⟨_,rfl⟩;rw [lq]at HSt;have fE:=J lq;clear lq
    cases x1:(t.k !=x)
    ·have y1:(t.k==x)=true:=by simpa [bne]using x1
     cases x2:(t.k==2)
     ·cases x4:(t.k==4)
      ·have hE:=J (show aW L ks=aW (L.drop (k+1)) (ks.drop (k+1))by rw [HD.out];unfold qr;rw [y1,x2,x4];simp)
       clear HD;go_wp2_with fail;go_quiet (first|(go_at_call 49;exact Zp ((HRt.out _).mono fun _ _ hh=>⟨hh.1,hh.2.symm⟩))|(go_at_call 50;exact Zp ((HSt.out _).mono fun _ _ hh=>⟨hh.1,hh.2.symm⟩)))
       go_wp2_with fail
       go_roundw
       case rel=>exact⟨J (AN.out _),k+1,by omega,by go_num,hE⟩
       case measure=>simp [intOf];omega
      ·cases b5
       ·have hE:=J (show aW L ks=false by rw [HD.out];unfold qr;rw [y1,x2,x4,fE.out];simp)
        clear HD;go_wp2_with fail;go_quiet (first|(go_at_call 49;exact Zp ((HRt.out _).mono fun _ _ hh=>⟨hh.1,hh.2.symm⟩))|(go_at_call 50;exact Zp ((HSt.out _).mono fun _ _ hh=>⟨hh.1,hh.2.symm⟩)))
        go_wp2_with fail
        go_ret;exact⟨by rw [hE.out];rfl,AN.out _⟩
       ·have hE:=J (show aW L ks=aW (L.drop (k+1)) (ks.drop (k+1))by rw [HD.out];unfold qr;rw [y1,x2,x4,fE.out];simp)
        clear HD;go_wp2_with fail;go_quiet (first|(go_at_call 49;exact Zp ((HRt.out _).mono fun _ _ hh=>⟨hh.1,hh.2.symm⟩))|(go_at_call 50;exact Zp ((HSt.out _).mono fun _ _ hh=>⟨hh.1,hh.2.symm⟩)))
        go_wp2_with fail
        go_roundw
        case rel=>exact⟨J (AN.out _),k+1,by omega,by go_num,hE⟩
        case measure=>simp [intOf];omega
     ·have x4:(t.k==4)=false:=by have:=Zr.1 x2;rw [this];rfl
      cases x3:ax t.i
      ·rw [x3]at HRt
       have hE:=J (show aW L ks=false by rw [HD.out];unfold qr;rw [y1,x2,x3,x4];simp)
       clear HD;go_wp2_with fail;go_quiet (first|(go_at_call 49;exact Zp ((HRt.out _).mono fun _ _ hh=>⟨hh.1,hh.2.symm⟩))|(go_at_call 50;exact Zp ((HSt.out _).mono fun _ _ hh=>⟨hh.1,hh.2.symm⟩)))
       go_wp2_with fail
       go_ret;exact⟨by rw [hE.out];rfl,AN.out _⟩
      ·rw [x3]at HRt
       have hE:=J (show aW L ks=aW (L.drop (k+1)) (ks.drop (k+1))by rw [HD.out];unfold qr;rw [y1,x2,x3,x4];simp)
       clear HD;go_wp2_with fail;go_quiet (first|(go_at_call 49;exact Zp ((HRt.out _).mono fun _ _ hh=>⟨hh.1,hh.2.symm⟩))|(go_at_call 50;exact Zp ((HSt.out _).mono fun _ _ hh=>⟨hh.1,hh.2.symm⟩)))
       go_wp2_with fail
       go_roundw
       case rel=>exact⟨J (AN.out _),k+1,by omega,by go_num,hE⟩
       case measure=>simp [intOf];omega
    ·have y1:(t.k==x)=false:=by simpa [bne]using x1
     have hE:=J (show aW L ks=false by rw [HD.out];unfold qr;rw [y1];simp)
     clear HD;go_wp2_with fail;go_quiet (first|(go_at_call 49;exact Zp ((HRt.out _).mono fun _ _ hh=>⟨hh.1,hh.2.symm⟩))|(go_at_call 50;exact Zp ((HSt.out _).mono fun _ _ hh=>⟨hh.1,hh.2.symm⟩)))
     go_wp2_with fail
     go_ret;exact⟨by rw [hE.out];rfl,AN.out _⟩
   ·have hkl:k=L.length:=by omega
    have hE:=J (show aW L ks=true by rw [HE.out];exact TG L ks (by omega) (by rw [←HL.out];omega))
    have dw: ¬(k:Int)<(L.length:Int):=by omega
    clear HE hkl;go_wp2_with fail;go_ret;exact⟨by rw [hE.out];rfl,AN.out 0⟩
 ·have q0:((L.length:Int)!=(ks.length:Int))=true:=oS (by omega)
  have HE:=J (DQ om);clear om;go_enter func10,ntmps10;go_wp2_with fail;go_ret;exact⟨by rw [HE.out];rfl,0,rfl⟩
set_option maxHeartbeats 16000000
theorem TQ{W:World}{g:Nat}{t:TypeId}{cs:Array Value}{ks:List Int}(h:ai W g t cs)(hc:cs=(aZ ks).toArray)(hl:ks.length≤100):IV W W.heap.size (.slice (some ⟨g,0,none⟩) ks.length ks.length) ks:=by
 subst hc;refine⟨_,_,rfl,za _,by unfold maxLen;omega,?_⟩
 refine⟨by unfold aZ;simp,fun _=>⟨_,rfl,h.lt,fun j u hu=> ?_⟩⟩
 rw [show(⟨g,0,none⟩:Addr).add j=⟨g,j,none⟩by unfold Addr.add;split<;>simp_all,h.cell j]
 simpa using hu
theorem KU(L:List Fl)(ks:List Int)(v:Value)(w W:World)(g n:Nat)(t:TypeId)(cs:Array Value)(hN:NF w w.heap.size v L)(hb:Below w.heap.size w W)(hB:ai W g t cs)(hc:cs=(aZ ks).toArray)(hn:ks.length=n)(hl:n≤100):Calls prog 10 #[v, .slice (some ⟨g,0,none⟩) n n] W fun e w'=>e= .returned (.bool (aW L ks))∧∃m,w'=W.drewN m:=by
 subst hn;exact Yp L ks v _ W (hN.below hb) (TQ hB hc hl)
theorem kP{L:List Fl}{k:Int}(h:aW L [k]=true): ∃x,L=[x]∧qr x k=true:=by
 match L,h with
 |[x],h=>exact⟨x,rfl,by simpa [aW]using h⟩
 |[],h=>cases h
 |_::_::_,h=>simp [aW]at h
theorem eG{L:List Fl}{k l:Int}(h:aW L [k,l]=true): ∃x y,L=[x,y]∧qr x k=true∧qr y l=true:=by
 match L,h with
 |[x,y],h=>exact⟨x,y,rfl,by simpa [aW]using h⟩
 |[],h=>cases h
 |[_],h=>simp [aW]at h
 |_::_::_::_,h=>simp [aW]at h
theorem nG{x:Fl}(h:qr x 2=true):ax x.i=true:=by
 unfold qr at h;simp at h;obtain⟨⟨h1,h2⟩,_⟩:=h;exact h2.resolve_left (fun h=>h h1)
def io(w:World)(p:Addr)(x:Fl):Prop:=w.cell? ⟨p.block,p.off+3,none⟩=some (.int .i64 x.i)∧w.cell? ⟨p.block,p.off+4,none⟩=some (.int .u64 x.b)∧w.cell? ⟨p.block,p.off+5,none⟩=some (.string ⟨x.t.toArray⟩)
theorem aB(a:Addr){n:Nat}(h:0<n):a.add n=⟨a.block,a.off+n,none⟩:=by
 unfold Addr.add;rw [ze (by omega)]
theorem BK{w:World}{B:Nat}{v:Value}{x:Fl}(h:NF w B v [x]): ∃ad c,v= .slice (some ad) 1 c∧io w ad x:=by
 obtain⟨NA,nc,rfl,_,_⟩:=h.len;obtain⟨ad,vv,kv,av,rfl,_,_,_,_,_,d3,d4,d5,_,_,_⟩:=h.at9 (i:=0) rfl;rw [Zk,ZV]at d3 d4 d5;exact⟨ad,nc,rfl,d3,d4,d5⟩
theorem ud{w:World}{B:Nat}{v:Value}{x y:Fl}(h:NF w B v [x,y]): ∃ad c,v= .slice (some ad) 2 c∧io w ad x∧io w ⟨ad.block,ad.off+9,none⟩ y:=by
 obtain⟨NA,nc,rfl,_,_⟩:=h.len;obtain⟨ad,vv,kv,av,rfl,_,_,_,_,_,d3,d4,d5,_,_,_⟩:=h.at9 (i:=0) rfl;rw [Zk,ZV]at d3 d4 d5;obtain⟨QQ,vv,kv,av,e,_,_,_,_,_,f3,f4,f5,_,_,_⟩:=h.at9 (i:=1) rfl;obtain rfl:=zz e;rw [zP,aB ad (by decide)]at f3 f4 f5
 exact⟨ad,nc,rfl,⟨d3,d4,d5⟩,f3,f4,f5⟩
theorem TR{w:World}{B:Nat}{v:Value}{x y z:Fl}(h:NF w B v [x,y,z]): ∃ad c,v= .slice (some ad) 3 c∧io w ad x∧io w ⟨ad.block,ad.off+9,none⟩ y∧io w ⟨ad.block,ad.off+18,none⟩ z:=by
 obtain⟨NA,nc,rfl,_,_⟩:=h.len;obtain⟨ad,vv,kv,av,rfl,_,_,_,_,_,d3,d4,d5,_,_,_⟩:=h.at9 (i:=0) rfl;rw [Zk,ZV]at d3 d4 d5;obtain⟨QQ,vv,kv,av,e,_,_,_,_,_,f3,f4,f5,_,_,_⟩:=h.at9 (i:=1) rfl;obtain rfl:=zz e;rw [zP,aB ad (by decide)]at f3 f4 f5
 obtain⟨QQ,vv,kv,av,e,_,_,_,_,_,g3,g4,g5,_,_,_⟩:=h.at9 (i:=2) rfl;obtain rfl:=zz e;rw [aB ad (by decide)]at g3 g4 g5
 exact⟨ad,nc,rfl,⟨d3,d4,d5⟩,⟨f3,f4,f5⟩,g3,g4,g5⟩
theorem io.below{w W:World}{p:Addr}{x:Fl}(h:io w p x)(hb:Below w.heap.size w W):io W p x:=
 ⟨(hb.cell (jj h.1)).trans h.1,(hb.cell (jj h.2.1)).trans h.2.1,(hb.cell (jj h.2.2)).trans h.2.2⟩
theorem ip(L:List Fl)(ks:List Int)(v:Value)(w W:World)(g n:Nat)(t:TypeId)(cs:Array Value)(hN:NF w w.heap.size v L)(hb:Below w.heap.size w W)(hB:ai W g t cs)(hc:cs=(aZ ks).toArray)(hn:ks.length=n)(hl:n≤100):
 Calls prog 10 #[v, .slice (some ⟨g,0,none⟩) n n] W fun e w'=>e= .returned (.bool (aW L ks))∧Below W.heap.size W w':=
 (KU L ks v w W g n t cs hN hb hB hc hn hl).mono fun _ _ ⟨h,m,h2⟩=>⟨h,by rw [h2];exact below_drewN (zg _ _) m⟩
theorem mb(L:List Fl)(ks:List Int)(v:Value)(w W:World)(n:Nat)(t:TypeId)(cs:Array Value)(hN:NF w w.heap.size v L)(hb:Below w.heap.size w W)(hc:cs=(aZ ks).toArray)(hn:ks.length=n)(hl:n≤100):
 Calls prog 10 #[v, .slice (some ⟨W.heap.size,0,none⟩) n n] (W.alloc (.cells cs t)) fun e w'=>e= .returned (.bool (aW L ks))∧Below W.heap.size W w':=
 (ip L ks v w (W.alloc (.cells cs t)) W.heap.size n t cs hN (hb.alloc hb.size _) (ai.new _ _ _) hc hn hl).mono fun _ _ ⟨h,h2⟩=>⟨h,((zg _ _).alloc (za _) _).trans (h2.mono (by simp))⟩
structure At2(w W:World)(ad:Addr)(x y:Fl):Prop where
 bel:Below w.heap.size w W
 blk:ai W w.heap.size 38 bC
 a:io W ad x
 b:io W ⟨ad.block,ad.off+9,none⟩ y
theorem At2.next{w W W':World}{ad:Addr}{x y:Fl}(h:At2 w W ad x y)(hb:Below W.heap.size W W'):At2 w W' ad x y:=⟨h.bel.trans (hb.mono h.bel.size),h.blk.below hb h.blk.lt,h.a.below hb,h.b.below hb⟩
theorem At2.drewN{w W:World}{ad:Addr}{x y:Fl}(h:At2 w W ad x y)(n:Nat):At2 w (W.drewN n) ad x y:=h.next (below_drewN (zg _ _) n)
structure At1(w W:World)(ad:Addr)(x:Fl):Prop where
 bel:Below w.heap.size w W
 blk:ai W w.heap.size 38 bC
 a:io W ad x
theorem At1.next{w W W':World}{ad:Addr}{x:Fl}(h:At1 w W ad x)(hb:Below W.heap.size W W'):At1 w W' ad x:=⟨h.bel.trans (hb.mono h.bel.size),h.blk.below hb h.blk.lt,h.a.below hb⟩
theorem At1.drewN{w W:World}{ad:Addr}{x:Fl}(h:At1 w W ad x)(n:Nat):At1 w (W.drewN n) ad x:=h.next (below_drewN (zg _ _) n)
theorem qO:(∀(x:Fl) (v:Value) (w:World) (hN:NF w w.heap.size v [x]) (h1:aW [x] [2]=true),Calls prog 8 #[.string ⟨#[126]⟩,v] w (aq (aX (nJ x.i)) w))∧(∀(S:List UInt8) (hS:S≠[126]) (x:Fl) (v:Value) (w:World) (hN:NF w w.heap.size v [x]) (h1:aW [x] [2]=true),Calls prog 8 #[.string ⟨S.toArray⟩,v] w (aq (aX (nK x.i)) w)):=by
 refine⟨?_,?_⟩;intro x v w hN h1;have aj:=J (rfl:0=0)
 rotate_left;intro S hS x v w hN h1
 all_goals
  obtain⟨ad,nc,rfl,hA⟩:=BK hN;obtain⟨W,hW⟩: ∃W,(w.alloc (.cells bC 38)).alloc (.cells #[.int .i64 2] 23)=W:=⟨_,rfl⟩
  first
   |replace aj:=aj
    have dD:=J (show Below w.heap.size w W by rw [←hW];exact aA _ _ _)
    have HA:=J (KU [x] [2] _ w W (w.heap.size+1) 1 23 #[.int .i64 2] hN dD.out (by rw [←hW];exact am (by simp) _ _) rfl rfl (by decide))
    have HZ:=J (show ai W w.heap.size 38 bC by rw [←hW];exact(ai.new _ _ _).alloc _)
   |have H0:=J (show At1 w W ad x from⟨by rw [←hW];exact aA _ _ _,by rw [←hW];exact(ai.new _ _ _).alloc _,hA.below (by rw [←hW];exact aA _ _ _)⟩)
    have HA:=J (ip [x] [2] _ w W (w.heap.size+1) 1 23 #[.int .i64 2] hN H0.out.bel (by rw [←hW];exact am (by simp) _ _) rfl rfl (by decide))
  rw [h1]at HA;obtain⟨x',yb,hx⟩:=kP h1;obtain rfl:x=x':=by injection yb
  have HX:=J (nG hx)
  first
   |replace aj:=aj
    have c3:=(hA.below dD.out).1;have HF:=J (fun w=>D0 x.i HX.out w)
   |have HF:=J (fun w=>TP x.i HX.out w)
  have HT:=J (fun n e w=>iX n e w)
  first
   |replace aj:=aj
    unfold R2 at HF;obtain⟨⟨q1,q2⟩,hq⟩: ∃q,nJ x.i=q:=⟨_,rfl⟩
   |have hs:(S==[126])=false:=zf.2 hS
    unfold R2b at HF;obtain⟨⟨q1,q2⟩,hq⟩: ∃q,nK x.i=q:=⟨_,rfl⟩
  rw [hq]at HF⊢;unfold aq at *
  first
   |replace aj:=aj
    clear hN h1 hx yb hA hq
   |clear hN h1 hx yb hA hq hS
  go_enter func8,ntmps8
  first
   |replace aj:=aj
    go_wp2_with fail
   |go_upto_region 1 with fail
    go_wp2_with (go_at_call 10;(with_reducible refine(HA.out).mono ?_);rintro e w1 ⟨rfl,hb⟩;have H1:=J (H0.out.next hb);have c3:=H1.out.a.1;clear hb)
  clear hW
  (first|replace aj:=aj;go_wp2_with (first|(go_at_call 10;(with_reducible refine(HA.out).mono ?_);rintro e w1 ⟨rfl,n,rfl⟩)|(go_at_call 23;(with_reducible refine(HF.out _).q ?_))|(go_at_call 22;(with_reducible refine(HT.out q1 q2 _).mono ?_);rintro e w1 ⟨rfl,hb⟩;have BX:=J ((HZ.out.drewN _).below hb HZ.out.lt);have HB:=J ((below_drewN dD.out _).trans (hb.mono dD.out.size));obtain⟨c0,c1,c2,k3,c4,c5,c6,c7,c8,c9,c10⟩:=ah BX.out;obtain⟨f0,f1,f2,f3,f4,f5,f6,f7,f8,f9,ox⟩:=aO BX.out;clear hb))|go_wp2_with (first|(go_at_call 24;(with_reducible refine(HF.out _).mono ?_);rintro e w2 ⟨rfl,cB⟩;have H2:=J (H1.out.next cB);clear cB)|(go_at_call 22;(with_reducible refine(HT.out q1 q2 _).mono ?_);rintro e w3 ⟨rfl,hb⟩;have BX:=J (H2.out.next hb).blk;have HB:=J (H2.out.next hb).bel;obtain⟨c0,c1,c2,k3,c4,c5,c6,c7,c8,c9,c10⟩:=ah BX.out;obtain⟨f0,f1,f2,f3,f4,f5,f6,f7,f8,f9,ox⟩:=aO BX.out;clear hb)))
  obtain⟨z0,z1,z2,z3,z4,z5,z6,z7,z8,z9,cF⟩:=ah (aK (r:=aX (q1,q2)) BX.out);unfold cD at z0 z1 z2 z3 z4 z5 z6 z7 z8 z9 cF;refine zi (v:=eM (aX (q1,q2))) (by simp [results,results8,go_sem,z0,z1,z2,z3,z4,z5,z6,z7,z8,z9,cF]) rfl ⟨rfl,au HB.out (za _)⟩
def Ny:=qO.1
def Nz:=qO.2
theorem dA:(∀(x y:Fl) (v:Value) (w:World) (hN:NF w w.heap.size v [x,y]) (h1:aW [x,y] [2,2]=true),Calls prog 8 #[.string ⟨#[42]⟩,v] w (aq (aX (yA x.i y.i)) w))∧(∀(x y:Fl) (v:Value) (w:World) (hN:NF w w.heap.size v [x,y]) (h1:aW [x,y] [2,2]=true),Calls prog 8 #[.string ⟨#[45]⟩,v] w (aq (aX (qp x.i y.i)) w))∧(∀(x y:Fl) (v:Value) (w:World) (hN:NF w w.heap.size v [x,y]) (h1:aW [x,y] [2,2]=true),Calls prog 8 #[.string ⟨#[100,105,118]⟩,v] w (aq (aX (vr x.i y.i)) w))∧(∀(x y:Fl) (v:Value) (w:World) (hN:NF w w.heap.size v [x,y]) (h1:aW [x,y] [2,2]=true),Calls prog 8 #[.string ⟨#[109,111,100]⟩,v] w (aq (aX (xt x.i y.i)) w))∧(∀(x y:Fl) (v:Value) (w:World) (hN:NF w w.heap.size v [x,y]) (h1:aW [x,y] [2,2]=true),Calls prog 8 #[.string ⟨#[113,117,111,116]⟩,v] w (aq (aX (nU x.i y.i)) w))∧(∀(x y:Fl) (v:Value) (w:World) (hN:NF w w.heap.size v [x,y]) (h1:aW [x,y] [2,2]=true),Calls prog 8 #[.string ⟨#[114,101,109]⟩,v] w (aq (aX (ui x.i y.i)) w))∧(∀(x y:Fl) (v:Value) (w:World) (hN:NF w w.heap.size v [x,y]) (h1:aW [x,y] [2,2]=true),Calls prog 8 #[.string ⟨#[43]⟩,v] w (aq (aX (yz x.i y.i)) w))∧(∀(S:List UInt8) (hS:S≠[43]∧S≠[45]∧S≠[42]∧S≠[100,105,118]∧S≠[109,111,100]∧S≠[113,117,111,116]∧S≠[114,101,109]) (x y:Fl) (v:Value) (w:World) (hN:NF w w.heap.size v [x,y]) (h1:aW [x,y] [2,2]=true),Calls prog 8 #[.string ⟨S.toArray⟩,v] w (aq (aE (ck S (yB x.i y.i))) w)):=by
 refine⟨?_,?_,?_,?_,?_,?_,?_,?_⟩;intro x y v w hN h1;have aj:=J (rfl:0=0)
 rotate_left;intro x y v w hN h1;have aG:=J (rfl:0=0)
 rotate_left;intro x y v w hN h1;have aP:=J (rfl:0=0)
 rotate_left;intro x y v w hN h1;have bk:=J (rfl:0=0)
 rotate_left;intro x y v w hN h1;have bz:=J (rfl:0=0)
 rotate_left;intro x y v w hN h1;have cE:=J (rfl:0=0)
 rotate_left;intro x y v w hN h1;have dU:=J (rfl:0=0)
 rotate_left;intro S hS x y v w hN h1;have gu:=J (rfl:0=0)
 all_goals
  obtain⟨ad,nc,rfl,hA,tc⟩:=ud hN;have h0:aW [x,y] [2]=false:=by simp [aW]
  obtain⟨W,hW⟩: ∃W,(w.alloc (.cells bC 38)).alloc (.cells #[.int .i64 2] 23)=W:=⟨_,rfl⟩;have H0:=J (show At2 w W ad x y from⟨by rw [←hW];exact aA _ _ _,by rw [←hW];exact(ai.new _ _ _).alloc _,hA.below (by rw [←hW];exact aA _ _ _),tc.below (by rw [←hW];exact aA _ _ _)⟩)
  have HA:=J (ip [x,y] [2] _ w W (w.heap.size+1) 1 23 #[.int .i64 2] hN H0.out.bel (by rw [←hW];exact am (by simp) _ _) rfl rfl (by decide))
  have tq:=J (fun w1 (hb:Below w.heap.size w w1)=>mb [x,y] [2,2] _ w w1 2 23 #[.int .i64 2, .int .i64 2] hN hb rfl rfl (by decide))
  rw [h0]at HA;rw [h1]at tq;obtain⟨x',y',yb,hx,hy⟩:=eG h1;obtain⟨rfl,rfl⟩:x=x'∧y=y':=by injection yb with h2 h3;injection h3 with h3;exact⟨h2,h3⟩
  first
   |replace dU:=dU
    have HX:=J (nG hx);have HY:=J (nG hy);have HF:=J (fun(w:World)=>TN w.heap.size 2 x.i y.i HX.out HY.out (w.alloc (.cells #[.int .i64 x.i, .int .i64 y.i] 2)) ((ai.new w 2 #[.int .i64 x.i, .int .i64 y.i]).cell 0) ((ai.new w 2 #[.int .i64 x.i, .int .i64 y.i]).cell 1))
    have HT:=J (fun n e w=>iX n e w)
    unfold R2 at HF;obtain⟨⟨q1,q2⟩,hq⟩: ∃q,yz x.i y.i=q:=⟨_,rfl⟩;rw [hq]at HF⊢
   |replace gu:=gu
    have HF:=J (fun w=>Em x.i y.i w)
    have HT:=J (fun c w=>ul S c w)
    have s1:(S==[43])=false:=zf.2 hS.1;have s2:(S==[45])=false:=zf.2 hS.2.1;have s3:(S==[42])=false:=zf.2 hS.2.2.1;have s4:(S==[100,105,118])=false:=zf.2 hS.2.2.2.1;have s5:(S==[109,111,100])=false:=zf.2 hS.2.2.2.2.1;have s6:(S==[113,117,111,116])=false:=zf.2 hS.2.2.2.2.2.1;have s7:(S==[114,101,109])=false:=zf.2 hS.2.2.2.2.2.2;generalize yB x.i y.i=c at *
   |have HX:=J (nG hx)
    have HY:=J (nG hy)
    first
     |replace aj:=aj
      have HF:=J (fun w=>Ud x.i y.i HX.out HY.out w)
     |replace aG:=aG
      have HF:=J (fun w=>DZ x.i y.i HX.out HY.out w)
     |replace aP:=aP
      have HF:=J (fun w=>TL x.i y.i HX.out HY.out w)
     |replace bk:=bk
      have HF:=J (fun w=>TM x.i y.i HX.out HY.out w)
     |replace bz:=bz
      have HF:=J (fun w=>Nr x.i y.i HX.out HY.out w)
     |have HF:=J (fun w=>TK x.i y.i HX.out HY.out w)
    have HT:=J (fun n e w=>iX n e w)
    first
     |replace aj:=aj
      unfold R2 at HF;obtain⟨⟨q1,q2⟩,hq⟩: ∃q,yA x.i y.i=q:=⟨_,rfl⟩
     |replace aG:=aG
      unfold R2 at HF;obtain⟨⟨q1,q2⟩,hq⟩: ∃q,qp x.i y.i=q:=⟨_,rfl⟩
     |replace aP:=aP
      unfold R2d at HF;obtain⟨⟨q1,q2⟩,hq⟩: ∃q,vr x.i y.i=q:=⟨_,rfl⟩
     |replace bk:=bk
      unfold R2d at HF;obtain⟨⟨q1,q2⟩,hq⟩: ∃q,xt x.i y.i=q:=⟨_,rfl⟩
     |replace bz:=bz
      unfold R2 at HF;obtain⟨⟨q1,q2⟩,hq⟩: ∃q,nU x.i y.i=q:=⟨_,rfl⟩
     |unfold R2 at HF
      obtain⟨⟨q1,q2⟩,hq⟩: ∃q,ui x.i y.i=q:=⟨_,rfl⟩
    rw [hq]at HF⊢
  unfold aq at *
  first
   |replace gu:=gu
    clear hN h1 h0 hx hy yb hA tc hS
   |clear hN h1 h0 hx hy yb hA tc hq
  go_enter func8,ntmps8;go_upto_region 1 with fail
  go_wp2_with (go_at_call 10;(with_reducible refine(HA.out).mono ?_);rintro e w1 ⟨rfl,hb⟩;have H1:=J (H0.out.next hb);clear hb)
  clear hW;go_upto_region 7 with(go_at_call 10;(with_reducible refine(tq.out _ H1.out.bel).mono ?_);rintro e w2 ⟨rfl,hb⟩;have H2:=J (H1.out.next hb);have c3:=H2.out.a.1;have d3:=H2.out.b.1;clear hb)
  go_quiet (fail)
  first
   |replace dU:=dU
    have H3:=J (H2.out.drewN nq);generalize w2.drewN nq=w3 at *
   |skip
  go_wp2_with (first|((first|replace aj:=aj;go_at_call 27|replace aG:=aG;go_at_call 26|replace aP:=aP;go_at_call 28|replace bk:=bk;go_at_call 29|replace bz:=bz;go_at_call 30|replace cE:=cE;go_at_call 31|replace dU:=dU;go_at_call 25|replace gu:=gu;go_at_call 12);((first|replace dU:=dU;(with_reducible refine(HF.out _).mono ?_);rintro e w4 ⟨rfl,Fi⟩;have H4:=J (H3.out.next (show Below w3.heap.size w3 w4 by rw [←Fi];exact(zg _ _).alloc (za _) _));clear Fi|(first|replace aP:=aP|replace bk:=bk);(with_reducible refine(HF.out _).mono ?_);rintro e w' ⟨rfl,j,rfl⟩|(first|replace aj:=aj|replace aG:=aG|replace bz:=bz|replace cE:=cE|replace gu:=gu);with_reducible refine(HF.out _).q ?_)))|((first|replace gu:=gu;go_at_call 11|(first|replace aj:=aj|replace aG:=aG|replace aP:=aP|replace bk:=bk|replace bz:=bz|replace cE:=cE|replace dU:=dU);go_at_call 22);(((first|replace gu:=gu;with_reducible refine(HT.out c _).mono ?_|(first|replace aj:=aj|replace aG:=aG|replace aP:=aP|replace bk:=bk|replace bz:=bz|replace cE:=cE|replace dU:=dU);with_reducible refine(HT.out q1 q2 _).mono ?_));(first|replace dU:=dU;rintro e w5 ⟨rfl,hb⟩;have BX:=J (H4.out.next hb).blk;have HB:=J (H4.out.next hb).bel|(first|replace aj:=aj|replace aG:=aG|replace aP:=aP|replace bk:=bk|replace bz:=bz|replace cE:=cE|replace gu:=gu);rintro e w3 ⟨rfl,hb⟩;have BX:=J ((H2.out.drewN _).next hb).blk;have HB:=J ((H2.out.drewN _).next hb).bel);obtain⟨c0,c1,c2,k3,c4,c5,c6,c7,c8,c9,c10⟩:=ah BX.out;obtain⟨f0,f1,f2,f3,f4,f5,f6,f7,f8,f9,ox⟩:=aO BX.out;clear hb)))
  first
   |replace gu:=gu
    obtain⟨z0,z1,z2,z3,z4,z5,z6,z7,z8,z9,cF⟩:=ah (aK (r:=aE (ck S c)) BX.out)
   |obtain⟨z0,z1,z2,z3,z4,z5,z6,z7,z8,z9,cF⟩:=ah (aK (r:=aX (q1,q2)) BX.out)
  unfold cD at z0 z1 z2 z3 z4 z5 z6 z7 z8 z9 cF
  first
   |replace gu:=gu
    refine zi (v:=eM (aE (ck S c))) (by simp [results,results8,go_sem,z0,z1,z2,z3,z4,z5,z6,z7,z8,z9,cF]) rfl ⟨rfl,au HB.out (za _)⟩
   |refine zi (v:=eM (aX (q1,q2))) (by simp [results,results8,go_sem,z0,z1,z2,z3,z4,z5,z6,z7,z8,z9,cF]) rfl ⟨rfl,au HB.out (za _)⟩
def NB:=dA.1
def NC:=dA.2.1
def ND:=dA.2.2.1
def NE:=dA.2.2.2.1
def GR:=dA.2.2.2.2.1
def NG:=dA.2.2.2.2.2.1
def NH:=dA.2.2.2.2.2.2.1
def NI:=dA.2.2.2.2.2.2.2
theorem TS(S:List UInt8)(L:List Fl)(v:Value)(w:World)(hN:NF w w.heap.size v L)(h1:aW L [2]=false)(h2:aW L [2,2]=false):Calls prog 8 #[.string ⟨S.toArray⟩,v] w (aq .no w):=by
 obtain⟨NA,nc,rfl,_,_⟩:=hN.len;obtain⟨W,hW⟩: ∃W,(w.alloc (.cells bC 38)).alloc (.cells #[.int .i64 2] 23)=W:=⟨_,rfl⟩;have dD:=J (show Below w.heap.size w W by rw [←hW];exact aA _ _ _)
 have HZ:=J (show ai W w.heap.size 38 bC by rw [←hW];exact(ai.new _ _ _).alloc _)
 have HA:=J (ip L [2] _ w W (w.heap.size+1) 1 23 #[.int .i64 2] hN dD.out (by rw [←hW];exact am (by simp) _ _) rfl rfl (by decide))
 have tq:=J (fun w1 (hb:Below w.heap.size w w1)=>mb L [2,2] _ w w1 2 23 #[.int .i64 2, .int .i64 2] hN hb rfl rfl (by decide))
 rw [h1]at HA;rw [h2]at tq;unfold aq at *;clear hN h1 h2;go_enter func8,ntmps8;go_upto_region 1 with fail
 go_wp2_with (go_at_call 10;(with_reducible refine(HA.out).mono ?_);rintro e w1 ⟨rfl,hb⟩;have bp:=J (dD.out.trans (hb.mono dD.out.size));have jo:=J (HZ.out.below hb HZ.out.lt);clear hb)
 clear hW;go_upto_region 6 with(go_at_call 10;(with_reducible refine(tq.out _ bp.out).mono ?_);rintro e w2 ⟨rfl,hb⟩;have HB:=J (bp.out.trans (hb.mono bp.out.size));have BX:=J (jo.out.below hb jo.out.lt);obtain⟨c0,c1,c2,k3,c4,c5,c6,c7,c8,c9,c10⟩:=ah BX.out;obtain⟨f0,f1,f2,f3,f4,f5,f6,f7,f8,f9,ox⟩:=aO BX.out;clear hb)
 go_wp2_with fail
 obtain⟨z0,z1,z2,z3,z4,z5,z6,z7,z8,z9,cF⟩:=ah (aK (r:= .no) BX.out);unfold cD at z0 z1 z2 z3 z4 z5 z6 z7 z8 z9 cF;simp only [rk,ri,rb,rt,rc,ro]at z0 z1 z2 z3 z4 z5 z6 z7 z8 z9 cF;refine zi (v:= .agg bC) (by simp [results,results8,go_sem,z0,z1,z2,z3,z4,z5,z6,z7,z8,z9,cF]) rfl ⟨rfl,au (r:= .no) HB.out (za _)⟩
theorem mL(S:List UInt8)(L:List Fl)(v:Value)(w:World)(hN:NF w w.heap.size v L):Calls prog 8 #[.string ⟨S.toArray⟩,v] w (aq (jr S L) w):=by
 unfold jr
 cases h1:aW L [2]with
 |true=>
  obtain⟨x,rfl,_⟩:=kP h1;rw [zh rfl]
  by_cases hs:S=[126]
  ·subst hs;rw [zh rfl];exact Ny x v w hN h1
  ·rw [ze hs];exact Nz S hs x v w hN h1
 |false=>
  rw [ze (by decide)]
  cases h2:aW L [2,2]with
  |false=>rw [ze (by decide)];exact TS S L v w hN h1 h2
  |true=>
   obtain⟨x,y,rfl,_,_⟩:=eG h2;rw [zh rfl]
   by_cases s1:S=[43]
   ·subst s1;rw [zh rfl];exact NH x y v w hN h2
   rw [ze s1]
   by_cases s2:S=[45]
   ·subst s2;rw [zh rfl];exact NC x y v w hN h2
   rw [ze s2]
   by_cases s3:S=[42]
   ·subst s3;rw [zh rfl];exact NB x y v w hN h2
   rw [ze s3]
   by_cases s4:S=[100,105,118]
   ·subst s4;rw [zh rfl];exact ND x y v w hN h2
   rw [ze s4]
   by_cases s5:S=[109,111,100]
   ·subst s5;rw [zh rfl];exact NE x y v w hN h2
   rw [ze s5]
   by_cases s6:S=[113,117,111,116]
   ·subst s6;rw [zh rfl];exact GR x y v w hN h2
   rw [ze s6]
   by_cases s7:S=[114,101,109]
   ·subst s7;rw [zh rfl];exact NG x y v w hN h2
   rw [ze s7];exact NI S ⟨s1,s2,s3,s4,s5,s6,s7⟩ x y v w hN h2
theorem io.bits{w:World}{p:Addr}{x:Fl}{u:Nat}(h:io w p x)(hb:x.b=(u:Int)):w.cell? ⟨p.block,p.off+4,none⟩=some (.int .u64 (u:Int)):=by rw [←hb];exact h.2.1
theorem vQ{o:Option Nat}{z:Nat}(h:Tb o z):aw z=aw (lU o):=by
 cases o with
 |none=>rw [fY h.of_none];exact(fY wz).symm
 |some a=>rw [h.of_some];rfl
theorem cZ:(∀(x:Fl) (u:Nat) (hu:u<2^64) (lf:x.b=(u:Int)) (v:Value) (w:World) (hN:NF w w.heap.size v [x]) (h1:aW [x] [3]=true),Calls prog 9 #[.string ⟨#[126]⟩,v] w (aq (.real (aw (wT u))) w))∧(∀(x:Fl) (u:Nat) (hu:u<2^64) (lf:x.b=(u:Int)) (v:Value) (w:World) (hN:NF w w.heap.size v [x]) (h1:aW [x] [3]=true),Calls prog 9 #[.string ⟨#[97,98,115]⟩,v] w (aq (.real (aw (Dx u))) w))∧(∀(x:Fl) (u:Nat) (hu:u<2^64) (lf:x.b=(u:Int)) (v:Value) (w:World) (hN:NF w w.heap.size v [x]) (h1:aW [x] [3]=true),Calls prog 9 #[.string ⟨#[102,108,111,111,114]⟩,v] w (aq (aX (lg .down u)) w))∧(∀(x:Fl) (u:Nat) (hu:u<2^64) (lf:x.b=(u:Int)) (v:Value) (w:World) (hN:NF w w.heap.size v [x]) (h1:aW [x] [3]=true),Calls prog 9 #[.string ⟨#[99,101,105,108]⟩,v] w (aq (aX (lg .up u)) w))∧(∀(x:Fl) (u:Nat) (hu:u<2^64) (lf:x.b=(u:Int)) (v:Value) (w:World) (hN:NF w w.heap.size v [x]) (h1:aW [x] [3]=true),Calls prog 9 #[.string ⟨#[116,114,117,110,99]⟩,v] w (aq (aX (lg .zero u)) w))∧(∀(x:Fl) (u:Nat) (hu:u<2^64) (lf:x.b=(u:Int)) (v:Value) (w:World) (hN:NF w w.heap.size v [x]) (h1:aW [x] [3]=true),Calls prog 9 #[.string ⟨#[114,111,117,110,100]⟩,v] w (aq (aX (lg .even u)) w))∧(∀(x:Fl) (u:Nat) (hu:u<2^64) (lf:x.b=(u:Int)) (v:Value) (w:World) (hN:NF w w.heap.size v [x]) (h1:aW [x] [3]=true),Calls prog 9 #[.string ⟨#[105,115,78,97,110]⟩,v] w (aq (aE (co u==0)) w))∧(∀(S:List UInt8) (hS:S≠[126]∧S≠[97,98,115]∧S≠[102,108,111,111,114]∧S≠[99,101,105,108]∧S≠[116,114,117,110,99]∧S≠[114,111,117,110,100]∧S≠[105,115,78,97,110]) (x:Fl) (u:Nat) (hu:u<2^64) (lf:x.b=(u:Int)) (v:Value) (w:World) (hE:gV w) (hN:NF w w.heap.size v [x]) (h1:aW [x] [3]=true),Calls prog 9 #[.string ⟨S.toArray⟩,v] w (aq (.str (gT u)) w)):=by
 refine⟨?_,?_,?_,?_,?_,?_,?_,?_⟩;intro x u hu lf v w hN h1;have aj:=J (rfl:0=0)
 rotate_left;intro x u hu lf v w hN h1;have aG:=J (rfl:0=0)
 rotate_left;intro x u hu lf v w hN h1;have aP:=J (rfl:0=0)
 rotate_left;intro x u hu lf v w hN h1;have bk:=J (rfl:0=0)
 rotate_left;intro x u hu lf v w hN h1;have bz:=J (rfl:0=0)
 rotate_left;intro x u hu lf v w hN h1;have cE:=J (rfl:0=0)
 rotate_left;intro x u hu lf v w hN h1;have dU:=J (rfl:0=0)
 rotate_left;intro S hS x u hu lf v w hE hN h1;have gu:=J (rfl:0=0)
 all_goals
  obtain⟨ad,nc,rfl,hA⟩:=BK hN;obtain⟨W,hW⟩: ∃W,(w.alloc (.cells bC 38)).alloc (.cells #[.int .i64 3] 23)=W:=⟨_,rfl⟩;have H0:=J (show At1 w W ad x from⟨by rw [←hW];exact aA _ _ _,by rw [←hW];exact(ai.new _ _ _).alloc _,hA.below (by rw [←hW];exact aA _ _ _)⟩)
  have HA:=J (ip [x] [3] _ w W (w.heap.size+1) 1 23 #[.int .i64 3] hN H0.out.bel (by rw [←hW];exact am (by simp) _ _) rfl rfl (by decide))
  rw [h1]at HA;have HXB:=J lf;have HFr:=J (fun u w=>sx u w)
  first
   |replace aj:=aj
    have HF:=J (fun w=>X8 u hu w)
    have HT:=J (fun x w=>iY x w)
    obtain⟨q,hq⟩: ∃q,wT u=q:=⟨_,rfl⟩;rw [hq]at HF⊢;clear hq
   |replace aG:=aG
    have HF:=J (fun w=>KJ u hu w)
    have HT:=J (fun x w=>iY x w)
    obtain⟨q,hq⟩: ∃q,Dx u=q:=⟨_,rfl⟩;rw [hq]at HF⊢;clear hq
   |replace aP:=aP
    have HT:=J (fun n e w=>iX n e w)
    obtain⟨⟨q1,q2⟩,hq⟩: ∃q,lg .down u=q:=⟨_,rfl⟩;have HF:=J (fun w=>(show Calls prog 36 #[.float .f64 u] w fun e w'=>e= .returned (.tuple #[.int .i64 q1, .int .i64 q2])∧∃n,w'=w.drewN n by have h:=M4 u w;rw [hq]at h;exact h))
    rw [hq];clear hq
   |replace bk:=bk
    have HT:=J (fun n e w=>iX n e w)
    obtain⟨⟨q1,q2⟩,hq⟩: ∃q,lg .up u=q:=⟨_,rfl⟩;have HF:=J (fun w=>(show Calls prog 37 #[.float .f64 u] w fun e w'=>e= .returned (.tuple #[.int .i64 q1, .int .i64 q2])∧∃n,w'=w.drewN n by have h:=Tn u w;rw [hq]at h;exact h))
    rw [hq];clear hq
   |replace bz:=bz
    have HT:=J (fun n e w=>iX n e w)
    obtain⟨⟨q1,q2⟩,hq⟩: ∃q,lg .zero u=q:=⟨_,rfl⟩;have HF:=J (fun w=>(show Calls prog 38 #[.float .f64 u] w fun e w'=>e= .returned (.tuple #[.int .i64 q1, .int .i64 q2])∧∃n,w'=w.drewN n by have h:=M5 u w;rw [hq]at h;exact h))
    rw [hq];clear hq
   |replace cE:=cE
    have HT:=J (fun n e w=>iX n e w)
    obtain⟨⟨q1,q2⟩,hq⟩: ∃q,lg .even u=q:=⟨_,rfl⟩;have HF:=J (fun w=>(show Calls prog 39 #[.float .f64 u] w fun e w'=>e= .returned (.tuple #[.int .i64 q1, .int .i64 q2])∧∃n,w'=w.drewN n by have h:=M6 u w;rw [hq]at h;exact h))
    rw [hq];clear hq
   |replace dU:=dU
    have HF:=J (fun w=>tV u hu w)
    have HT:=J (fun b w=>pY b w)
    generalize co u=c at *
   |have s0:(S==[126])=false:=zf.2 hS.1
    have s1:(S==[97,98,115])=false:=zf.2 hS.2.1;have s2:(S==[102,108,111,111,114])=false:=zf.2 hS.2.2.1;have s3:(S==[99,101,105,108])=false:=zf.2 hS.2.2.2.1;have s4:(S==[116,114,117,110,99])=false:=zf.2 hS.2.2.2.2.1;have s5:(S==[114,111,117,110,100])=false:=zf.2 hS.2.2.2.2.2.1;have s6:(S==[105,115,78,97,110])=false:=zf.2 hS.2.2.2.2.2.2;have HF:=J (fun w1 (hb:Below w.heap.size w w1)=>Ta u hu w1 (hE.below hb (za _)))
    unfold jG at HF;have HT:=J (fun s w=>mO s w)
    generalize gT u=q at *;clear hS
  unfold aq at *;clear hN h1 hA lf hu;go_enter func9,ntmps9;go_upto_region 1 with fail
  go_wp2_with (go_at_call 10;(with_reducible refine(HA.out).mono ?_);rintro e w1 ⟨rfl,hb⟩;have H1:=J (H0.out.next hb);have c4:=H1.out.a.bits HXB.out;clear hb)
  clear hW;go_wp2_with (first|(go_at_call 32;(with_reducible refine(HFr.out u _).q ?_))|((first|replace aj:=aj;go_at_call 34|replace aG:=aG;go_at_call 35|replace aP:=aP;go_at_call 36|replace bk:=bk;go_at_call 37|replace bz:=bz;go_at_call 38|replace cE:=cE;go_at_call 39|replace dU:=dU;go_at_call 41|replace gu:=gu;go_at_call 43);((first|replace gu:=gu;(with_reducible refine(HF.out _ H1.out.bel).mono ?_);rintro e w2 ⟨rfl,hb⟩;have H2:=J (H1.out.next hb);clear hb|(first|replace aj:=aj|replace aG:=aG|replace dU:=dU);with_reducible refine(HF.out _).q ?_|(first|replace aP:=aP|replace bk:=bk|replace bz:=bz|replace cE:=cE);(with_reducible refine(HF.out _).mono ?_);rintro e w' ⟨rfl,n,rfl⟩)))|((first|replace dU:=dU;go_at_call 40|replace gu:=gu;go_at_call 42|(first|replace aj:=aj|replace aG:=aG);go_at_call 33|(first|replace aP:=aP|replace bk:=bk|replace bz:=bz|replace cE:=cE);go_at_call 22);(((first|replace dU:=dU;with_reducible refine(HT.out (c==0) _).mono ?_|(first|replace aj:=aj|replace aG:=aG|replace gu:=gu);with_reducible refine(HT.out q _).mono ?_|(first|replace aP:=aP|replace bk:=bk|replace bz:=bz|replace cE:=cE);with_reducible refine(HT.out q1 q2 _).mono ?_));rintro e w3 ⟨rfl,hb⟩;(first|replace gu:=gu;have BX:=J (H2.out.next hb).blk;have HB:=J (H2.out.next hb).bel|(first|replace aj:=aj|replace aG:=aG|replace dU:=dU);have BX:=J (H1.out.next hb).blk;have HB:=J (H1.out.next hb).bel|(first|replace aP:=aP|replace bk:=bk|replace bz:=bz|replace cE:=cE);have BX:=J ((H1.out.drewN _).next hb).blk;have HB:=J ((H1.out.drewN _).next hb).bel);obtain⟨c0,c1,c2,c3,k4,c5,c6,c7,c8,c9,c10⟩:=ah BX.out;obtain⟨f0,f1,f2,f3,f4,f5,f6,f7,f8,f9,ox⟩:=aO BX.out;clear hb)))
  first
   |replace dU:=dU
    obtain⟨z0,z1,z2,z3,z4,z5,z6,z7,z8,z9,cF⟩:=ah (aK (r:=aE (c==0)) BX.out)
   |replace gu:=gu
    obtain⟨z0,z1,z2,z3,z4,z5,z6,z7,z8,z9,cF⟩:=ah (aK (r:= .str q) BX.out)
   |(first|replace aj:=aj|replace aG:=aG)
    obtain⟨z0,z1,z2,z3,z4,z5,z6,z7,z8,z9,cF⟩:=ah (aK (r:= .real (aw q)) BX.out)
   |obtain⟨z0,z1,z2,z3,z4,z5,z6,z7,z8,z9,cF⟩:=ah (aK (r:=aX (q1,q2)) BX.out)
  unfold cD at z0 z1 z2 z3 z4 z5 z6 z7 z8 z9 cF
  first
   |replace dU:=dU
    refine zi (v:=eM (aE (c==0))) (by simp [results,results9,go_sem,z0,z1,z2,z3,z4,z5,z6,z7,z8,z9,cF]) rfl ⟨rfl,au HB.out (za _)⟩
   |replace gu:=gu
    refine zi (v:=eM (.str q)) (by simp [results,results9,go_sem,z0,z1,z2,z3,z4,z5,z6,z7,z8,z9,cF]) rfl ⟨rfl,au HB.out (za _)⟩
   |(first|replace aj:=aj|replace aG:=aG)
    refine zi (v:=eM (.real (aw q))) (by simp [results,results9,go_sem,z0,z1,z2,z3,z4,z5,z6,z7,z8,z9,cF]) rfl ⟨rfl,au HB.out (za _)⟩
   |refine zi (v:=eM (aX (q1,q2))) (by simp [results,results9,go_sem,z0,z1,z2,z3,z4,z5,z6,z7,z8,z9,cF]) rfl ⟨rfl,au HB.out (za _)⟩
def Hi:=cZ.1
def Hj:=cZ.2.1
def BN:=cZ.2.2.1
def En:=cZ.2.2.2.1
def BO:=cZ.2.2.2.2.1
def BQ:=cZ.2.2.2.2.2.1
def Hk:=cZ.2.2.2.2.2.2.1
def Eo:=cZ.2.2.2.2.2.2.2
theorem eH:(∀(x y:Fl) (u t:Nat) (lf:x.b=(u:Int)) (AO:y.b=(t:Int)) (v:Value) (w:World) (hN:NF w w.heap.size v [x,y]) (h1:aW [x,y] [3,3]=true),Calls prog 9 #[.string ⟨#[43]⟩,v] w (aq (.real (aw (lU (Ieee.double.add u t)))) w))∧(∀(x y:Fl) (u t:Nat) (lf:x.b=(u:Int)) (AO:y.b=(t:Int)) (v:Value) (w:World) (hN:NF w w.heap.size v [x,y]) (h1:aW [x,y] [3,3]=true),Calls prog 9 #[.string ⟨#[45]⟩,v] w (aq (.real (aw (lU (Ieee.double.sub u t)))) w))∧(∀(x y:Fl) (u t:Nat) (lf:x.b=(u:Int)) (AO:y.b=(t:Int)) (v:Value) (w:World) (hN:NF w w.heap.size v [x,y]) (h1:aW [x,y] [3,3]=true),Calls prog 9 #[.string ⟨#[42]⟩,v] w (aq (.real (aw (lU (Ieee.double.mul u t)))) w))∧(∀(x y:Fl) (u t:Nat) (lf:x.b=(u:Int)) (AO:y.b=(t:Int)) (v:Value) (w:World) (hN:NF w w.heap.size v [x,y]) (h1:aW [x,y] [3,3]=true),Calls prog 9 #[.string ⟨#[47]⟩,v] w (aq (.real (aw (lU (Ieee.double.div u t)))) w))∧(∀(x y:Fl) (u t:Nat) (lf:x.b=(u:Int)) (AO:y.b=(t:Int)) (v:Value) (w:World) (hN:NF w w.heap.size v [x,y]) (h1:aW [x,y] [3,3]=true),Calls prog 9 #[.string ⟨#[115,97,109,101]⟩,v] w (aq (aE (gw u t==0)) w))∧(∀(S:List UInt8) (hS:S≠[43]∧S≠[45]∧S≠[42]∧S≠[47]∧S≠[115,97,109,101]) (x y:Fl) (u t:Nat) (lf:x.b=(u:Int)) (AO:y.b=(t:Int)) (v:Value) (w:World) (hN:NF w w.heap.size v [x,y]) (h1:aW [x,y] [3,3]=true),Calls prog 9 #[.string ⟨S.toArray⟩,v] w (aq (aE (ck S (gw u t))) w)):=by
 refine⟨?_,?_,?_,?_,?_,?_⟩;intro x y u t lf AO v w hN h1;have aj:=J (rfl:0=0)
 rotate_left;intro x y u t lf AO v w hN h1;have aG:=J (rfl:0=0)
 rotate_left;intro x y u t lf AO v w hN h1;have aP:=J (rfl:0=0)
 rotate_left;intro x y u t lf AO v w hN h1;have bk:=J (rfl:0=0)
 rotate_left;intro x y u t lf AO v w hN h1;have bz:=J (rfl:0=0)
 rotate_left;intro S hS x y u t lf AO v w hN h1;have cE:=J (rfl:0=0)
 all_goals
  obtain⟨ad,nc,rfl,hA,tc⟩:=ud hN;have h0:aW [x,y] [3]=false:=by simp [aW]
  obtain⟨W,hW⟩: ∃W,(w.alloc (.cells bC 38)).alloc (.cells #[.int .i64 3] 23)=W:=⟨_,rfl⟩;have H0:=J (show At2 w W ad x y from⟨by rw [←hW];exact aA _ _ _,by rw [←hW];exact(ai.new _ _ _).alloc _,hA.below (by rw [←hW];exact aA _ _ _),tc.below (by rw [←hW];exact aA _ _ _)⟩)
  have HA:=J (ip [x,y] [3] _ w W (w.heap.size+1) 1 23 #[.int .i64 3] hN H0.out.bel (by rw [←hW];exact am (by simp) _ _) rfl rfl (by decide))
  have tq:=J (fun w1 (hb:Below w.heap.size w w1)=>mb [x,y] [3,3] _ w w1 2 23 #[.int .i64 3, .int .i64 3] hN hb rfl rfl (by decide))
  rw [h0]at HA;rw [h1]at tq;have HXB:=J lf;have HYB:=J AO;have HFr:=J (fun u w=>sx u w)
  first
   |replace aj:=aj
    have HF:=J (fun w=>(show Calls prog 44 #[.float .f64 u, .float .f64 t] w fun e w'=> ∃z,e= .returned (.float .f64 z)∧aw z=aw (lU (Ieee.double.add u t))∧Below w.heap.size w w' from(X7 u t w).mono fun _ _ ⟨z,n,h,hz,hw⟩=>⟨z,h,vQ hz,by rw [hw];exact below_drewN (zg _ _) n⟩))
    have HT:=J (fun x w=>iY x w)
    generalize aw (lU (Ieee.double.add u t))=q at *
   |replace aG:=aG
    have HF:=J (fun w=>(show Calls prog 45 #[.float .f64 u, .float .f64 t] w fun e w'=> ∃z,e= .returned (.float .f64 z)∧aw z=aw (lU (Ieee.double.sub u t))∧Below w.heap.size w w' from(XZ u t w).mono fun _ _ ⟨z,n,h,hz,hw⟩=>⟨z,h,vQ hz,by rw [hw];exact below_drewN (zg _ _) n⟩))
    have HT:=J (fun x w=>iY x w)
    generalize aw (lU (Ieee.double.sub u t))=q at *
   |replace aP:=aP
    have HF:=J (fun w=>(show Calls prog 46 #[.float .f64 u, .float .f64 t] w fun e w'=> ∃z,e= .returned (.float .f64 z)∧aw z=aw (lU (Ieee.double.mul u t))∧Below w.heap.size w w' from(X0 u t w).mono fun _ _ ⟨z,n,h,hz,hw⟩=>⟨z,h,vQ hz,by rw [hw];exact below_drewN (zg _ _) n⟩))
    have HT:=J (fun x w=>iY x w)
    generalize aw (lU (Ieee.double.mul u t))=q at *
   |replace bk:=bk
    have HF:=J (fun w=>(show Calls prog 47 #[.float .f64 u, .float .f64 t] w fun e w'=> ∃z,e= .returned (.float .f64 z)∧aw z=aw (lU (Ieee.double.div u t))∧Below w.heap.size w w' from(X5 u t w).mono fun _ _ ⟨z,n,h,hz,hw⟩=>⟨z,h,vQ hz,by rw [hw];exact below_drewN (zg _ _) n⟩))
    have HT:=J (fun x w=>iY x w)
    generalize aw (lU (Ieee.double.div u t))=q at *
   |replace bz:=bz
    have HF:=J (fun w=>uN u t w)
    have HT:=J (fun b w=>pY b w)
    generalize gw u t=c at *
   |have s0:(S==[43])=false:=zf.2 hS.1
    have s1:(S==[45])=false:=zf.2 hS.2.1;have s2:(S==[42])=false:=zf.2 hS.2.2.1;have s3:(S==[47])=false:=zf.2 hS.2.2.2.1;have s4:(S==[115,97,109,101])=false:=zf.2 hS.2.2.2.2;have HF:=J (fun w=>uN u t w)
    have HT:=J (fun c w=>ul S c w)
    generalize gw u t=c at *;clear hS
  unfold aq at *;clear hN h1 h0 hA tc lf AO;go_enter func9,ntmps9;go_upto_region 1 with fail
  go_wp2_with (go_at_call 10;(with_reducible refine(HA.out).mono ?_);rintro e w1 ⟨rfl,hb⟩;have H1:=J (H0.out.next hb);clear hb)
  clear hW;go_upto_region 21 with(go_at_call 10;(with_reducible refine(tq.out _ H1.out.bel).mono ?_);rintro e w2 ⟨rfl,hb⟩;have H2:=J (H1.out.next hb);have c4:=H2.out.a.bits HXB.out;have d4:=H2.out.b.bits HYB.out;clear hb)
  go_quiet ((go_at_call 32;exact Zp ((HFr.out _ _).mono fun _ _ hh=>⟨hh.1,hh.2.symm⟩)))
  have H3:=J (H2.out.drewN nq);generalize w2.drewN nq=w3 at *;go_wp2_with (first|((first|replace aj:=aj;go_at_call 44|replace aG:=aG;go_at_call 45|replace aP:=aP;go_at_call 46|replace bk:=bk;go_at_call 47|(first|replace bz:=bz|replace cE:=cE);go_at_call 48);(with_reducible refine(HF.out _).mono ?_);(first|(first|replace bz:=bz|replace cE:=cE);rintro e w' ⟨rfl,rfl⟩;have H4:=J H3.out|(first|replace aj:=aj|replace aG:=aG|replace aP:=aP|replace bk:=bk);rintro e w4 ⟨z,rfl,hz,hb⟩;have HZ:=J hz;have H4:=J (H3.out.next hb);clear hb hz))|((first|replace bz:=bz;go_at_call 40|replace cE:=cE;go_at_call 11|(first|replace aj:=aj|replace aG:=aG|replace aP:=aP|replace bk:=bk);go_at_call 33);(((first|replace bz:=bz;with_reducible refine(HT.out (c==0) _).mono ?_|replace cE:=cE;with_reducible refine(HT.out c _).mono ?_|(first|replace aj:=aj|replace aG:=aG|replace aP:=aP|replace bk:=bk);with_reducible refine(HT.out z _).mono ?_));rintro e w5 ⟨rfl,hb⟩;have BX:=J (H4.out.next hb).blk;have HB:=J (H4.out.next hb).bel;obtain⟨c0,c1,c2,c3,k4,c5,c6,c7,c8,c9,c10⟩:=ah BX.out;obtain⟨f0,f1,f2,f3,f4,f5,f6,f7,f8,f9,ox⟩:=aO BX.out;clear hb)))
  first
   |replace bz:=bz
    obtain⟨z0,z1,z2,z3,z4,z5,z6,z7,z8,z9,cF⟩:=ah (aK (r:=aE (c==0)) BX.out)
   |replace cE:=cE
    obtain⟨z0,z1,z2,z3,z4,z5,z6,z7,z8,z9,cF⟩:=ah (aK (r:=aE (ck S c)) BX.out)
   |obtain⟨z0,z1,z2,z3,z4,z5,z6,z7,z8,z9,cF⟩:=ah (aK (r:= .real (aw z)) BX.out)
  unfold cD at z0 z1 z2 z3 z4 z5 z6 z7 z8 z9 cF
  first
   |replace bz:=bz
    refine zi (v:=eM (aE (c==0))) (by simp [results,results9,go_sem,z0,z1,z2,z3,z4,z5,z6,z7,z8,z9,cF]) rfl ⟨rfl,au HB.out (za _)⟩
   |replace cE:=cE
    refine zi (v:=eM (aE (ck S c))) (by simp [results,results9,go_sem,z0,z1,z2,z3,z4,z5,z6,z7,z8,z9,cF]) rfl ⟨rfl,au HB.out (za _)⟩
   |refine zi (v:=eM (.real (aw z))) (by simp [results,results9,go_sem,z0,z1,z2,z3,z4,z5,z6,z7,z8,z9,cF]) rfl ⟨by rw [HZ.out],au HB.out (za _)⟩
def Hl:=eH.1
def Hm:=eH.2.1
def Hn:=eH.2.2.1
def Ho:=eH.2.2.2.1
def Ep:=eH.2.2.2.2.1
def Hp:=eH.2.2.2.2.2
theorem Pg(S:List UInt8)(L:List Fl)(v:Value)(w:World)(hN:NF w w.heap.size v L)(h1:aW L [3]=false)(h2:aW L [3,3]=false):Calls prog 9 #[.string ⟨S.toArray⟩,v] w (aq .no w):=by
 obtain⟨NA,nc,rfl,_,_⟩:=hN.len;obtain⟨W,hW⟩: ∃W,(w.alloc (.cells bC 38)).alloc (.cells #[.int .i64 3] 23)=W:=⟨_,rfl⟩;have dD:=J (show Below w.heap.size w W by rw [←hW];exact aA _ _ _)
 have HZ:=J (show ai W w.heap.size 38 bC by rw [←hW];exact(ai.new _ _ _).alloc _)
 have HA:=J (ip L [3] _ w W (w.heap.size+1) 1 23 #[.int .i64 3] hN dD.out (by rw [←hW];exact am (by simp) _ _) rfl rfl (by decide))
 have tq:=J (fun w1 (hb:Below w.heap.size w w1)=>mb L [3,3] _ w w1 2 23 #[.int .i64 3, .int .i64 3] hN hb rfl rfl (by decide))
 rw [h1]at HA;rw [h2]at tq;unfold aq at *;clear hN h1 h2;go_enter func9,ntmps9;go_upto_region 1 with fail
 go_wp2_with (go_at_call 10;(with_reducible refine(HA.out).mono ?_);rintro e w1 ⟨rfl,hb⟩;have bp:=J (dD.out.trans (hb.mono dD.out.size));have jo:=J (HZ.out.below hb HZ.out.lt);clear hb)
 clear hW;go_upto_region 20 with(go_at_call 10;(with_reducible refine(tq.out _ bp.out).mono ?_);rintro e w2 ⟨rfl,hb⟩;have HB:=J (bp.out.trans (hb.mono bp.out.size));have BX:=J (jo.out.below hb jo.out.lt);obtain⟨c0,c1,c2,c3,c4,c5,c6,c7,c8,c9,c10⟩:=ah BX.out;obtain⟨f0,f1,f2,f3,f4,f5,f6,f7,f8,f9,ox⟩:=aO BX.out;clear hb)
 go_wp2_with fail
 obtain⟨z0,z1,z2,z3,z4,z5,z6,z7,z8,z9,cF⟩:=ah (aK (r:= .no) BX.out);unfold cD at z0 z1 z2 z3 z4 z5 z6 z7 z8 z9 cF;simp only [rk,ri,rb,rt,rc,ro]at z0 z1 z2 z3 z4 z5 z6 z7 z8 z9 cF;refine zi (v:= .agg bC) (by simp [results,results9,go_sem,z0,z1,z2,z3,z4,z5,z6,z7,z8,z9,cF]) rfl ⟨rfl,au (r:= .no) HB.out (za _)⟩
theorem e_(S:List UInt8)(L:List Fl)(v:Value)(w:World)(hE:gV w)(hb: ∀t∈L,0≤t.b∧t.b<2^64)(hN:NF w w.heap.size v L):Calls prog 9 #[.string ⟨S.toArray⟩,v] w (aq (dm S L) w):=by
 have hbu: ∀t∈L,t.b=(t.b.toNat:Int)∧t.b.toNat<2^64:=fun t ht=>by have:=hb t ht;omega
 unfold dm
 cases h1:aW L [3]with
 |true=>
  obtain⟨x,rfl,_⟩:=kP h1;obtain⟨lf,hu⟩:=hbu x (by simp)
  rw [zh rfl];show Calls _ _ _ _ (aq (DR S x.b.toNat) w);generalize x.b.toNat=u at *;unfold DR
  by_cases s0:S=[126]
  ·subst s0;rw [zh rfl];exact Hi x u hu lf v w hN h1
  rw [ze s0]
  by_cases s1:S=[97,98,115]
  ·subst s1;rw [zh rfl];exact Hj x u hu lf v w hN h1
  rw [ze s1]
  by_cases s2:S=[102,108,111,111,114]
  ·subst s2;rw [zh rfl];exact BN x u hu lf v w hN h1
  rw [ze s2]
  by_cases s3:S=[99,101,105,108]
  ·subst s3;rw [zh rfl];exact En x u hu lf v w hN h1
  rw [ze s3]
  by_cases s4:S=[116,114,117,110,99]
  ·subst s4;rw [zh rfl];exact BO x u hu lf v w hN h1
  rw [ze s4]
  by_cases s5:S=[114,111,117,110,100]
  ·subst s5;rw [zh rfl];exact BQ x u hu lf v w hN h1
  rw [ze s5]
  by_cases s6:S=[105,115,78,97,110]
  ·subst s6;rw [zh rfl];exact Hk x u hu lf v w hN h1
  rw [ze s6];exact Eo S ⟨s0,s1,s2,s3,s4,s5,s6⟩ x u hu lf v w hE hN h1
 |false=>
  rw [ze (by decide)]
  cases h2:aW L [3,3]with
  |false=>rw [ze (by decide)];exact Pg S L v w hN h1 h2
  |true=>
   obtain⟨x,y,rfl,_,_⟩:=eG h2;obtain⟨lf,hu⟩:=hbu x (by simp)
   obtain⟨AO,ht⟩:=hbu y (by simp)
   rw [zh rfl];show Calls _ _ _ _ (aq (Ao S x.b.toNat y.b.toNat (ck S)) w);generalize x.b.toNat=u at *;generalize y.b.toNat=t at *;unfold Ao
   by_cases s0:S=[43]
   ·subst s0;rw [zh rfl];exact Hl x y u t lf AO v w hN h2
   rw [ze s0]
   by_cases s1:S=[45]
   ·subst s1;rw [zh rfl];exact Hm x y u t lf AO v w hN h2
   rw [ze s1]
   by_cases s2:S=[42]
   ·subst s2;rw [zh rfl];exact Hn x y u t lf AO v w hN h2
   rw [ze s2]
   by_cases s3:S=[47]
   ·subst s3;rw [zh rfl];exact Ho x y u t lf AO v w hN h2
   rw [ze s3]
   by_cases s4:S=[115,97,109,101]
   ·subst s4;rw [zh rfl];exact Ep x y u t lf AO v w hN h2
   rw [ze s4];exact Hp S ⟨s0,s1,s2,s3,s4⟩ x y u t lf AO v w hN h2
end Go.Proofs.YtcpmiplofbfmfaaGreatDoor
