/- Shrink: the law's tuple as the law builds it. -/
import Derived.Test.YtcpmiplofbfmfaaGreatDoorA09
set_option linter.all false
set_option maxRecDepth 100000
set_option maxHeartbeats 4000000
namespace Go.Proofs.YtcpmiplofbfmfaaGreatDoor
open Tryz
open Go.RowKit LamM CpsM FloM ShrM Go.Maps
theorem pV{w:World}{n:Nat}(h:w.heap.size=n)(t:TypeId)(cs:Array Value):ai (w.alloc (.cells cs t)) n t cs:=by subst h;exact ai.new w t cs
abbrev slT(g n:Nat):Value:= .slice (some ⟨g,0,none⟩) n n
abbrev vN:Value:= .slice none 0 0
def adh(r:Nat):List Fq:=[(bV 5,vN,vN,vN),(bV 6,vN,vN,vN),(gU 1,vN,vN,vN),(gU 2,vN,vN,vN),(jP [3],vN,vN,slT (r+1) 1),(nI 2 [2,4],vN,vN,slT (r+1+1) 2),(o9 1 [0,1,5],vN,vN,slT (r+1+1+1) 3)]
def T9(w:World)(e:Ending)(w':World):Prop:= ∃g,e= .returned (.agg #[.slice (some ⟨g,0,none⟩) 7 7, .int .i64 6])∧NF w' w'.heap.size (.slice (some ⟨g,0,none⟩) 7 7) dM∧Below w.heap.size w w'
theorem Ys{r:Nat}{w W:World}{a:Act}(h0:ai W r 63 #[.slice (some ⟨r+1+1+1+1,0,none⟩) 7 7, .int .i64 6])(h1:ai W (r+1) 3 #[.int .i64 3])(h2:ai W (r+1+1) 3 #[.int .i64 2, .int .i64 4])(h3:ai W (r+1+1+1) 3 #[.int .i64 0, .int .i64 1, .int .i64 5])
 (h7:ai W (r+1+1+1+1) 28 (dH (adh r)).toArray)
 (hb:Below w.heap.size w W) (ht:a.tmps.getD 0 undef= .pointer (some ⟨r,0,none⟩)) (hd:a.defers=[]):
 bodyPost prog Tryz.f19 (T9 w) .ret a W:=by
 have q0:=h0.c0;have q1:=h0.c1;refine zi (v:= .agg #[.slice (some ⟨r+1+1+1+1,0,none⟩) 7 7, .int .i64 6]) ?_ hd ⟨_,rfl,?_,hb⟩
 ·have x9:a.tmps[0]?.getD undef= .pointer (some ⟨r,0,none⟩):=by simpa using ht
  simp [results,results19,go_sem,x9,q0,q1]
 ·have hn:=J9 (w:=W) (g:=r+1+1+1+1) (c:=7) (l:=adh r) (fun k u hk=>by rw [h7.cell k];simpa using hk) h7.lt (show 7≤7 from za _) (show 7≤1300000000000 by decide) (fun x hx=>by
   simp only [adh,zx,List.mem_nil_iff,Zo]at hx
   rcases hx with rfl|rfl|rfl|rfl|rfl|rfl|rfl
   ·exact hJ rfl (bm _ _) (bm _ _)
   ·exact hJ rfl (bm _ _) (bm _ _)
   ·exact hJ rfl (bm _ _) (bm _ _)
   ·exact hJ rfl (bm _ _) (bm _ _)
   ·exact hJ rfl (bm _ _) (FW (l:=[3]) h1 (by decide))
   ·exact hJ rfl (bm _ _) (FW (l:=[2,4]) h2 (by decide))
   ·exact hJ rfl (bm _ _) (FW (l:=[0,1,5]) h3 (by decide)))
  exact hn
theorem NN(w:World):Calls prog 19 #[] w (T9 w):=by
 go_enter func19,ntmps19;go_wp2_with fail;refine Ys (((((pV rfl _ _).alloc _).alloc _).alloc _).alloc _) ((((pV (by simp) _ _).alloc _).alloc _).alloc _) (((pV (by simp) _ _).alloc _).alloc _) ((pV (by simp) _ _).alloc _) (pV (by simp) _ _) ?_ rfl rfl
 exact(((((zg w.heap.size w).alloc (za _) _).alloc (by simp) _).alloc (by simp;omega) _).alloc (by simp;omega) _).alloc (by simp;omega) _
set_option maxHeartbeats 8000000
open Lib renaming hid→J
open Go.RowKit LamM CpsM FloM ShrM
theorem qW(P i:Nat)(fv ov sv:Value)(t:Fl)(nds:List Wn)(nx:Int)(L:List Fl)(S:Sc):(∀(w:World) (ht:L[i]? =some t) (hk:t.k=2) (ha:t.args=[]) (hW:mU P fv w ov nds nx) (hl:nds.length≤99) (hS:rG w sv S) (hN:NF w P fv L),Calls prog 130 #[.pointer (some ⟨P,0,none⟩), .int .i64 (i:Int),sv] w (nW P fv w ov nds (nds.map (·.1)++[⟨2,0,0,t.i,0,[],[],[],[]⟩],nx)))∧(∀(m:Int) (w:World) (ht:L[i]? =some t) (hk:t.k=1) (ha:t.args=[]) (hW:mU P fv w ov nds nx) (hl:nds.length≤99) (hS:rG w sv ((t.n,m)::S)) (hN:NF w P fv L),Calls prog 130 #[.pointer (some ⟨P,0,none⟩), .int .i64 (i:Int),sv] w (nW P fv w ov nds (nds.map (·.1)++[⟨1,m,0,0,0,[],[],[],[]⟩],nx))):=by
 refine⟨?_,?_⟩;intro w ht hk ha hW hl hS hN;have aj:=J (rfl:0=0)
 rotate_left;intro m w ht hk ha hW hl hS hN
 all_goals
  obtain⟨i0,gF,lQ,yD,hi3⟩:=Zv AU;obtain⟨pp,rfl⟩:=hS.ptr;obtain⟨OA,oc,rfl⟩: ∃a c,ov= .slice a nds.length c:=by obtain⟨a,c,e⟩:=eh hW.own;exact⟨a,c,e⟩
  obtain⟨NA,nc,rfl,lj,gW⟩:=hN.len;have hi:=(zq.1 ht).1;obtain⟨ad,vv,kv,av,hA,hb,yI,d0,d1,d2,d3,d4,d5,d6,d7,d8⟩:=hN.at9 ht;subst hA;obtain⟨VA,vc,rfl,_,_⟩:=yI.v.len;obtain⟨KA,kc,rfl,_,_⟩:=yI.k.len;obtain⟨AA,ac,rfl,_,_⟩:=yI.a.len;rw [ha]at d8;rw [hk]at d0;have l0:([]:List Int).length=0:=rfl;rw [l0]at d8;have dw:(i:Int)<(L.length:Int):=by omega
  have gX:(0:Int)≤(i:Int):=by omega
  have p0:=hW.blk.c0
  first
   |replace aj:=aj
    obtain⟨wc,lw⟩: ∃wc,(w.alloc (.cells #[.int .i64 2, .int .i64 t.n, .int .i64 t.m, .int .i64 t.i, .int .u64 t.b, .string ⟨t.t.toArray⟩, .slice VA t.vars.length vc, .slice KA t.keys.length kc, .slice AA 0 ac] 28)).alloc (.cells #[.int .i64 2, .int .i64 0, .int .i64 0, .int .i64 t.i, .int .u64 0, .string ⟨#[]⟩, .slice none 0 0, .slice none 0 0, .slice none 0 0] 28)=wc:=⟨_,rfl⟩
   |obtain⟨wc,lw⟩: ∃wc,(w.alloc (.cells #[.int .i64 1, .int .i64 t.n, .int .i64 t.m, .int .i64 t.i, .int .u64 t.b, .string ⟨t.t.toArray⟩, .slice VA t.vars.length vc, .slice KA t.keys.length kc, .slice AA 0 ac] 28)).alloc (.cells #[.int .i64 1, .int .i64 m, .int .i64 0, .int .i64 0, .int .u64 0, .string ⟨#[]⟩, .slice none 0 0, .slice none 0 0, .slice none 0 0] 28)=wc:=⟨_,rfl⟩
  have rW:=show Below w.heap.size w wc by rw [←lw];exact aA _ _ _
  first
   |replace aj:=aj
    have HX:=show ai wc w.heap.size 28 #[.int .i64 2, .int .i64 t.n, .int .i64 t.m, .int .i64 t.i, .int .u64 t.b, .string ⟨t.t.toArray⟩, .slice VA t.vars.length vc, .slice KA t.keys.length kc, .slice AA 0 ac]by rw [←lw];exact(ai.new _ _ _).alloc _
    have qA:=J (show ai wc (w.heap.size+1) 28 #[.int .i64 2, .int .i64 0, .int .i64 0, .int .i64 t.i, .int .u64 0, .string ⟨#[]⟩, .slice none 0 0, .slice none 0 0, .slice none 0 0]by rw [←lw];exact am (by simp) _ _)
   |have HX:=show ai wc w.heap.size 28 #[.int .i64 1, .int .i64 t.n, .int .i64 t.m, .int .i64 t.i, .int .u64 t.b, .string ⟨t.t.toArray⟩, .slice VA t.vars.length vc, .slice KA t.keys.length kc, .slice AA 0 ac]by rw [←lw];exact(ai.new _ _ _).alloc _
    have qA:=J (show ai wc (w.heap.size+1) 28 #[.int .i64 1, .int .i64 m, .int .i64 0, .int .i64 0, .int .u64 0, .string ⟨#[]⟩, .slice none 0 0, .slice none 0 0, .slice none 0 0]by rw [←lw];exact am (by simp) _ _)
  have HC:=J (hW.below rW);have tp:=J HC.out.own
  have HPN:=J (show P∉(Value.ownBlock (.slice OA nds.length oc)).toList from fun h=>by
   have:=(zr hW.own P (by simpa using h)).1;omega)
  have HAV:=J (show wc.ownsRow (P+1) 3 1 (.slice none 0 0) 0 (aZ [])from ZE _ _ _ _)
  have HBH:=J rW;have e8:=HX.c8;have VU:P<w.heap.size:=hW.blk.lt
  first
   |replace aj:=aj
   |have HF:=J (fun w1 hb=>P4 t.n m S (.pointer pp) w1 (hS.down hb))
  clear hW hS hN yI hb hi ht ha hk HX rW;go_enter func130,ntmps130
  first
   |replace aj:=aj
    go_upto_region 41 with fail
   |go_upto_region 41 with(go_at_call 199;(with_reducible refine(HF.out _ (aA _ _ _)).mono ?_);rintro e w4 ⟨rfl,rfl⟩)
  clear lw;go_wp2_with fail;refine Zi 2 ?_;rw [zI];obtain⟨nl,QY⟩: ∃nl,nds.length=nl:=⟨_,rfl⟩;obtain⟨pc,Cn⟩: ∃pc,dH (nds.map YP)=pc:=⟨_,rfl⟩;rw [QY]at HC tp HPN hl;rw [Cn]at tp;have Fk:=J QY;have th:=J Cn
  first
   |replace aj:=aj
    have oo:=J (FN (t:=⟨2,0,0,t.i,0,[],[],[],[]⟩) (vv:= .slice none 0 0) (kv:= .slice none 0 0) (av:= .slice none 0 0) (by decide))
   |have oo:=J (FN (t:=⟨1,m,0,0,0,[],[],[],[]⟩) (vv:= .slice none 0 0) (kv:= .slice none 0 0) (av:= .slice none 0 0) (by decide))
  clear QY Cn e8;obtain⟨ob,AJ⟩: ∃ob,w.heap.size+1=ob:=⟨_,rfl⟩;rw [AJ]at qA
  try simp only [AJ]
  have ah9:=J AJ;clear AJ;have c1:=HC.out.blk.c1;have hpw:P<wc.heap.size:=HC.out.blk.lt;have c1d:=HC.out.blk.c1;have c1a: ∀o,(wc.alloc o).drew.cell? ⟨P,1,none⟩=some (.slice OA nl oc):=fun o=>(HC.out.blk.alloc o).drew.cell 1
  have d0:=qA.out.drew.c0;have d1:=qA.out.drew.c1;have d2:=qA.out.drew.c2;have d3:=qA.out.drew.c3;have d4:=qA.out.drew.c4;have d5:=qA.out.drew.c5;have d6:=qA.out.drew.c6;have d7:=qA.out.drew.c7;have d8:=qA.out.drew.c8;have qn:decide ((262144:Int)≤(nl:Int))=false:=zb (by omega)
  go_upto_region 51 with fail
  go_region_law (first|(refine cQ _ rfl _ _ 22 rfl (P+1) 28 i0 _ 9 128 AV gF lQ yD hi3 rfl (by decide) _ nl pc rfl (World.ownsRow.drew (ZN tp.out _)) _ _ _ _ [_,_,_,_,_,_,_,_,_] rfl (aT.blk' (ai.drew (ai.new _ _ _)) rfl) oo.out (by unfold maxLen;omega) (by omega) (by show P+1≤(wc.alloc _).heap.size;simp;omega) ?_;intro v2 w5 lc k_ qD;obtain⟨g,c,hv,hgP⟩:=mB lc;subst hv;have yG:=J lc;have HG5:=J (((ap.refl (Value.ownBlock (.slice OA nl oc)).toList wc).alloc _).drew.grown k_ (fun k hk=> .inl (ZL.2 hk)));have HO5:=J (show ap (sW P (.slice OA nl oc)) wc w5 from HG5.out.mono (fun k hk=>by unfold sW;exact ZU _ hk));have FD:=J (HC.out.blk.only HG5.out HPN.out);have VK:=J qD;have c5:=FD.out.c1;have f5:=FD.out.frozen 1;clear lc k_ qD hgP)|fail)
  all_goals
   obtain⟨W6,hW6⟩: ∃W6,w5.setCell ⟨P,1,none⟩ (.slice (some ⟨g,0,none⟩) (nl+1) c)=W6:=⟨_,rfl⟩
   first
    |replace aj:=aj
     have VU:=HC.out.push (out:=⟨2,0,0,t.i,0,[],[],[],[]⟩) (av:=(.slice none 0 0)) rfl rfl HAV.out (by rw [Fk.out,th.out];exact yG.out) HO5.out FD.out
    |have VU:=HC.out.push (out:=⟨1,m,0,0,0,[],[],[],[]⟩) (av:=(.slice none 0 0)) rfl rfl HAV.out (by rw [Fk.out,th.out];exact yG.out) HO5.out FD.out
   rw [hW6]at VU;have Wx:=J VU;have c6:=Wx.out.1.blk.c1;rw [hW6];clear hW6 VU c5 f5;go_wp2_with fail;go_ret
   first
    |replace aj:=aj
     refine⟨_,[(⟨2,0,0,t.i,0,[],[],[],[]⟩,(.slice none 0 0))],?_,Wx.out.1,?_,?_,?_,?_⟩
    |refine⟨_,[(⟨1,m,0,0,0,[],[],[],[]⟩,(.slice none 0 0))],?_,Wx.out.1,?_,?_,?_,?_⟩
   ·show _=Ending.returned (.int .i64 _)
    first
     |replace aj:=aj
      rw [show((nds.map (·.1)++[⟨2,0,0,t.i,0,[],[],[],[]⟩],nx):List Fl×Int).1.length=nl+1 by simp [Fk.out]]
     |rw [show((nds.map (·.1)++[⟨1,m,0,0,0,[],[],[],[]⟩],nx):List Fl×Int).1.length=nl+1 by simp [Fk.out]]
    rw [show((nl+1:Nat):Int)-1=(nl:Int)by omega]
    first
     |rfl
     |(show Ending.returned (Value.int .i64 ((nl:Int)+1-1))=_;rw [Int.add_sub_cancel])
     |(show Ending.returned (Value.int .i64 (((nl+1:Nat):Int)-1))=_;rw [show((nl+1:Nat):Int)-1=(nl:Int)by omega])
   ·simp
   ·rw [Fk.out]
    exact(ap.of_below HBH.out).trans Wx.out.2
   ·intro g hg
    rw [Fk.out]
    rcases VK.out with h|h
    ·exact .inl (h.symm.trans hg)
    ·rw [h]at hg
     injection hg with hg
     have:=HBH.out.size;simp at hg;exact .inr (by omega)
   ·intro x hx g hg
    obtain rfl:=zt.1 hx;simp [Value.ownBlock]at hg
def P6 a b c d e f g h i j:=(qW a b c d e f g h i j).1
def P7 a b c d e f g h i j:=(qW a b c d e f g h i j).2
set_option maxHeartbeats 12000000
theorem JE(k:Int)(w:World):Calls prog 201 #[.int .i64 k] w fun e w'=>e= .returned (.bool (decide (k≤4)))∧w=w':=by
 obtain⟨q,hq⟩: ∃q,decide (k≤4)=q:=⟨_,rfl⟩;rw [hq];go_enter func201,ntmps201;go_wp2_with fail;go_ret
 first|exact⟨rfl,rfl⟩|exact⟨by rw [←hq];rfl,rfl⟩
abbrev jb(P:Nat)(fv ov sv:Value)(t:Fl)(nds:List Wn)(nx:Int)(L:List Fl)(S:Sc)(sts:Nat→List Fl×Int)(us:Nat→Fl)(w:World):Prop:= ∀k a,t.args[k]? =some a→∀(sv ov:Value) (nds:List Wn) (w:World),mU P fv w ov nds (sts k).2→nds.map (·.1)=(sts k).1→rG w sv (if(us k).k≤4 then S else((t.n,nx+1)::S))→NF w P fv L→Calls prog 130 #[.pointer (some ⟨P,0,none⟩), .int .i64 a,sv] w (nW P fv w ov nds (sts (k+1)))
abbrev gd(t:Fl)(sts:Nat→List Fl×Int):Prop:= ∀k,k≤t.args.length→(sts k).1.length≤99∧0≤(sts k).2∧(sts k).2≤100
theorem kW(P i:Nat)(fv ov sv:Value)(t:Fl)(nds:List Wn)(nx:Int)(L:List Fl)(S:Sc)(sts:Nat→List Fl×Int)(us:Nat→Fl)(w:World)(ht:L[i]? =some t):(∀(hk:t.k=13) (hW:mU P fv w ov nds nx) (hS:rG w sv S) (hN:NF w P fv L) (hx:0≤nx∧nx≤99) (h0:sts 0=(nds.map (·.1),nx)) (hb:gd t sts) (hal:t.args.length≤10) (hu: ∀k a,t.args[k]? =some a→0≤a∧L[a.toNat]? =some (us k)) (IH: ∀k a,t.args[k]? =some a→∀(sv ov:Value) (nds:List Wn) (w:World),mU P fv w ov nds (sts k).2→nds.map (·.1)=(sts k).1→rG w sv (if(us k).k≤4 then S else S)→NF w P fv L→Calls prog 130 #[.pointer (some ⟨P,0,none⟩), .int .i64 a,sv] w (nW P fv w ov nds (sts (k+1)))),Calls prog 130 #[.pointer (some ⟨P,0,none⟩), .int .i64 (i:Int),sv] w (nW P fv w ov nds ((sts t.args.length).1++[⟨13,0,0,0,0,[],[],[],iD sts t.args.length⟩],(sts t.args.length).2)))∧(∀(hk:t.k=5) (hW:mU P fv w ov nds nx) (hS:rG w sv S) (hN:NF w P fv L) (hx:0≤nx∧nx≤99) (h0:sts 0=(nds.map (·.1),(nx+1))) (hb:gd t sts) (hal:t.args.length≤10) (hu: ∀k a,t.args[k]? =some a→0≤a∧L[a.toNat]? =some (us k)) (IH:jb P fv ov sv t nds nx L S sts us w),Calls prog 130 #[.pointer (some ⟨P,0,none⟩), .int .i64 (i:Int),sv] w (nW P fv w ov nds ((sts t.args.length).1++[⟨5,nx+1,0,0,0,[],[],[],iD sts t.args.length⟩],(sts t.args.length).2)))∧(∀(hk:t.k=7) (hW:mU P fv w ov nds nx) (hS:rG w sv S) (hN:NF w P fv L) (hx:0≤nx∧nx≤99) (h0:sts 0=(nds.map (·.1),(nx+1))) (hb:gd t sts) (hal:t.args.length≤10) (hu: ∀k a,t.args[k]? =some a→0≤a∧L[a.toNat]? =some (us k)) (IH:jb P fv ov sv t nds nx L S sts us w),Calls prog 130 #[.pointer (some ⟨P,0,none⟩), .int .i64 (i:Int),sv] w (nW P fv w ov nds ((sts t.args.length).1++[⟨7,nx+1,t.m,0,0,[],[],[],iD sts t.args.length⟩],(sts t.args.length).2))):=by
 unfold jb gd;refine⟨?_,?_,?_⟩
 all_goals intro hk hW hS hN hx h0 hb hal hu IH
 have aj:=J (rfl:0=0)
 rotate_left;have aG:=J (rfl:0=0)
 all_goals
  obtain⟨i0,gF,lQ,yD,hi3⟩:=Zv AU;obtain⟨j0,hj0,hj1,hj2,hj3⟩:=Zv DK;obtain⟨pp,rfl⟩:=hS.ptr;obtain⟨NA,nc,rfl,lj,gW⟩:=hN.len;have hi:=(zq.1 ht).1;obtain⟨ad,vv,kv,av,hA,hbk,yI,d0,d1,d2,d3,d4,d5,d6,d7,d8⟩:=hN.at9 ht;subst hA;obtain⟨VA,vc,rfl,_,_⟩:=yI.v.len;obtain⟨KA,kc,rfl,_,_⟩:=yI.k.len;obtain⟨AA,ac,rfl,_,_⟩:=yI.a.len;have HIV:=J yI.a;have HNF:=J hN;have HIH:=J IH;have HU:=J hu;have HBD:=J hb;have HH0:=J h0;rw [hk]at d0;have dw:(i:Int)<(L.length:Int):=by omega
  have gX:(0:Int)≤(i:Int):=by omega
  have p0:=hW.blk.c0;have VU:P<w.heap.size:=hW.blk.lt;have QE:=J hW;have oq:=J hS;obtain⟨xK,gY⟩:=hx;clear hW hS hN yI hi ht hk IH hu hb h0;go_enter func130,ntmps130
  first
   |replace aj:=aj
    go_upto_region 41 with fail
    obtain⟨wc,lw⟩: ∃wc,(w.alloc (.cells #[.int .i64 13, .int .i64 t.n, .int .i64 t.m, .int .i64 t.i, .int .u64 t.b, .string ⟨t.t.toArray⟩, .slice VA t.vars.length vc, .slice KA t.keys.length kc, .slice AA t.args.length ac] 28)).alloc (.cells #[.int .i64 13, .int .i64 (0), .int .i64 (0), .int .i64 0, .int .u64 0, .string ⟨#[]⟩, .slice none 0 0, .slice none 0 0, .slice none 0 0] 28)=wc:=⟨_,rfl⟩;have rW:=J (show Below w.heap.size w wc by rw [←lw];exact aA _ _ _)
    have HXc:=J (show ai wc w.heap.size 28 #[.int .i64 13, .int .i64 t.n, .int .i64 t.m, .int .i64 t.i, .int .u64 t.b, .string ⟨t.t.toArray⟩, .slice VA t.vars.length vc, .slice KA t.keys.length kc, .slice AA t.args.length ac]by rw [←lw];exact(ai.new _ _ _).alloc _)
    have qA:=J (show ai wc (w.heap.size+1) 28 #[.int .i64 13, .int .i64 (0), .int .i64 (0), .int .i64 0, .int .u64 0, .string ⟨#[]⟩, .slice none 0 0, .slice none 0 0, .slice none 0 0]by rw [←lw];exact am (by simp) _ _)
    have HC:=J (QE.out.below rW.out);have HSC:=J (oq.out.down rW.out);have HSI:=J (oq.out.down rW.out);have J1: ∀p:Addr,p.block<P→wc.cell? p=w.cell? p:=fun p hp=>rW.out.cell (Nat.lt_trans hp VU)
    have HKP:=J J1;have aeQ:=rW.out.size;have Wy:=J (ap.of_below (bs:=sW P ov) rW.out);rw [lw];clear lw J1
   |replace aG:=aG
    have cT:Below w.heap.size w ((w.alloc (.cells #[.int .i64 5, .int .i64 t.n, .int .i64 t.m, .int .i64 t.i, .int .u64 t.b, .string ⟨t.t.toArray⟩, .slice VA t.vars.length vc, .slice KA t.keys.length kc, .slice AA t.args.length ac] 28)).alloc (.cells #[.int .i64 5, .int .i64 0, .int .i64 0, .int .i64 0, .int .u64 0, .string ⟨#[]⟩, .slice none 0 0, .slice none 0 0, .slice none 0 0] 28)):=aA _ _ _;have bp:=J cT;have aeP:=J (EX P (.slice (some ad) L.length nc) ov (.pointer pp) nx t.n S ((w.alloc (.cells #[.int .i64 5, .int .i64 t.n, .int .i64 t.m, .int .i64 t.i, .int .u64 t.b, .string ⟨t.t.toArray⟩, .slice VA t.vars.length vc, .slice KA t.keys.length kc, .slice AA t.args.length ac] 28)).alloc (.cells #[.int .i64 5, .int .i64 0, .int .i64 0, .int .i64 0, .int .u64 0, .string ⟨#[]⟩, .slice none 0 0, .slice none 0 0, .slice none 0 0] 28)) (QE.out.below cT).blk (oq.out.down cT) xK (by omega))
    clear cT;go_upto_region 41 with(go_at_call 200;(with_reducible refine(aeP.out).mono ?_);rintro e w4 ⟨bb,rfl,hq1,vw,hq3,hq4,QC⟩;have HQ1:=J hq1;have qX:=J vw;have QI:=J hq3;have HQ4:=J hq4;have HQ5:=J QC;have jC:=J (((ai.new w 28 #[.int .i64 5, .int .i64 t.n, .int .i64 t.m, .int .i64 t.i, .int .u64 t.b, .string ⟨t.t.toArray⟩, .slice VA t.vars.length vc, .slice KA t.keys.length kc, .slice AA t.args.length ac]).alloc (.cells #[.int .i64 5, .int .i64 0, .int .i64 0, .int .i64 0, .int .u64 0, .string ⟨#[]⟩, .slice none 0 0, .slice none 0 0, .slice none 0 0] 28)).only QC (by simp;omega));have J5:=J ((am (W:=w.alloc (.cells #[.int .i64 5, .int .i64 t.n, .int .i64 t.m, .int .i64 t.i, .int .u64 t.b, .string ⟨t.t.toArray⟩, .slice VA t.vars.length vc, .slice KA t.keys.length kc, .slice AA t.args.length ac] 28)) (g:=w.heap.size+1) (by simp) 28 #[.int .i64 5, .int .i64 0, .int .i64 0, .int .i64 0, .int .u64 0, .string ⟨#[]⟩, .slice none 0 0, .slice none 0 0, .slice none 0 0]).only QC (by simp;omega));have x0:=jC.out.cell 0;have x2:=jC.out.cell 2;have y1:=J5.out.cell 1;have y2:=J5.out.cell 2;have u1:=J5.out.frozen 1;have u2:=J5.out.frozen 2;have n1:=vw.cell 1;simp at x0 x2 y1 y2 n1;clear hq1 vw hq3 hq4 QC)
    have YT:=J ((QE.out.below bp.out).bind HQ4.out HQ5.out);obtain⟨wc,lw⟩: ∃wc,w4.setCell ⟨w.heap.size+1,1,none⟩ (.int .i64 (nx+1))=wc:=⟨_,rfl⟩;have uz:ap [w.heap.size+1] w4 wc:=by rw [←lw];exact(ap.refl _ _).one
    have qA:=J (show ai wc (w.heap.size+1) 28 #[.int .i64 5, .int .i64 (nx+1), .int .i64 (0), .int .i64 0, .int .u64 0, .string ⟨#[]⟩, .slice none 0 0, .slice none 0 0, .slice none 0 0]by rw [←lw];exact J5.out.set_ 1 (.int .i64 (nx+1)))
    have HXc:=J (jC.out.only uz (by simp))
    have hrw: ∀g,ov.ownBlock=some g→g<w.heap.size:=fun g e=>(zr QE.out.own g e).2
    have HC:=J (YT.out.other uz (by simp;omega) (fun g e hi=>by have:=hrw g e;have:=zt.1 hi;omega) (fun x hx g e hi=>by have:=(zr (QE.out.args x hx).2.2 g e).2;have:=zt.1 hi;omega))
    have HSC:=J (QI.out.keep (w':=wc) (fun b cs hB=>hB.only uz (fun hi=>hB.ne_ J5.out (by decide) (zt.1 hi))))
    have HSI:=J (rG.cons (qX.out.only uz (fun hi=>qX.out.ne_ J5.out (by decide) (zt.1 hi))) HSC.out)
    have Wy:=J (((ap.of_below (bs:=sW P ov) bp.out).more HQ5.out (fun i hi=> .inl (by rw [zt.1 hi];unfold sW;simp))).more uz (fun i hi=> .inr (by have:=zt.1 hi;omega)))
    have HKP:=J (fun(p:Addr) (hp:p.block<P)=>show wc.cell? p=w.cell? p from zY (Wy.out.block _ (Nat.lt_trans hp VU) (fun hm=>by have:=QE.out.ge hm;omega)))
    have aeQ:=Wy.out.size;rw [lw];clear lw uz hrw x0 x2 y1 y2 u1 u2 n1
   |have cT:Below w.heap.size w ((w.alloc (.cells #[.int .i64 7, .int .i64 t.n, .int .i64 t.m, .int .i64 t.i, .int .u64 t.b, .string ⟨t.t.toArray⟩, .slice VA t.vars.length vc, .slice KA t.keys.length kc, .slice AA t.args.length ac] 28)).alloc (.cells #[.int .i64 7, .int .i64 0, .int .i64 0, .int .i64 0, .int .u64 0, .string ⟨#[]⟩, .slice none 0 0, .slice none 0 0, .slice none 0 0] 28)):=aA _ _ _
    have bp:=J cT;have aeP:=J (EX P (.slice (some ad) L.length nc) ov (.pointer pp) nx t.n S ((w.alloc (.cells #[.int .i64 7, .int .i64 t.n, .int .i64 t.m, .int .i64 t.i, .int .u64 t.b, .string ⟨t.t.toArray⟩, .slice VA t.vars.length vc, .slice KA t.keys.length kc, .slice AA t.args.length ac] 28)).alloc (.cells #[.int .i64 7, .int .i64 0, .int .i64 0, .int .i64 0, .int .u64 0, .string ⟨#[]⟩, .slice none 0 0, .slice none 0 0, .slice none 0 0] 28)) (QE.out.below cT).blk (oq.out.down cT) xK (by omega))
    clear cT;go_upto_region 41 with(go_at_call 200;(with_reducible refine(aeP.out).mono ?_);rintro e w4 ⟨bb,rfl,hq1,vw,hq3,hq4,QC⟩;have HQ1:=J hq1;have qX:=J vw;have QI:=J hq3;have HQ4:=J hq4;have HQ5:=J QC;have jC:=J (((ai.new w 28 #[.int .i64 7, .int .i64 t.n, .int .i64 t.m, .int .i64 t.i, .int .u64 t.b, .string ⟨t.t.toArray⟩, .slice VA t.vars.length vc, .slice KA t.keys.length kc, .slice AA t.args.length ac]).alloc (.cells #[.int .i64 7, .int .i64 0, .int .i64 0, .int .i64 0, .int .u64 0, .string ⟨#[]⟩, .slice none 0 0, .slice none 0 0, .slice none 0 0] 28)).only QC (by simp;omega));have J5:=J ((am (W:=w.alloc (.cells #[.int .i64 7, .int .i64 t.n, .int .i64 t.m, .int .i64 t.i, .int .u64 t.b, .string ⟨t.t.toArray⟩, .slice VA t.vars.length vc, .slice KA t.keys.length kc, .slice AA t.args.length ac] 28)) (g:=w.heap.size+1) (by simp) 28 #[.int .i64 7, .int .i64 0, .int .i64 0, .int .i64 0, .int .u64 0, .string ⟨#[]⟩, .slice none 0 0, .slice none 0 0, .slice none 0 0]).only QC (by simp;omega));have x0:=jC.out.cell 0;have x2:=jC.out.cell 2;have y1:=J5.out.cell 1;have y2:=J5.out.cell 2;have u1:=J5.out.frozen 1;have u2:=J5.out.frozen 2;have n1:=vw.cell 1;simp at x0 x2 y1 y2 n1;clear hq1 vw hq3 hq4 QC)
    have YT:=J ((QE.out.below bp.out).bind HQ4.out HQ5.out);obtain⟨w6,hw6⟩: ∃w6,w4.setCell ⟨w.heap.size+1,1,none⟩ (.int .i64 (nx+1))=w6:=⟨_,rfl⟩;obtain⟨wc,lw⟩: ∃wc,w6.setCell ⟨w.heap.size+1,2,none⟩ (.int .i64 t.m)=wc:=⟨_,rfl⟩;have uz:ap [w.heap.size+1] w4 wc:=by rw [←lw,←hw6];exact(ap.refl _ _).one.one
    have qA:=J (show ai wc (w.heap.size+1) 28 #[.int .i64 7, .int .i64 (nx+1), .int .i64 (t.m), .int .i64 0, .int .u64 0, .string ⟨#[]⟩, .slice none 0 0, .slice none 0 0, .slice none 0 0]by rw [←lw,←hw6];exact(J5.out.set_ 1 (.int .i64 (nx+1))).set_ 2 (.int .i64 t.m))
    have HXc:=J (jC.out.only uz (by simp))
    have hrw: ∀g,ov.ownBlock=some g→g<w.heap.size:=fun g e=>(zr QE.out.own g e).2
    have HC:=J (YT.out.other uz (by simp;omega) (fun g e hi=>by have:=hrw g e;have:=zt.1 hi;omega) (fun x hx g e hi=>by have:=(zr (QE.out.args x hx).2.2 g e).2;have:=zt.1 hi;omega))
    have HSC:=J (QI.out.keep (w':=wc) (fun b cs hB=>hB.only uz (fun hi=>hB.ne_ J5.out (by decide) (zt.1 hi))))
    have HSI:=J (rG.cons (qX.out.only uz (fun hi=>qX.out.ne_ J5.out (by decide) (zt.1 hi))) HSC.out)
    have Wy:=J (((ap.of_below (bs:=sW P ov) bp.out).more HQ5.out (fun i hi=> .inl (by rw [zt.1 hi];unfold sW;simp))).more uz (fun i hi=> .inr (by have:=zt.1 hi;omega)))
    have HKP:=J (fun(p:Addr) (hp:p.block<P)=>show wc.cell? p=w.cell? p from zY (Wy.out.block _ (Nat.lt_trans hp VU) (fun hm=>by have:=QE.out.ge hm;omega)))
    have aeQ:=Wy.out.size;rw [hw6,lw];clear lw uz hrw x0 x2 y1 y2 u1 u2 n1 hw6
  have e8:=HXc.out.c8;go_wp2_with fail
  first
   |replace aj:=aj
    go_loopw [142] (fun ix wr=> ∃(k:Nat) (ov2:Value) (more:List Wn) (av:Value),k≤t.args.length∧ix= .int .i64 (k:Int)∧Hid (US P (w.heap.size+1) (.slice (some ad) L.length nc) L S S (.pointer pp) (.pointer pp) #[.int .i64 13, .int .i64 (0), .int .i64 (0), .int .i64 0, .int .u64 0, .string ⟨#[]⟩, .slice none 0 0, .slice none 0 0] wc ov nds sts k wr ov2 more av)) (fun ix _=>t.args.length-(intOf ix).toNat)
   |replace aG:=aG
    go_loopw [142] (fun ix wr=> ∃(k:Nat) (ov2:Value) (more:List Wn) (av:Value),k≤t.args.length∧ix= .int .i64 (k:Int)∧Hid (US P (w.heap.size+1) (.slice (some ad) L.length nc) L S ((t.n,nx+1)::S) (.pointer pp) (.pointer (some ⟨bb,0,none⟩)) #[.int .i64 5, .int .i64 (nx+1), .int .i64 (0), .int .i64 0, .int .u64 0, .string ⟨#[]⟩, .slice none 0 0, .slice none 0 0] wc ov nds sts k wr ov2 more av)) (fun ix _=>t.args.length-(intOf ix).toNat)
   |go_loopw [142] (fun ix wr=> ∃(k:Nat) (ov2:Value) (more:List Wn) (av:Value),k≤t.args.length∧ix= .int .i64 (k:Int)∧Hid (US P (w.heap.size+1) (.slice (some ad) L.length nc) L S ((t.n,nx+1)::S) (.pointer pp) (.pointer (some ⟨bb,0,none⟩)) #[.int .i64 7, .int .i64 (nx+1), .int .i64 (t.m), .int .i64 0, .int .u64 0, .string ⟨#[]⟩, .slice none 0 0, .slice none 0 0] wc ov nds sts k wr ov2 more av)) (fun ix _=>t.args.length-(intOf ix).toNat)
  case atStart=>
   refine⟨0,ov,[],(.slice none 0 0),zO _,rfl,J ⟨by rw [ZQ,HH0.out];exact HC.out,by rw [ZQ,HH0.out],qA.out,ZE _ _ _ _,fun e=> ?_,⟨by omega,by have:=qA.out.lt;omega⟩,ap.refl _ _,fun g e=> .inl e,fun x hx=>(by cases hx),fun g e=>(by simp [Value.ownBlock]at e),HSC.out,HSI.out,HNF.out.keep HKP.out⟩⟩
   have:=(zr QE.out.own _ e).2;omega
  case round=>
   obtain⟨k,ov2,more,av2,hk,rfl,HR⟩:=hrel;obtain⟨Ck,Cl,rfl⟩: ∃a c,av2= .slice a k c:=by obtain⟨a,c,e⟩:=eh HR.out.row;exact⟨a,c,e⟩
   have hkr: ∀p:Addr,p.block<P→wr.cell? p=w.cell? p:=fun p hp=>(zY (HR.out.only.block _ (by have:=HR.out.s.blk.lt;have:=aeQ;omega) (fun hm=>by
    rcases zx.1 hm with e|e
    ·omega
    ·have:=HC.out.ge e;omega))).trans (HKP.out p hp)
   have r8:wr.cell? ⟨w.heap.size,8,none⟩=some (.slice AA t.args.length ac):=(zY (HR.out.only.block w.heap.size (HXc.out.lt) (fun hm=>by
    rcases zx.1 hm with e|e
    ·omega
    ·rcases nP e with e|e
     ·omega
     ·have:=(zr QE.out.own _ e).2;omega))).trans e8
   clear e8
   rcases zj k t.args.length with bw|iE
   have mz:=J (rfl:0=0)
   all_goals
    first
     |replace mz:=mz
      obtain⟨a,ha⟩: ∃a,t.args[k]? =some a:=⟨_,zk bw⟩;obtain⟨vV,hua⟩:=HU.out k a ha;obtain⟨x,rfl⟩: ∃x:Nat,a=(x:Int):=⟨a.toNat,by omega⟩
      rw [zv]at hua;have hux:=(zq.1 hua).1;obtain⟨aa,haa,_,c0⟩:=(HIV.out.keep hkr).at_ ha;subst haa;obtain⟨QQ,_,_,_,hA',_,_,k0,_⟩:=(HNF.out.keep hkr).at9 hua;obtain rfl:ad=QQ:=by injection hA'
      have g0:=HR.out.s.blk.c0;have eU:(k:Int)<(t.args.length:Int):=by omega
      have hz3:(x:Int)<(L.length:Int):=by omega
      have hz4:(0:Int)≤(x:Int):=by omega
      have vW:=J (HIH.out k x ha);have HI:=J (fun(q:Int) w=>JE q w)
      have rS:=J bw;clear ha hua hux vV hkr
      by_cases hq:(us k).k≤4
      have xS:=J (rfl:0=0)
     |obtain rfl:k=t.args.length:=by omega
      have eU: ¬(t.args.length:Int)<(t.args.length:Int):=by omega
      have Wp:(nds++more).length=(sts t.args.length).1.length:=by rw [←HR.out.m,ZK]
      have hl9:=(HBD.out t.args.length (za _)).1;obtain⟨ndq,aaF⟩: ∃ndq,nds++more=ndq:=⟨_,rfl⟩;have mw:=J (show mU P (.slice (some ad) L.length nc) wr ov2 ndq (sts t.args.length).2 from aaF▸HR.out.s)
      have HNQ:=J aaF;rw [aaF]at Wp;clear aaF;obtain⟨OA,oc,VW⟩: ∃a c,ov2= .slice a ndq.length c:=by obtain⟨a,c,e⟩:=eh mw.out.own;exact⟨a,c,e⟩
      have aia:=J VW;obtain⟨nl,QY⟩: ∃nl,ndq.length=nl:=⟨_,rfl⟩;rw [QY]at Wp VW;obtain⟨pc,Cn⟩: ∃pc,dH (ndq.map YP)=pc:=⟨_,rfl⟩;have tp:=J mw.out.own;rw [QY,Cn,VW]at tp
      have HPN:=J (show P∉(Value.ownBlock (.slice OA nl oc)).toList from fun h=>by
       have:=(zr tp.out P (by simpa using h)).1;omega)
      have HC:=J mw.out;rw [VW]at HC;have aie:(iD sts t.args.length).length=t.args.length:=by unfold iD;simp
      have HAV:=J (show wr.ownsRow (P+1) 3 1 (.slice Ck t.args.length Cl) (iD sts t.args.length).length (aZ (iD sts t.args.length))by rw [aie];exact HR.out.row)
      have Fk:=J QY;have th:=J Cn;have HML:=J Wp
      first
       |replace aj:=aj
        have oo:=J (FN (t:=⟨13,0,0,0,0,[],[],[],iD sts t.args.length⟩) (vv:=(.slice none 0 0)) (kv:=(.slice none 0 0)) (av:= .slice Ck t.args.length Cl) (by intro u hu;simp only [zx,zD,Zo]at hu;rcases hu with rfl|rfl|rfl<;>rfl))
       |replace aG:=aG
        have oo:=J (FN (t:=⟨5,nx+1,0,0,0,[],[],[],iD sts t.args.length⟩) (vv:=(.slice none 0 0)) (kv:=(.slice none 0 0)) (av:= .slice Ck t.args.length Cl) (by intro u hu;simp only [zx,zD,Zo]at hu;rcases hu with rfl|rfl|rfl<;>rfl))
       |have oo:=J (FN (t:=⟨7,nx+1,t.m,0,0,[],[],[],iD sts t.args.length⟩) (vv:=(.slice none 0 0)) (kv:=(.slice none 0 0)) (av:= .slice Ck t.args.length Cl) (by intro u hu;simp only [zx,zD,Zo]at hu;rcases hu with rfl|rfl|rfl<;>rfl))
      have aig:=J HR.out.box;have HRX:=J HR.out.only;have JU:=J HR.out.ownb;have HFR:=J HR.out.fresh;have HFO:=J HR.out.frow;have arD:nl≤99:=by omega
      have amv:=HR.out.obn;clear hkr iE hk QY Cn VW aie Wp;obtain⟨ob,AJ⟩: ∃ob,w.heap.size+1=ob:=⟨_,rfl⟩;rw [AJ]at aig HRX amv
      try simp only [AJ]
      have ah9:=J AJ;clear AJ qA;have qA:=J aig.out;have c1:=HC.out.blk.c1;have hpw:P<wr.heap.size:=HC.out.blk.lt;have c1d:=HC.out.blk.c1;have c1a: ∀o,(wr.alloc o).drew.cell? ⟨P,1,none⟩=some (.slice OA nl oc):=fun o=>(HC.out.blk.alloc o).drew.cell 1
      have d0:=qA.out.drew.c0;have d1:=qA.out.drew.c1;have d2:=qA.out.drew.c2;have d3:=qA.out.drew.c3;have d4:=qA.out.drew.c4;have d5:=qA.out.drew.c5;have d6:=qA.out.drew.c6;have d7:=qA.out.drew.c7;have d8:=qA.out.drew.c8;have qn:decide ((262144:Int)≤(nl:Int))=false:=zb (by omega)
      go_upto_region 51 with fail
      go_region_law (first|(refine cQ _ rfl _ _ 22 rfl (P+1) 28 i0 _ 9 128 AV gF lQ yD hi3 rfl (by decide) _ nl pc rfl (World.ownsRow.drew (ZN tp.out _)) _ _ _ _ [_,_,_,_,_,_,_,_,_] rfl (aT.blk' (ai.drew (ai.new _ _ _)) rfl) oo.out (by unfold maxLen;omega) (by omega) (by show P+1≤(wr.alloc _).heap.size;simp;omega) ?_;intro v2 w5 lc k_ qD;obtain⟨g,c,hv,hgP⟩:=mB lc;subst hv;have yG:=J lc;have HG5:=J (((ap.refl (Value.ownBlock (.slice OA nl oc)).toList wr).alloc _).drew.grown k_ (fun k hk=> .inl (ZL.2 hk)));have HO5:=J (show ap (sW P (.slice OA nl oc)) wr w5 from HG5.out.mono (fun k hk=>by unfold sW;exact ZU _ hk));have FD:=J (HC.out.blk.only HG5.out HPN.out);have VK:=J qD;have c5:=FD.out.c1;have f5:=FD.out.frozen 1;clear lc k_ qD hgP)|fail)
    all_goals
     first
      |replace mz:=mz
       have HIQ:=J (fun w=>HI.out (us k).k w)
       first
        |replace xS:=xS
         rw [zc hq]at HIQ
        |rw [zb hq]at HIQ
       have Fa:=J HR.out.drew
       first
        |replace xS:=xS
         have HCD:=J (vW.out (.pointer pp) ov2 (nds++more) wr.drew Fa.out.s Fa.out.m (by rw [zh hq];exact Fa.out.scS) Fa.out.nf)
        |first
          |replace aj:=aj
           have HCD:=J (vW.out (.pointer pp) ov2 (nds++more) wr.drew Fa.out.s Fa.out.m (by rw [ze hq];exact Fa.out.scI) Fa.out.nf)
          |have HCD:=J (vW.out (.pointer (some ⟨bb,0,none⟩)) ov2 (nds++more) wr.drew Fa.out.s Fa.out.m (by rw [ze hq];exact Fa.out.scI) Fa.out.nf)
       have b8d:=Fa.out.box.c8;have arE:=HR.out.obn;clear hq vW;go_upto_region 47 with(go_at_call 201;(with_reducible refine(HIQ.out _).mono ?_);rintro e w4 ⟨rfl,rfl⟩)
       go_region_law (first|(go_simp;go_at_call 130;(with_reducible refine(HCD.out).mono ?_);rintro e w5 ⟨VT,n6,rfl,Cp,gR,dd,U0,JP⟩;have Wo:=J (Fa.out.call Cp dd U0 JP);have lR:=J Cp;have pF:=J gR;have E4:=J dd;have HG3:=J U0;have HF3:=J JP;have b8w:=Wo.out.1.c8;have b8x: ∀o,(w5.alloc o).cell? ⟨w.heap.size+1,8,none⟩=some (.slice Ck k Cl):=fun o=>(Wo.out.1.alloc o).cell 8;have hp5:=Cp.blk.lt;clear Cp gR dd U0 JP)|(refine cQ _ rfl _ _ 25 rfl (P+1) 3 j0 _ 1 8 af6 hj0 hj1 hj2 hj3 rfl (by decide) _ k (aZ (iD sts k)) rfl (ZN Wo.out.2.1 _) _ _ _ _ [_] rfl (aT.blk' (ai.new _ _ _) rfl) (by simp [Value.oneCell']) (by unfold maxLen;omega) (by omega) (by simp;omega) ?_;intro QZ w6 qY pE Qz;obtain⟨g3,c3,ll,aap⟩:=mB qY;subst ll;have VO:=J (((ap.refl (Value.ownBlock (.slice Ck k Cl)).toList w5).alloc _).grown pE (fun k hk=> .inl (ZL.2 hk)));have lS:=J (Wo.out.1.only VO.out (fun hi=>ee Wo.out.2.1 Wo.out.1 (by decide) (ZL.1 hi)));have aeA:=J qY;have amz:=J Qz;have b86:=lS.out.c8;have f86:=lS.out.frozen 8;clear qY pE Qz aap)|fail)
       all_goals
        have HNX:=J (Fa.out.step rfl lR.out pF.out E4.out HG3.out HF3.out aeA.out VO.out (fun g e=>by
         rcases amz.out with h|h
         ·exact .inl (h.symm.trans e)
         ·rw [h]at e;injection e with e;simp at e;exact .inr (by omega)))
        go_wp2_with fail
        go_roundw
        case rel=>exact⟨k+1,VT,more++n6,_,by have:=rS.out;omega,by go_num,HNX⟩
        case measure=>simp [intOf];have:=rS.out;omega
      |obtain⟨W6,hW6⟩: ∃W6,w5.setCell ⟨P,1,none⟩ (.slice (some ⟨g,0,none⟩) (nl+1) c)=W6:=⟨_,rfl⟩
       first
        |replace aj:=aj
         have VV:=HC.out.push (out:=⟨13,0,0,0,0,[],[],[],iD sts t.args.length⟩) (av:= .slice Ck t.args.length Cl) rfl rfl HAV.out (by rw [Fk.out,th.out];exact yG.out) HO5.out FD.out
        |replace aG:=aG
         have VV:=HC.out.push (out:=⟨5,nx+1,0,0,0,[],[],[],iD sts t.args.length⟩) (av:= .slice Ck t.args.length Cl) rfl rfl HAV.out (by rw [Fk.out,th.out];exact yG.out) HO5.out FD.out
        |have VV:=HC.out.push (out:=⟨7,nx+1,t.m,0,0,[],[],[],iD sts t.args.length⟩) (av:= .slice Ck t.args.length Cl) rfl rfl HAV.out (by rw [Fk.out,th.out];exact yG.out) HO5.out FD.out
       rw [hW6]at VV;have Wx:=J VV;have c6:=Wx.out.1.blk.c1;rw [hW6];clear hW6 VV c5 f5;go_wp2_with fail;go_ret
       first
        |replace aj:=aj
         refine⟨_,more++[(⟨13,0,0,0,0,[],[],[],iD sts t.args.length⟩, .slice Ck t.args.length Cl)],?_,by rw [←Zn,HNQ.out];exact Wx.out.1,?_,?_,?_,?_⟩
        |replace aG:=aG
         refine⟨_,more++[(⟨5,nx+1,0,0,0,[],[],[],iD sts t.args.length⟩, .slice Ck t.args.length Cl)],?_,by rw [←Zn,HNQ.out];exact Wx.out.1,?_,?_,?_,?_⟩
        |refine⟨_,more++[(⟨7,nx+1,t.m,0,0,[],[],[],iD sts t.args.length⟩, .slice Ck t.args.length Cl)],?_,by rw [←Zn,HNQ.out];exact Wx.out.1,?_,?_,?_,?_⟩
       ·show _=Ending.returned (.int .i64 _)
        first
         |replace aj:=aj
          rw [show((sts t.args.length).1++[(⟨13,0,0,0,0,[],[],[],iD sts t.args.length⟩:Fl)]).length=nl+1 by rw [zS,←HML.out];rfl]
         |replace aG:=aG
          rw [show((sts t.args.length).1++[(⟨5,nx+1,0,0,0,[],[],[],iD sts t.args.length⟩:Fl)]).length=nl+1 by rw [zS,←HML.out];rfl]
         |rw [show((sts t.args.length).1++[(⟨7,nx+1,t.m,0,0,[],[],[],iD sts t.args.length⟩:Fl)]).length=nl+1 by rw [zS,←HML.out];rfl]
        rw [show((nl+1:Nat):Int)-1=(nl:Int)by omega]
        first
         |rfl
         |(show Ending.returned (Value.int .i64 ((nl:Int)+1-1))=_;rw [Int.add_sub_cancel])
       ·rw [←Zn,List.map_append,HR.out.m];rfl
       ·have hoq:(Value.slice OA nl oc).ownBlock=ov2.ownBlock:=by rw [aia.out,Fk.out]
        have qy:=ah9.out;have hs2:=Wy.out.size;refine(Wy.out.more HRX.out (fun i hi=> ?_)).more Wx.out.2 (fun i hi=> ?_)
        ·rcases zx.1 hi with e|e
         ·exact .inr (by omega)
         ·exact .inl e
        ·rcases nP hi with e|e
         ·exact .inl (by rw [e];unfold sW;simp)
         ·rcases JU.out i (hoq▸e)with e|e
          ·exact .inl (by unfold sW;simp [e])
          ·exact .inr (by omega)
       ·intro g1 qC
        have hoq:(Value.slice OA nl oc).ownBlock=ov2.ownBlock:=by rw [aia.out,Fk.out]
        have hs2:=Wy.out.size;have Cp:=HRX.out.size
        rcases VK.out with h|h
        ·rcases JU.out g1 (hoq.symm.trans (Eq.trans (show(Value.slice OA nl oc).ownBlock=_ from h.symm) qC))with e|e
         ·exact .inl e
         ·exact .inr (by omega)
        ·rw [h]at qC
         injection qC with qC
         simp at qC;exact .inr (by omega)
       ·intro x hx g1 qC
        have hs2:=Wy.out.size
        rcases ZJ.1 hx with hx|hx
        ·have:=HFR.out x hx g1 qC;omega
        ·obtain rfl:=zt.1 hx
         have:=(HFO.out g1 qC).1;omega
def JF a b c d e f g h i j k l m n:=(kW a b c d e f g h i j k l m n).1
def EZ a b c d e f g h i j k l m n:=(kW a b c d e f g h i j k l m n).2.1
def E0 a b c d e f g h i j k l m n:=(kW a b c d e f g h i j k l m n).2.2
end Go.Proofs.YtcpmiplofbfmfaaGreatDoor
