/- Shrink: write, whole. -/
import Derived.Test.YtcpmiplofbfmfaaGreatDoorA10
import Derived.Laws.EntriesVeiled
set_option linter.all false
namespace Go.Proofs.YtcpmiplofbfmfaaGreatDoor
open Tryz
open Go.RowKit LamM CpsM FloM ShrM
theorem P8{L:List Fl}{i:Nat}{S:Sc}{st st2:List Fl×Int}(h:EY L i S st st2): ∀(P:Nat) (fv sv ov:Value) (nds:List Wn) (w:World),mU P fv w ov nds st.2→nds.map (·.1)=st.1→rG w sv S→NF w P fv L→
 Calls prog 130 #[.pointer (some ⟨P,0,none⟩), .int .i64 (i:Int),sv] w (nW P fv w ov nds st2):=by
 induction h with
 | @mk i S inner st t out nx1 sts us ht hd h0 hb hx hal hlf hu hk ih=>
   intro P fv sv ov nds w hW hm hS hN
   have IH: ∀k a,t.args[k]? =some a→∀(sv ov:Value) (nds:List Wn) (w:World),mU P fv w ov nds (sts k).2→nds.map (·.1)=(sts k).1→rG w sv (if(us k).k≤4 then S else inner)→NF w P fv L→Calls prog 130 #[.pointer (some ⟨P,0,none⟩), .int .i64 a,sv] w (nW P fv w ov nds (sts (k+1))):=by
    intro k a ha sv ov nds w h1 h2 h3 h4;have:=ih k a ha P fv sv ov nds w h1 h2 h3 h4
    rwa [Int.toNat_of_nonneg (hu k a ha).1]at this
   have hl:nds.length≤99:=by
    have h1:=(hb 0 (zO _)).1;rw [h0,←hm,ZK]at h1;exact h1
   unfold hdW at hd
   by_cases k1:t.k=1
   ·rw [zh k1]at hd
    have ha:=hlf (by omega)
    match S,hd,hS with
    |(o,m)::S2,hd,hS=>
     simp only at hd
     by_cases ho:o=t.n
     ·rw [zh ho]at hd
      injection hd with hd
      injection hd with e1 e2
      injection e2 with e2 e3
      subst ho e1 e3;have hr:=P7 P i fv ov sv t nds st.2 L S2 m w ht k1 ha hW hl hS hN;rw [ha];show Calls _ _ _ _ (nW P fv w ov nds ((sts 0).1++[⟨1,m,0,0,0,[],[],[],iD sts 0⟩],(sts 0).2));rw [h0,←hm];exact hr
     ·rw [ze ho]at hd;cases hd
   rw [ze k1]at hd
   by_cases k2:t.k=2
   ·rw [zh k2]at hd
    have ha:=hlf (by omega)
    injection hd with hd
    injection hd with e1 e2
    injection e2 with e2 e3
    subst e1 e3;have hr:=P6 P i fv ov sv t nds st.2 L S w ht k2 ha hW hl hS hN;rw [ha];show Calls _ _ _ _ (nW P fv w ov nds ((sts 0).1++[⟨2,0,0,t.i,0,[],[],[],iD sts 0⟩],(sts 0).2));rw [h0,←hm];exact hr
   rw [ze k2]at hd
   by_cases k5:t.k=5
   ·rw [zh k5]at hd
    injection hd with hd
    injection hd with e1 e2
    injection e2 with e2 e3
    subst e1 e2 e3;exact EZ P i fv ov sv t nds st.2 L S sts us w ht k5 hW hS hN hx (by rw [h0,hm]) hb hal hu IH
   rw [ze k5]at hd
   by_cases k7:t.k=7
   ·rw [zh k7]at hd
    injection hd with hd
    injection hd with e1 e2
    injection e2 with e2 e3
    subst e1 e2 e3;exact E0 P i fv ov sv t nds st.2 L S sts us w ht k7 hW hS hN hx (by rw [h0,hm]) hb hal hu IH
   rw [ze k7]at hd
   by_cases k13:t.k=13
   ·rw [zh k13]at hd
    injection hd with hd
    injection hd with e1 e2
    injection e2 with e2 e3
    subst e1 e2 e3;exact JF P i fv ov sv t nds st.2 L S sts us w ht k13 hW hS hN hx (by rw [h0,hm]) hb hal hu IH
   rw [ze k13]at hd
   cases hd
set_option maxRecDepth 100000
set_option maxHeartbeats 4000000
theorem P9(v0 v1:Value)(w:World):
 CallsD prog 129 #[v0,v1] .returning w fun e u' w'=>e= .returned (.tuple #[])∧u'= .returning∧w=w':=by
 refine callsD_of_wpS func129 rfl fun c₀ cs hu=> ?_
 generalize hQ:(bodyPostS prog Tryz.f129 c₀ cs fun e u' w'=>e= .returned (.tuple #[])∧u'= .returning∧w=w')=Q
 refine wpS_seq (wpS_region ?_);simp [wpOpsS,go_sem,recoverD,hu,Exit.thenS,List.range,List.range.loop];refine wpS_seq (wpS_seq (wpS_region ?_));simp [wpOpsS,go_sem,Exit.thenS,List.range,List.range.loop];refine wpS_cond (t:=true) (by rfl) ?_
 rw [zh rfl];refine wpS_of_wp ?_;refine wp_ret ?_;simp only [Exit.thenS];rw [←hQ];exact⟨rfl,_,(by cases c₀;simp_all),_,results_none rfl _ _ _,rfl,rfl,rfl⟩
theorem Lk{w:World}{P:Nat}{v:Value}{l:List Int}(h:w.ownsRow P 3 1 v l.length (aZ l)):IV w w.heap.size v l:=by
 have bw:=zr h
 rcases h.2 with⟨e,h0⟩|⟨g,cap,Co,e,_,_,Qa,JH,_⟩
 ·have:l=[]:=List.length_eq_zero_iff.1 h0
  subst this e;exact bm _ _
 ·subst e
  refine⟨_,cap,rfl,Qa,JH,by unfold aZ;simp,fun _=>⟨_,rfl,(bw g rfl).2,fun j u hu=> ?_⟩⟩
  have hj:j<l.length*1:=by
   have:=(zq.1 hu).1;unfold aZ at this
   simpa using this
  rw [show(⟨g,0,none⟩:Addr).add j=⟨g,j,none⟩by unfold Addr.add;split<;>simp_all,zM h j hj]
  exact hu
theorem mU.nf{P:Nat}{fv:Value}{w:World}{ov:Value}{nds:List Wn}{nx:Int}(h:mU P fv w ov nds nx)(hl:nds.length≤1000)(hok: ∀x∈nds,qt x.1∧x.1.args.length≤1000):NF w w.heap.size ov (nds.map (·.1)):=by
 have e:nds.map (·.1)=(nds.map YP).map (·.1):=by rw [List.map_map];rfl
 rw [e]
 have hfv: ∀x∈nds.map YP,FV w w.heap.size x.1 x.2.1 x.2.2.1 x.2.2.2:=by
  intro x hx;obtain⟨y,hy,rfl⟩:=Ik.1 hx;obtain⟨hv,hk,ha⟩:=h.args y hy;obtain⟨⟨o1,o2,o3,o4,o5⟩,o6⟩:=hok y hy;refine⟨?_,?_,Lk ha,o1,o2,o3,o4,o5,fun z hz=> ?_,?_,?_,by show y.1.args.length≤_;omega⟩
  ·show IV w _ (.slice none 0 0) y.1.vars;rw [hv];exact bm _ _
  ·show KV w _ (.slice none 0 0) y.1.keys;rw [hk];exact⟨none,0,rfl,za _,by unfold maxLen;omega,aT.none_⟩
  ·have:z∈y.1.vars:=hz;rw [hv]at this;cases this
  ·show y.1.vars.length≤_;rw [hv];decide
  ·show y.1.keys.length≤_;rw [hk];decide
 have hO:=h.own
 rcases hO.2 with⟨h1,h0⟩|⟨g,cap,Co,h1,_,_,pu,_⟩
 ·have:nds=[]:=List.length_eq_zero_iff.1 h0
  subst this h1;exact⟨none,0,rfl,za _,by decide,fun i t hit=>by simp at hit⟩
 ·subst h1
  have hn:=J9 (w:=w) (g:=g) (c:=cap) (l:=nds.map YP) (fun k u hk=>by
   have hk2:k<nds.length*9:=by have:=(zq.1 hk).1;rwa [tw,ZK]at this
   rw [zM hO k hk2];exact hk) (zr hO g rfl).2 (by rw [ZK];exact pu) (by rw [ZK];omega) hfv
  rw [ZK]at hn;exact hn
set_option maxHeartbeats 8000000
open Lib renaming hid→J
open Go.RowKit LamM CpsM FloM ShrM Go.Maps
def KZ(L:List Fl)(aJ:Int)(w:World)(e:Ending)(w':World):Prop:= ∃nv,e= .returned (.agg #[nv, .int .i64 aJ])∧NF w' w'.heap.size nv L∧Below w.heap.size w w'
theorem rO.iv{w:World}{B:Nat}{v:Value}(h:rO 0 v):IV w B v []:=by
 obtain⟨A,c,rfl,h1,h2⟩:=h;exact⟨A,c,rfl,h1,h2,rfl,fun h=>absurd h (by decide)⟩
theorem rO.kv{w:World}{B:Nat}{v:Value}(h:rO 0 v):KV w B v []:=by
 obtain⟨A,c,rfl,h1,h2⟩:=h;exact⟨A,c,rfl,h1,h2,rfl,fun h=>absurd h (by decide)⟩
theorem Ea{w:World}{f:Fl}{l:List Int}{vv kv av:Value}(hv:rO 0 vv)(hk:rO 0 kv)(ha:IV w w.heap.size av l)(hf:qt f)(h1:f.vars=[])(h2:f.keys=[])(hl:l.length≤1000)(hr: ∀x∈l, -9223372036854775808≤x∧x≤9223372036854775807):FV w w.heap.size (fR f l) vv kv av:=by
 obtain⟨o1,o2,o3,o4,o5⟩:=hf;refine⟨?_,?_,ha,o1,o2,o3,o4,hr,fun x hx=> ?_,?_,?_,by show l.length≤_;omega⟩
 ·show IV w _ vv f.vars;rw [h1];exact hv.iv
 ·show KV w _ kv f.keys;rw [h2];exact hk.kv
 ·have:x∈f.vars:=hx;rw [h1]at this;cases this
 ·show f.vars.length≤_;rw [h1];decide
 ·show f.keys.length≤_;rw [h2];decide
theorem T6{w:World}{S:Nat→Prop}{v:Value}{f h0:Fl}(h:iI w S v (.mk f [.mk h0 []]))(Qp:f.vars=[])(hf2:f.keys=[])(JI:h0.vars=[])(Fu:h0.keys=[]):
 Calls prog 71 #[v] w (KZ [fR h0 [],fR f [0]] 1 w):=by
 obtain⟨b,rfl⟩:=h.ptr;have HH:=J h;have HF1:=J Qp;have QN:=J hf2;have HH1:=J JI;have HH2:=J Fu;clear h Qp hf2 JI Fu;go_enter func71,ntmps71;go_upto_region 4 with fail
 obtain⟨W,hW⟩: ∃W,(((w.alloc (.cells #[.slice none 0 0, .int .i64 0] 63)).alloc (.cells #[.slice none 0 0, .int .i64 0] 63)).alloc (.cells #[ade (w.heap.size+1+1) (w.heap.size+1)] 170))=W:=⟨_,rfl⟩;have hB:Below w.heap.size w W:=by rw [←hW];exact cA _ _ _ _
 have hR:ai W w.heap.size 63 #[.slice none 0 0, .int .i64 0]:=by rw [←hW];exact((ai.new _ _ _).alloc _).alloc _
 have hP:ai W (w.heap.size+1) 63 #[.slice none 0 0, .int .i64 0]:=by rw [←hW];exact(am (by simp) _ _).alloc _
 have hC:ai W (w.heap.size+1+1) 170 #[ade (w.heap.size+1+1) (w.heap.size+1)]:=by rw [←hW];exact am (by simp) _ _
 obtain⟨vv,kv,Qy,Qx,s1,s2,s3,s4,ok1,ok2,Fo⟩:=Yr (HH.out.down hB) (w.heap.size+1+1) (w.heap.size+1) hP hC;have VP:=J Fo;have HB:=J hB;have HR:=J hR;have HS:=J (And.intro s1 (And.intro s2 (And.intro s3 s4)));have HOK:=J (And.intro ok1 ok2);have q0:=hC.c0;have hrw:=hC.lt;rw [show(((w.alloc (.cells #[.slice none 0 0, .int .i64 0] 63)).alloc (.cells #[.slice none 0 0, .int .i64 0] 63)).alloc (.cells #[.func (.func 139) #[] #[.pointer (some ⟨w.heap.size+1+1,0,none⟩), .pointer (some ⟨w.heap.size+1,0,none⟩)]] 170))=W from hW]
 clear hW hB hR hP hC s1 s2 s3 s4 ok1 ok2 Fo;go_upto_region 5 with(go_at_call 139;(with_reducible refine(VP.out).mono ?_);rintro e w2 ⟨gg,c,av,rfl,yC,JZ,ha2,ahO⟩;have AK:=J yC;have rR:=J JZ;have tq:=J ha2;have ahT:=J ahO;have p1:=yC.c1;have pf1:=yC.frozen 1;clear yC JZ ha2 ahO q0)
 obtain⟨W3,vC⟩: ∃W3,w2.setCell ⟨w.heap.size+1,1,none⟩ (.int .i64 1)=W3:=⟨_,rfl⟩;have vt:=J (show ai W3 (w.heap.size+1) 63 #[.slice (some ⟨gg,0,none⟩) 2 c, .int .i64 1]by rw [←vC];exact AK.out.set_ 1 _)
 have ahS:=J (show ap [w.heap.size+1] W W3 by rw [←vC];exact ahT.out.one)
 have HR3:=J (HR.out.only ahS.out (by simp))
 rw [vC];have xZ:=J vC;clear vC p1 pf1;have r0:=HR3.out.c0;have r1:=HR3.out.c1;have rf0:=HR3.out.frozen 0;have rf1:=HR3.out.frozen 1;have p0:=vt.out.c0;have p1:=vt.out.c1;go_wp2_with fail;obtain⟨W5,hW5⟩: ∃W5,(W3.setCell ⟨w.heap.size,0,none⟩ (.slice (some ⟨gg,0,none⟩) 2 c)).setCell ⟨w.heap.size,1,none⟩ (.int .i64 1)=W5:=⟨_,rfl⟩;have Wf:=J (show ai W5 w.heap.size 63 #[.slice (some ⟨gg,0,none⟩) 2 c, .int .i64 1]by rw [←hW5];exact(HR3.out.set_ 0 _).set_ 1 _)
 have ahR:=J (show ap [w.heap.size] W3 W5 by rw [←hW5];exact((ap.refl _ _).one).one)
 rw [hW5];have q0:=Wf.out.c0;have q1:=Wf.out.c1;refine zi (v:= .agg #[.slice (some ⟨gg,0,none⟩) 2 c, .int .i64 1]) (by simp [results,results71,go_sem,q0,q1]) rfl ⟨_,rfl,?_,?_⟩
 ·obtain⟨s1,s2,s3,s4⟩:=HS.out
  obtain⟨ok1,ok2⟩:=HOK.out;have hs2:W.heap.size≤w2.heap.size:=ahT.out.size
  have ahQ:ap [w.heap.size+1,w.heap.size] w2 W5:=by
   refine(ap.mono (bs:=[w.heap.size+1]) ?_ (fun x hx=>by simp at hx⊢;exact .inl hx)).trans (ahR.out.mono (fun x hx=>by simp at hx⊢;exact .inr hx))
   rw [←xZ.out];exact(ap.refl _ _).one
  have hO5:=bh rR.out ahQ (fun x hx hm=>by
   have:gg=x:=zz hx;have:=(zr rR.out gg rfl).1;simp at hm;omega)
  have hA5:=bh tq.out ahQ (fun x hx hm=>by
   have:=(zr tq.out x hx).1;simp at hm;omega)
  have JH:2≤c:=by
   rcases hO5.2 with⟨e,_⟩|⟨g,cap,Co,e,_,_,h1,_⟩
   ·cases e
   ·injection e with e1 e2 e3;omega
  refine J9 (l:=[(fR h0 [],Qy,Qx, .slice none 0 0),(fR f [0],vv,kv,av)]) (fun k u hk=> ?_) (zr hO5 gg rfl).2 JH (by simp) (fun x hx=> ?_)
  ·have hk2:k<2*9:=by have:=(zq.1 hk).1;rwa [tw]at this
   rw [zM hO5 k hk2];exact hk
  ·simp only [zx,zD,Zo]at hx
   rcases hx with rfl|rfl
   ·exact Ea s3 s4 (bm _ _) ok2 HH1.out HH2.out (by decide) (by simp)
   ·exact Ea s1 s2 (Lk (l:=[0]) hA5) ok1 HF1.out QN.out (by decide) (by simp)
 ·have h1:ap [w.heap.size+1] W W3:=ahS.out
  exact dl (dl HB.out h1 (fun x hx=>by simp at hx;omega) HB.out.size) ahR.out (fun x hx=>by simp at hx;omega) (zQ HB.out.size h1.size)
set_option maxHeartbeats 4000000
def JG(B:Nat)(v:Value)(L:List Fl)(w:World):Prop:= ∀(bs:List Nat) (w':World),ap bs w w'→(∀k∈bs,k<B)→NF w' w'.heap.size v L
theorem E3(L:List Fl)(aJ:Nat)(st:List Fl×Int)(nv:Value)(w:World)(hN:NF w w.heap.size nv L)(hck:m_ bD L aJ=0)(h:EY L aJ [] ([],0) st)(hl:st.1.length≤1000)(hok: ∀t∈st.1,qt t∧t.args.length≤1000):
 Calls prog 66 #[.agg #[nv, .int .i64 (aJ:Int)]] w fun e w'=> ∃v,e= .returned (.tuple #[.agg #[v, .int .i64 ((st.1.length:Int)-1)], .int .i64 0])∧NF w' w'.heap.size v st.1∧Below w.heap.size w w'∧JG w.heap.size v st.1 w':=by
 obtain⟨rt,hrt⟩: ∃rt:Nat,st.1.length=rt:=⟨_,rfl⟩;rw [hrt]at hl⊢;have HRT:=J hrt;clear hrt;obtain⟨W1,hW⟩: ∃W1,((w.alloc (.cells #[nv, .int .i64 (aJ:Int)] 63)).alloc (.cells #[.slice none 0 0, .int .i64 0] 63)).alloc (.cells #[.int .i64 0] 64)=W1:=⟨_,rfl⟩;have cT:Below w.heap.size w W1:=by rw [←hW];exact cA _ _ _ _
 have HBP:=J (show ai W1 w.heap.size 63 #[nv, .int .i64 (aJ:Int)]by rw [←hW];exact((ai.new _ _ _).alloc _).alloc _)
 have HBO:=J (show ai W1 (w.heap.size+1) 63 #[.slice none 0 0, .int .i64 0]by rw [←hW];exact(am (by simp) _ _).alloc _)
 have Vm:=J (show ai W1 (w.heap.size+2) 64 #[.int .i64 0]by rw [←hW];exact am (by simp) _ _)
 have oo:=J (NF.below hN cT);have bp:=J cT;have HCK:=J (F6 L nv (aJ:Int) W1 oo.out);unfold BH at HCK;rw [hck]at HCK;have b0:=HBP.out.c0;have b1:=HBP.out.c1;have HWT:=J h;have HLN:=J hl;have HOK:=J hok;clear cT hN hck h hl hok
 go_enter_defers func66,ntmps66
 go_upto_region 4 with(go_at_call 128;(with_reducible refine(HCK.out).mono ?_);rintro e w2 ⟨rfl,cB⟩;have bM:=J cB;clear cB)
 have VU:w.heap.size≤w2.heap.size:=by have:=bp.out.size;have:=bM.out.size;omega
 have Qe:=J (NF.below oo.out bM.out);have aih:=J (HBO.out.below bM.out HBO.out.lt);have aeT:=J (Vm.out.below bM.out Vm.out.lt);have aeS:=J (HBP.out.below bM.out HBP.out.lt);have b20:=aeS.out.c0;have b21:=aeS.out.c1;obtain⟨NA,nc,hnv,_,_⟩:=Qe.out.len;subst hnv;clear b0 b1 HCK HBP oo;obtain⟨W3,vC⟩: ∃W3,w2.alloc (.cells #[.slice NA L.length nc, .slice none 0 0, .int .i64 0] 160)=W3:=⟨_,rfl⟩;have kZ:Below w2.heap.size w2 W3:=by rw [←vC];exact(zg _ _).alloc (za _) _
 have hwb:ai W3 w2.heap.size 160 #[.slice NA L.length nc, .slice none 0 0, .int .i64 0]:=by rw [←vC];exact ai.new _ _ _
 have HWR:=J (P8 HWT.out w2.heap.size (.slice NA L.length nc) (.pointer none) (.slice none 0 0) [] W3 ⟨hwb,ZE _ _ _ _,fun x hx=>by cases hx⟩ rfl .nil (Qe.out.keep (fun p hp=>kZ.cell hp)))
 have dF:=J kZ;have Cp:w2.heap.size<W3.heap.size:=hwb.lt;have xZ:=J vC;clear kZ hwb vC;unfold nW at HWR;rw [HRT.out]at HWR;go_upto_region 6 with fail
 rw [xZ.out];have b30:W3.cell? ⟨w.heap.size,1,none⟩=some (.int .i64 (aJ:Int)):=by rw [dF.out.cell (p:=⟨w.heap.size,1,none⟩) (by show w.heap.size<_;have:=aeS.out.lt;omega)];exact b21
 clear b20 b21;go_upto_region 7 with(go_at_call 130;(with_reducible refine(HWR.out).mono ?_);rintro e w4 ⟨ov2,more,rfl,Y_,hm4,ho4,_,_⟩;have vX:=J Y_;have HM4:=J hm4;have HO4:=J ho4;have p1:=Y_.blk.c1;clear Y_ hm4 ho4 b30)
 obtain⟨OA,oc,hov⟩: ∃a c,ov2= .slice a more.length c:=by obtain⟨a,c,e⟩:=eh vX.out.own;exact⟨a,c,e⟩
 subst hov;have aaG:ap [w2.heap.size] w2 w4:=(ap.of_below dF.out).trans (by have:=HO4.out;unfold sW at this;simpa [Value.ownBlock]using this)
 have amC:=J aaG;have VX:=J (aih.out.only aaG (by have:=aih.out.lt;simp;omega))
 have aeR:=J (show ai w4 (w.heap.size+1+1) 64 #[.int .i64 0]from aeT.out.only aaG (by have:=aeT.out.lt;simp;omega))
 have o0:=VX.out.c0;have o1:=VX.out.c1;have e0:=aeR.out.c0;have of0:=VX.out.frozen 0;have of1:=VX.out.frozen 1;have ef0:=aeR.out.frozen 0;clear aaG;go_wp2_with fail;obtain⟨W5,hW5⟩: ∃W5,((w4.setCell ⟨w.heap.size+1,0,none⟩ (.slice OA more.length oc)).setCell ⟨w.heap.size+1,1,none⟩ (.int .i64 ((rt:Int)-1))).setCell ⟨w.heap.size+1+1,0,none⟩ (.int .i64 0)=W5:=⟨_,rfl⟩
 have hO5:ap [w.heap.size+1,w.heap.size+1+1] w4 W5:=by
  rw [←hW5];exact(((ap.refl _ _).setCell (.inl (by simp)) _).setCell (.inl (by simp)) _).setCell (.inl (by simp)) _
 have aii:ai W5 (w.heap.size+1) 63 #[.slice OA more.length oc, .int .i64 ((rt:Int)-1)]:=by
  rw [←hW5];exact((VX.out.set_ 0 _).set_ 1 _).far (by show w.heap.size+1≠w.heap.size+1+1;omega) _
 have amB:ai W5 (w.heap.size+1+1) 64 #[.int .i64 0]:=by
  rw [←hW5];exact((aeR.out.far (by show w.heap.size+1+1≠w.heap.size+1;omega) _).far (by show w.heap.size+1+1≠w.heap.size+1;omega) _).set_ 0 _
 rw [hW5];refine leaves_cons (f:=129) (args:= #[.pointer (some ⟨w.heap.size+1,0,none⟩), .pointer (some ⟨w.heap.size+1+1,0,none⟩)]) (by simp) (by simp [go_sem]) ?_
 refine(P9 _ _ W5).mono ?_;rintro e u' w'' ⟨rfl,rfl,rfl⟩;have q0:=aii.c0;have q1:=aii.c1;have q2:=amB.c0;have hm:=HM4.out;rw [List.nil_append]at hm;have amF:ap [w2.heap.size,w.heap.size+1,w.heap.size+1+1] w2 W5:=(amC.out.mono (fun x hx=>by simp at hx⊢;exact .inl hx)).trans (hO5.mono (fun x hx=>by simp at hx⊢;exact .inr hx))
 have Wp:more.length≤1000:=by have:=HLN.out;have:=HRT.out;rw [←hm,ZK]at this;omega
 have FA:=aeT.out.lt
 have FB:mU w2.heap.size (.slice NA L.length nc) W5 (.slice OA more.length oc) more st.2:=by
  have:=vX.out.other hO5 (by simp;omega) (fun g hg=>by have:=(zr vX.out.own g hg).1;simp;omega) (fun x hx g hg=>by have:=(zr (vX.out.args x hx).2.2 g hg).1;simp;omega)
  simpa using this
 have hnf:=FB.nf Wp (fun x hx=>HOK.out x.1 (by rw [←hm];exact List.mem_map_of_mem hx))
 rw [hm]at hnf
 have bu:Below w.heap.size w W5:=by
  refine dl (bp.out.trans (bM.out.mono bp.out.size)) amF (fun x hx=> ?_) VU
  simp at hx;omega
 simp [Leaves,settle,results,results66,go_sem,q0,q1,q2];refine⟨hnf,bu,fun bs w'' ho hk=> ?_⟩
 have vY:=FB.other ho (fun hm=>by have:=hk _ hm;omega) (fun g hg hm=>by have:=hk _ hm;have:=(zr FB.own g hg).1;omega) (fun x hx g hg hm=>by have:=hk _ hm;have:=(zr (FB.args x hx).2.2 g hg).1;omega)
 have:=vY.nf Wp (fun x hx=>HOK.out x.1 (by rw [←hm];exact List.mem_map_of_mem hx))
 rwa [hm]at this
set_option maxHeartbeats 8000000
theorem oZ{c:Int}:sF c (fun _=>none):=fun x v h=>by cases h
theorem o7(S:Nat→Prop)(w:World)(o:Obj):kQ S w (w.alloc o):=⟨by simp,fun b _ bw=>Below.heap_alloc _ _ _ bw⟩
theorem lO{w w2:World}{o:Obj}(h:Below w.heap.size w w)(ho:ap [w.heap.size] (w.alloc o) w2):Below w.heap.size w w2:=
 dl (h.alloc (za _) o) ho (fun x hx=>by rw [zt.1 hx];exact za _) (by simp)
theorem T_:dB (fun _=>none) [1,2] 1=some (.int .i64 1):=by simp [dB,D7,og,TY]
theorem Ua:dB (fun _=>none) [1,2] 2=some (.int .i64 1):=by simp [dB,D7,og,TY]
theorem pW{w2 V:World}{mu n:Nat}{f:Int→Option Value}{pv:Value}(hm:Mp w2 mu n f)(hn:n≤1000)
 (hV:V=((((w2.alloc (.map #[] 0)).alloc (.map #[] 0)).alloc (.map #[] 0)).alloc (.map #[] 0)).alloc (.cells (shC pv mu w2.heap.size (w2.heap.size+1) (w2.heap.size+1+1) (w2.heap.size+1+1+1) false) tS)):
 mM V (w2.heap.size+1+1+1+1) pv mu w2.heap.size (w2.heap.size+1) (w2.heap.size+1+1) (w2.heap.size+1+1+1) false f (fun _=>none) (fun _=>none) 0∧Below w2.heap.size w2 V:=by
 subst hV;have bw:=hm.lt;refine⟨⟨am (by simp) _ _,((((hm.mono hn).alloc _).alloc _).alloc _|>.alloc _).alloc _,?_,?_,by omega,by omega,by omega⟩,((((zg w2.heap.size w2).alloc (za _) _).alloc (by simp) _).alloc (by simp;omega) _|>.alloc (by simp;omega) _).alloc (by simp;omega) _⟩
 ·have:=Mp.made (w2.alloc (.map #[] 0))
  rw [show(w2.alloc (.map #[] 0)).heap.size=w2.heap.size+1 by simp]at this
  exact((this.alloc _).alloc _).alloc _
 ·have:=Mp.made ((w2.alloc (.map #[] 0)).alloc (.map #[] 0))
  rw [show((w2.alloc (.map #[] 0)).alloc (.map #[] 0)).heap.size=w2.heap.size+1+1 by simp]at this
  exact(this.alloc _).alloc _
theorem Ec{w:World}{B:Nat}{v:Value}{l:List Pr}(h:PV w B v l): ∃A n c,v= .slice A n c:=by
 obtain⟨A,c,e,hv,_⟩:=h;exact⟨some A,_,e,hv⟩
theorem Ed(v:Value)(w:World)(hN:NF w w.heap.size v dM):Calls prog 66 #[.agg #[v, .int .i64 6]] w fun e w'=> ∃v',e= .returned (.tuple #[.agg #[v', .int .i64 6], .int .i64 0])∧NF w' w'.heap.size v' dM∧Below w.heap.size w w'∧JG w.heap.size v' dM w':=
 E3 dM 6 (dM,2) v w hN NO adj (by decide) (by
  intro t ht;simp only [dM,zx,zD,Zo]at ht
  rcases ht with rfl|rfl|rfl|rfl|rfl|rfl|rfl<;>simp [qt])
theorem Ee(v:Value)(w:World)(hN:NF w w.heap.size v gp):Calls prog 66 #[.agg #[v, .int .i64 1]] w fun e w'=> ∃v',e= .returned (.tuple #[.agg #[v', .int .i64 1], .int .i64 0])∧NF w' w'.heap.size v' gp∧Below w.heap.size w w'∧JG w.heap.size v' gp w':=
 E3 gp 1 (gp,0) v w hN NP adi (by decide) (by
  intro t ht;simp only [gp,zx,zD,Zo]at ht
  rcases ht with rfl|rfl<;>simp [qt])
theorem Az: ∀t∈dM,t.vars=[]∧t.keys=[]:=by
 intro t ht;simp only [dM,zx,zD,Zo]at ht
 rcases ht with rfl|rfl|rfl|rfl|rfl|rfl|rfl<;>exact⟨rfl,rfl⟩
theorem AB: ∀t∈gp,t.vars=[]∧t.keys=[]:=by
 intro t ht;simp only [gp,zx,zD,Zo]at ht
 rcases ht with rfl|rfl<;>exact⟨rfl,rfl⟩
theorem La: ∀t∈dM,t.args.length≤1000:=by
 intro t ht;simp only [dM,zx,zD,Zo]at ht
 rcases ht with rfl|rfl|rfl|rfl|rfl|rfl|rfl<;>simp
theorem Lb: ∀t∈gp,t.args.length≤1000:=by
 intro t ht;simp only [gp,zx,zD,Zo]at ht
 rcases ht with rfl|rfl<;>simp
theorem uX(v:Value)(w:World)(hN:NF w w.heap.size v dM):Calls prog 67 #[.agg #[v, .int .i64 6]] w fun e w'=> ∃b,e= .returned (.pointer (some ⟨b,0,none⟩))∧iI w' (fun x=>x<w'.heap.size) (.pointer (some ⟨b,0,none⟩)) Ub∧Below w.heap.size w w':=
 (D9 dM 6 v w hN (by decide) Az Yu (by decide) La).mono fun e w' ⟨v,he,ht,hb⟩=>by
  obtain⟨b,rfl⟩:=ht.ptr;exact⟨b,he,ht.more (fun x _ hx=>hx),hb⟩
theorem Ef(v:Value)(w:World)(hN:NF w w.heap.size v gp):Calls prog 67 #[.agg #[v, .int .i64 1]] w fun e w'=> ∃b,e= .returned (.pointer (some ⟨b,0,none⟩))∧iI w' (fun x=>x<w'.heap.size) (.pointer (some ⟨b,0,none⟩)) (xq [0])∧Below w.heap.size w w':=
 (D9 gp 1 v w hN (by decide) AB Yv (by decide) Lb).mono fun e w' ⟨v,he,ht,hb⟩=>by
  obtain⟨b,rfl⟩:=ht.ptr;exact⟨b,he,ht.more (fun x _ hx=>hx),hb⟩
theorem Yt(v:Value)(w:World)(hN:NF w w.heap.size v dM):
 Calls prog 18 #[.agg #[v, .int .i64 6]] w fun e w'=> ∃v',e= .returned (.tuple #[.agg #[v', .int .i64 1], .int .i64 0])∧NF w' w'.heap.size v' gp∧Below w.heap.size w w':=by
 obtain⟨NA,nc,rfl,_,_⟩:=hN.len;obtain⟨W,hW⟩: ∃W,(w.alloc (.cells #[.slice NA dM.length nc, .int .i64 6] 63)).alloc (.cells #[.slice none 0 0, .int .i64 0] 63)=W:=⟨_,rfl⟩;have hb:Below w.heap.size w W:=by rw [←hW];exact aA _ _ _
 have dD:=J hb;have HR:=J (show ai W (w.heap.size+1) 63 #[.slice none 0 0, .int .i64 0]by rw [←hW];exact am (by simp) _ _)
 have HP:=J (show ai W w.heap.size 63 #[.slice NA dM.length nc, .int .i64 6]by rw [←hW];exact(ai.new _ _ _).alloc _)
 have HTD:=J (Ed _ W (hN.below hb));have HW:=J hW;clear hN hb hW;have B_:= @run_makeMap prog;go_enter func18,ntmps18;go_upto_region 1 with fail
 rw [HW.out];have p0:=HP.out.c0;have p1:=HP.out.c1;go_upto_region 4 with(go_at_call 66;(with_reducible refine(HTD.out).mono ?_);rintro e w2 ⟨v2,rfl,gW,cB,_⟩;have Qe:=J gW;have bM:=J cB;obtain⟨A2,c2,hv2,_,_⟩:=gW.len;subst hv2;clear gW cB)
 obtain⟨W2,rV⟩: ∃W2,w2.alloc (.cells #[.slice A2 dM.length c2, .int .i64 6] 63)=W2:=⟨_,rfl⟩;have cB:Below w2.heap.size w2 W2:=by rw [←rV];exact(zg _ _).alloc (za _) _
 have HQ:=J (show ai W2 w2.heap.size 63 #[.slice A2 dM.length c2, .int .i64 6]by rw [←rV];exact ai.new _ _ _)
 have HTR:=J (uX _ W2 (Qe.out.below cB));have dF:=J (bM.out.trans (cB.mono bM.out.size));have J3:=J (fun w=>gc w)
 rw [rV];clear cB rV p0 p1;have q0:=HQ.out.c0;have q1:=HQ.out.c1
 go_wp2_with (first
  |(go_at_call 67;(with_reducible refine(HTR.out).mono ?_);rintro e w3 ⟨nb1,rfl,ht3,kZ⟩;have HT3:=J ht3;have ce:=J (dF.out.trans (kZ.mono dF.out.size));clear ht3 kZ)
  |(go_at_call 7;(with_reducible refine(J3.out w3).mono ?_);rintro e w4 ⟨pvv,rfl,hp4,k6⟩;obtain⟨PA,pn,pc,a9⟩:=Ec hp4;subst a9;have Wv:=J ((HT3.out.down k6).more (S':=fun x=>x<w4.heap.size) (fun x _ hx=>hx));have fE:=J (ce.out.trans (k6.mono ce.out.size));clear hp4 k6))
 refine Zi 4 ?_;rw [zI];have aeK:=J (oW Wv.out (w4.alloc (.map #[] 0)) w4.heap.size 0 (fun _=>none) 0 (o7 _ w4 _) (fun h=>Nat.lt_irrefl _ h) (Mp.made w4) oZ (by decide) (by rw [mN];decide) (by rw [mN];decide))
 unfold pT at aeK;rw [mN]at aeK
 go_upto_region 7 with(first
  |(go_at_call 68;(with_reducible refine(aeK.out).mono ?_);rintro e u1 ⟨rfl,hm,ho⟩;have qg:=J hm;have Q0:=J (lO (zg _ _) ho);clear hm ho;have jI:=J (jt ((Wv.out.down Q0.out).down ((zg _ _).alloc (za _) (.map #[] 0))) u1.heap.size Uc);unfold pU at jI)
  |(go_at_call 69;(with_reducible refine(jI.out).mono ?_);rintro e u' ⟨rfl,rfl⟩))
 obtain⟨V1,hV⟩: ∃V,((((u1.alloc (.map #[] 0)).alloc (.map #[] 0)).alloc (.map #[] 0)).alloc (.map #[] 0)).alloc (.cells #[.slice PA pn pc, .map (some w4.heap.size), .map (some u1.heap.size), .map (some (u1.heap.size+1)), .map (some (u1.heap.size+1+1)), .map (some (u1.heap.size+1+1+1)), .bool false] tS)=V:=⟨_,rfl⟩;have gK:=pW (pv:= .slice PA pn pc) qg.out (by decide) hV.symm
 have aaC:=J gK.1;have rK:=J (Q0.out.trans (gK.2.mono Q0.out.size));rw [hV];clear hV gK;have QB:=J (T8 (Wv.out.down rK.out) aaC.out T_ Ua (fun x hx hm=>by have h1:=Q0.out.size;simp at hm hx;omega))
 unfold jO at QB;go_wp2_with (go_at_call 70;(with_reducible refine(QB.out).mono ?_);rintro e x1 ⟨n1,kf1,pf1,cc1,rfl,ht,ho,hs⟩;have HT2:=J (ht.more (S':=fun x=>x<x1.heap.size) (fun x _ hx=>hx));have Ln:=J (dl rK.out ho (fun x hx=>by have h1:=Q0.out.size;simp at hx;omega) rK.out.size);have t1:=hs.blk.c6;clear ht ho hs)
 rw [zI];have aeJ:=J (oW HT2.out (x1.alloc (.map #[] 0)) x1.heap.size 0 (fun _=>none) 0 (o7 _ x1 _) (fun h=>Nat.lt_irrefl _ h) (Mp.made x1) oZ (by decide) (by rw [xr];decide) (by rw [xr];decide))
 unfold pT at aeJ;rw [xr]at aeJ
 go_upto_region 7 with(first
  |(go_at_call 68;(with_reducible refine(aeJ.out).mono ?_);rintro e u2 ⟨rfl,hm,ho⟩;have HM2:=J hm;have HU2:=J (lO (zg _ _) ho);clear hm ho;have mw:=J (jt ((HT2.out.down HU2.out).down ((zg _ _).alloc (za _) (.map #[] 0))) u2.heap.size adf);unfold pU at mw)
  |(go_at_call 69;(with_reducible refine(mw.out).mono ?_);rintro e u' ⟨rfl,rfl⟩))
 obtain⟨V2,hV⟩: ∃V,((((u2.alloc (.map #[] 0)).alloc (.map #[] 0)).alloc (.map #[] 0)).alloc (.map #[] 0)).alloc (.cells #[.slice PA pn pc, .map (some x1.heap.size), .map (some u2.heap.size), .map (some (u2.heap.size+1)), .map (some (u2.heap.size+1+1)), .map (some (u2.heap.size+1+1+1)), .bool false] tS)=V:=⟨_,rfl⟩;have gK:=pW (pv:= .slice PA pn pc) HM2.out (by decide) hV.symm
 have al9:=J gK.1;have ln:=J (HU2.out.trans (gK.2.mono HU2.out.size));rw [hV];clear hV gK;have ahX:=J (adg (HT2.out.down ln.out) al9.out rfl (fun x hx hm=>by have h1:=HU2.out.size;simp at hm hx;omega))
 unfold jO at ahX;go_wp2_with (go_at_call 70;(with_reducible refine(ahX.out).mono ?_);rintro e x2 ⟨n2,kf2,pf2,cc2,rfl,ht,ho,hs⟩;have HT3:=J (ht.more (S':=fun x=>x<x2.heap.size) (fun x _ hx=>hx));have UW:=J (dl ln.out ho (fun x hx=>by have h1:=HU2.out.size;simp at hx;omega) ln.out.size);have t2:=hs.blk.c6;clear ht ho hs)
 rw [zI];have aeI:=J (oW HT3.out (x2.alloc (.map #[] 0)) x2.heap.size 0 (fun _=>none) 0 (o7 _ x2 _) (fun h=>Nat.lt_irrefl _ h) (Mp.made x2) oZ (by decide) (by rw [kd];decide) (by rw [kd];decide))
 unfold pT at aeI;rw [kd]at aeI
 go_upto_region 7 with(first
  |(go_at_call 68;(with_reducible refine(aeI.out).mono ?_);rintro e u3 ⟨rfl,hm,ho⟩;have pF:=J hm;have HU3:=J (lO (zg _ _) ho);clear hm ho;have UZ:=J (jt ((HT3.out.down HU3.out).down ((zg _ _).alloc (za _) (.map #[] 0))) u3.heap.size (K_ _));unfold pU at UZ)
  |(go_at_call 69;(with_reducible refine(UZ.out).mono ?_);rintro e u' ⟨rfl,rfl⟩))
 obtain⟨V3,hV⟩: ∃V,((((u3.alloc (.map #[] 0)).alloc (.map #[] 0)).alloc (.map #[] 0)).alloc (.map #[] 0)).alloc (.cells #[.slice PA pn pc, .map (some x2.heap.size), .map (some u3.heap.size), .map (some (u3.heap.size+1)), .map (some (u3.heap.size+1+1)), .map (some (u3.heap.size+1+1+1)), .bool false] tS)=V:=⟨_,rfl⟩;have gK:=pW (pv:= .slice PA pn pc) pF.out (by decide) hV.symm
 have ama:=J gK.1;have ou:=J (HU3.out.trans (gK.2.mono HU3.out.size));rw [hV];clear hV gK;have ahZ:=J (G0 [3] (HT3.out.down ou.out) ama.out);unfold jO at ahZ;go_wp2_with (go_at_call 70;(with_reducible refine(ahZ.out).mono ?_);rintro e x3 ⟨n3,kf3,pf3,cc3,rfl,ht,ho,hs⟩;have HT4:=J (ht.more (S':=fun x=>x<x3.heap.size) (fun x _ hx=>hx));have Wd:=J (dl ou.out ho (fun x hx=>by have h1:=HU3.out.size;simp at hx;omega) ou.out.size);have t3:=hs.blk.c6;clear ht ho hs)
 have HLS:=J (show Calls prog 71 #[.pointer (some ⟨n3,0,none⟩)] x3 (KZ gp 1 x3)from T6 HT4.out rfl rfl rfl rfl)
 have HXX:=J (fE.out.trans (((Ln.out.trans (UW.out.mono Ln.out.size)).trans (Wd.out.mono (zQ Ln.out.size UW.out.size))).mono fE.out.size))
 go_wp2_with (first
  |(go_at_call 71;(with_reducible refine(HLS.out).mono ?_);rintro e y1 ⟨nv,rfl,hn,hb⟩;have al6:=J (Ee _ y1 hn);obtain⟨A8,c8,hv8,_,_⟩:=hn.len;subst hv8;have HY1:=J (HXX.out.trans (hb.mono HXX.out.size));clear hn hb t3)
  |(go_at_call 66;(with_reducible refine(al6.out).mono ?_);rintro e y2 ⟨v9,rfl,hn9,U5,ahW⟩;have al8:=J ahW;obtain⟨A9,c9,Vc,_,_⟩:=hn9.len;subst Vc;have hy2:=HY1.out.trans (U5.mono HY1.out.size);have HY2:=J hy2;have hr9:=HR.out.below hy2 HR.out.lt;have r0:=hr9.c0;have r1:=hr9.c1;have rf0:=hr9.frozen 0;have rf1:=hr9.frozen 1;have HR9:=J hr9;clear hn9 U5 hy2 hr9 ahW))
 obtain⟨Y,hY⟩: ∃Y,(y2.setCell ⟨w.heap.size+1,0,none⟩ (.slice A9 gp.length c9)).setCell ⟨w.heap.size+1,1,none⟩ (.int .i64 1)=Y:=⟨_,rfl⟩;have hRY:ai Y (w.heap.size+1) 63 #[.slice A9 gp.length c9, .int .i64 1]:=by rw [←hY];exact(HR9.out.set_ 0 _).set_ 1 _
 have hOY:ap [w.heap.size+1] y2 Y:=by rw [←hY];exact((ap.refl _ _).one).one
 rw [hY];have q0:=hRY.c0;have q1:=hRY.c1;refine zi (v:= .tuple #[.agg #[.slice A9 gp.length c9, .int .i64 1], .int .i64 0]) (by simp [results,results18,go_sem,q0,q1]) rfl ⟨_,rfl,al8.out _ _ hOY (fun k hk=> ?_),?_⟩
 ·have h1:=zt.1 hk
  have h2:=HR.out.lt;have h3:=HY1.out.size;omega
 ·exact dl ((dD.out.trans (HY2.out.mono dD.out.size))) hOY (fun x hx=>by have:=zt.1 hx;omega) (by have:=dD.out.size;have:=HY2.out.size;omega)
set_option maxHeartbeats 16000000
theorem o8(v:Value)(w:World):(∀(hN:NF w w.heap.size v dM),Calls prog 20 #[.agg #[v, .int .i64 6]] w fun e w'=>e= .returned (.bool false)∧Below w.heap.size w w')∧(∀(hN:NF w w.heap.size v gp),Calls prog 20 #[.agg #[v, .int .i64 1]] w fun e w'=>e= .returned (.bool true)∧Below w.heap.size w w'):=by
 refine⟨?_,?_⟩
 all_goals intro hN
 have aj:=J (rfl:0=0)
 rotate_left;have aG:=J (rfl:0=0)
 all_goals
  obtain⟨NA,nc,rfl,_,_⟩:=hN.len
  first
   |replace aj:=aj
    obtain⟨W,hW⟩: ∃W,w.alloc (.cells #[.slice NA dM.length nc, .int .i64 6] 63)=W:=⟨_,rfl⟩
   |obtain⟨W,hW⟩: ∃W,w.alloc (.cells #[.slice NA gp.length nc, .int .i64 1] 63)=W:=⟨_,rfl⟩
  have hb:Below w.heap.size w W:=by rw [←hW];exact(zg _ _).alloc (za _) _
  have dD:=J hb
  first
   |replace aj:=aj
    have HP:=J (show ai W w.heap.size 63 #[.slice NA dM.length nc, .int .i64 6]by rw [←hW];exact ai.new _ _ _)
   |have HP:=J (show ai W w.heap.size 63 #[.slice NA gp.length nc, .int .i64 1]by rw [←hW];exact ai.new _ _ _)
  have HNW:=J (hN.below hb)
  first
   |replace aj:=aj
    have HTD:=J (Ed _ W (hN.below hb))
   |have HTD:=J (Ee _ W (hN.below hb))
  have HW:=J hW;have J3:=J (fun w=>gc w)
  have B_:= @run_makeMap prog;clear hN hb hW;go_enter func20,ntmps20;go_upto_region 1 with fail
  rw [HW.out];have p0:=HP.out.c0;have p1:=HP.out.c1;go_upto_region 2 with(go_at_call 66;(with_reducible refine(HTD.out).mono ?_);rintro e w2 ⟨v2,rfl,gW,cB,_⟩;have Qe:=J gW;have bM:=J cB;obtain⟨A2,c2,hv2,_,_⟩:=gW.len;subst hv2;clear gW cB)
  first
   |replace aj:=aj
    obtain⟨W2,rV⟩: ∃W2,w2.alloc (.cells #[.slice A2 dM.length c2, .int .i64 6] 63)=W2:=⟨_,rfl⟩
   |obtain⟨W2,rV⟩: ∃W2,w2.alloc (.cells #[.slice A2 gp.length c2, .int .i64 1] 63)=W2:=⟨_,rfl⟩
  have cB:Below w2.heap.size w2 W2:=by rw [←rV];exact(zg _ _).alloc (za _) _
  first
   |replace aj:=aj
    have HQ:=J (show ai W2 w2.heap.size 63 #[.slice A2 dM.length c2, .int .i64 6]by rw [←rV];exact ai.new _ _ _)
   |have HQ:=J (show ai W2 w2.heap.size 63 #[.slice A2 gp.length c2, .int .i64 1]by rw [←rV];exact ai.new _ _ _)
  have VQ:=bM.out.trans (cB.mono bM.out.size);have dF:=J VQ;have HNQ:=J (Qe.out.below cB)
  first
   |replace aj:=aj
    have Ci:=J (Ay dM _ _ 6 W2 (HNW.out.below VQ) HNQ.out Az (by decide) La)
   |have Ci:=J (Ay gp _ _ 1 W2 (HNW.out.below VQ) HNQ.out AB (by decide) Lb)
  have AK:=J (HP.out.below VQ HP.out.lt);rw [rV];clear cB rV p0 p1 VQ;have p0:=AK.out.c0;have p1:=AK.out.c1;have q0:=HQ.out.c0;have q1:=HQ.out.c1;go_upto_region 4 with(go_at_call 72;(with_reducible refine(Ci.out).mono ?_);rintro e w5 ⟨rfl,lq⟩;have lS:=J (dF.out.trans (lq.mono dF.out.size));have QC:=HQ.out.below lq HQ.out.lt;(first|replace aj:=aj;have HTR:=J (uX _ w5 (HNQ.out.below lq))|replace aG:=aG;have HTR:=J (Ef _ w5 (HNQ.out.below lq)));have r0:=QC.c0;have r1:=QC.c1;clear lq QC p0 p1 q0 q1)
  go_upto_region 5 with(go_at_call 67;(with_reducible refine(HTR.out).mono ?_);rintro e w3 ⟨nb1,rfl,ht3,kZ⟩;have Wv:=J ht3;have ce:=J (lS.out.trans (kZ.mono lS.out.size));clear ht3 kZ r0 r1)
  have HPW:=J (J3.out w3);go_upto_region 6 with(first|(go_at_call 7;(with_reducible refine(HPW.out).mono ?_);rintro e w4 ⟨pvv,rfl,hp4,k6⟩;obtain⟨PA,pn,pc,a9⟩:=Ec hp4;subst a9;have Fc:=J ((Wv.out.down k6).more (S':=fun x=>x<w4.heap.size) (fun x _ hx=>hx));have fE:=J (ce.out.trans (k6.mono ce.out.size));clear hp4 k6;(first|replace aj:=aj;have HUS:=J (oW Fc.out (w4.alloc (.map #[] 0)) w4.heap.size 0 (fun _=>none) 0 (o7 _ w4 _) (fun h=>Nat.lt_irrefl _ h) (Mp.made w4) oZ (by decide) (by rw [mN];decide) (by rw [mN];decide))|replace aG:=aG;have HUS:=J (oW Fc.out (w4.alloc (.map #[] 0)) w4.heap.size 0 (fun _=>none) 0 (o7 _ w4 _) (fun h=>Nat.lt_irrefl _ h) (Mp.made w4) oZ (by decide) (by rw [kd];decide) (by rw [kd];decide)));unfold pT at HUS;(first|replace aj:=aj;rw [mN]at HUS|replace aG:=aG;rw [kd]at HUS))|(go_at_call 68;(with_reducible refine(HUS.out).mono ?_);rintro e u1 ⟨rfl,hm,ho⟩;have qg:=J hm;have Q0:=J (lO (zg _ _) ho);clear hm ho;(first|replace aj:=aj;have jI:=J (jt ((Fc.out.down Q0.out).down ((zg _ _).alloc (za _) (.map #[] 0))) u1.heap.size Uc)|replace aG:=aG;have jI:=J (jt ((Fc.out.down Q0.out).down ((zg _ _).alloc (za _) (.map #[] 0))) u1.heap.size (K_ _)));unfold pU at jI)|(go_at_call 69;(with_reducible refine(jI.out).mono ?_);rintro e u' ⟨rfl,rfl⟩))
  obtain⟨V1,hV⟩: ∃V,((((u1.alloc (.map #[] 0)).alloc (.map #[] 0)).alloc (.map #[] 0)).alloc (.map #[] 0)).alloc (.cells #[.slice PA pn pc, .map (some w4.heap.size), .map (some u1.heap.size), .map (some (u1.heap.size+1)), .map (some (u1.heap.size+1+1)), .map (some (u1.heap.size+1+1+1)), .bool false] tS)=V:=⟨_,rfl⟩;have gK:=pW (pv:= .slice PA pn pc) qg.out (by decide) hV.symm
  have aaC:=J gK.1;have rK:=J (Q0.out.trans (gK.2.mono Q0.out.size));rw [hV];clear hV gK
  first
   |replace aj:=aj
    have QB:=J (T8 (Fc.out.down rK.out) aaC.out T_ Ua (fun x hx hm=>by have h1:=Q0.out.size;simp at hm hx;omega))
   |have QB:=J (G0 [0] (Fc.out.down rK.out) aaC.out)
  unfold jO at QB;go_wp2_with (go_at_call 70;(with_reducible refine(QB.out).mono ?_);rintro e x1 ⟨n1,kf1,pf1,cc1,rfl,ht,ho,hs⟩;have Ln:=J (dl rK.out ho (fun x hx=>by have h1:=Q0.out.size;simp at hx;omega) rK.out.size);have t1:=hs.blk.c6;clear ht ho hs)
  go_ret;exact⟨rfl,dD.out.trans (((fE.out.trans (Ln.out.mono fE.out.size))).mono dD.out.size)⟩
def G1 a b:=(o8 a b).1
def G3 a b:=(o8 a b).2
end Go.Proofs.YtcpmiplofbfmfaaGreatDoor
