/- Shrink: a node with its first kids, which are atoms. -/
import Derived.Test.YtcpmiplofbfmfaaGreatDoorA07
import Derived.StillTailTactics
set_option linter.all false
set_option maxRecDepth 100000
set_option maxHeartbeats 8000000
namespace Go.Proofs.YtcpmiplofbfmfaaGreatDoor
open Tryz
open Lib renaming hid→J
open Go.RowKit LamM CpsM FloM ShrM Go.Maps
structure xW(w:World)(bs:List Nat)(b g:Nat)(f:Fl)(vv kv av:Value)(n:Nat)(Ts:Nat→Tr)(qs:Nat→Value)(k:Nat)(wr:World):Prop where
 box:ai wr b tN (KX f vv kv av (.slice (some ⟨g,0,none⟩) n n))
 row:wr.ownsRow w.heap.size Ft 1 (.slice (some ⟨g,0,none⟩) n n) n (oh n k qs)
 ono:ap bs w wr
 kid: ∀j,j<k→iI wr (fun x=>w.heap.size≤x∧x≠g∧x≠b) (qs j) (Ts j)
 ne:w.heap.size≤b∧b≠g
 low: ∀x∈bs,x<w.heap.size
section
variable {w:World} {bs:List Nat} {b g:Nat} {f:Fl} {vv kv av:Value} {n:Nat} {Ts:Nat→Tr} {qs:Nat→Value} {k:Nat} {wr w5:World}
theorem xW.drew(h:xW w bs b g f vv kv av n Ts qs k wr):xW w bs b g f vv kv av n Ts qs k wr.drew:=
 ⟨h.box.drew,h.row.drew,h.ono.drew,fun j hj=>(h.kid j hj).keep (za _) (fun _ _ _=>rfl),h.ne,h.low⟩
theorem xW.gl(h:xW w bs b g f vv kv av n Ts qs k wr):w.heap.size≤g∧g<wr.heap.size:=zr h.row g rfl
theorem xW.other(h:xW w bs b g f vv kv av n Ts qs k wr)(ho:ap bs wr w5):xW w bs b g f vv kv av n Ts qs k w5:=by
 have hg:=h.gl
 exact⟨h.box.only ho (fun hi=>by have:=h.low _ hi;have:=h.ne;omega),bh h.row ho (fun x hx hi=>by
  have:=h.low _ hi;have:g=x:=by injection hx
  omega),h.ono.trans ho,fun j hj=>(h.kid j hj).only ho (fun x hx hi=>by have:=h.low _ hi;omega),h.ne,h.low⟩
theorem xW.step{p:Value}(h:xW w bs b g f vv kv av n Ts qs k wr)(hk:k<n)(ho:ap bs wr w5)(hp:iI w5 (fun x=>wr.heap.size≤x) p (Ts k)):
 xW w bs b g f vv kv av n Ts (fun j=>if j=k then p else qs j) (k+1) (w5.setCell ⟨g,k,none⟩ p):=by
 have hg:=h.gl;have h5:=h.other ho;have gK:=(Z7 h5.row k p).1;rw [D8 hk]at gK;have Qv: ∀x,x≠g→(w5.setCell ⟨g,k,none⟩ p).heap[x]? =w5.heap[x]? :=fun x hx=>Below.heap_setCell w5 _ p x hx
 have qB:=h.box.lt;have dq:=ho.size;refine⟨(Qv b h.ne.2).trans h5.box,gK,h5.ono.setCell (.inr hg.1) _,fun j hj=> ?_,h.ne,h.low⟩
 by_cases e:j=k
 ·subst e
  simp only [zh rfl];exact(hp.more (S':=fun x=>w.heap.size≤x∧x≠g∧x≠b) (fun x hx _=>⟨by have:=h.ono.size;omega,by omega,by omega⟩)).keep (by simp) (fun x hx _=>Qv x hx.2.1)
 ·rw [ze e]
  exact(h5.kid j (by omega)).keep (by simp) (fun x hx _=>Qv x hx.2.1)
theorem xW.tree(h:xW w bs b g f vv kv av n Ts qs n wr)(hv:rO 0 vv)(hk:rO 0 kv)(ha: ∃m,m≤1000∧rO m av)(hf:qt f)(hn:n≤1000){ks:List Tr}(hks:ks=(List.range n).map Ts):iI wr (fun x=>w.heap.size≤x) (.pointer (some ⟨b,0,none⟩)) (.mk f ks):=by
 subst hks;have hl:((List.range n).map Ts).length=n:=by simp
 refine iI.mk (kids:= .slice (some ⟨g,0,none⟩) n n) qs h.ne.1 h.box hv hk ha hf ?_ (by omega) (fun k T hT=> ?_)
 ·have hr:=h.row
  have e:oh n n qs=(List.range n).map qs:=by
   unfold oh;exact List.map_congr_left fun j hj=>by rw [zh (List.mem_range.1 hj)]
  rw [e]at hr;have:=D6 (S:=fun x=>w.heap.size≤x) hr (fun g hg=>hg)
  simpa using this
 ·have iP:=(zq.1 hT).1
  rw [hl]at iP;rw [zT,List.getElem?_range iP]at hT;simp at hT;subst hT;exact(h.kid k iP).more (fun x hx _=>hx.1)
end
def xo(w:World)(bs:List Nat)(f:Fl)(n vB:Nat)(Ts:Nat→Tr)(e:Ending)(w':World):Prop:=
 ∃b g qs vv kv av,e= .returned (.pointer (some ⟨b,0,none⟩))∧xW w bs b g f vv kv av n Ts qs vB w'∧rO 0 vv∧rO 0 kv∧(∃an,an≤1000∧rO an av)∧qt f∧Below w.heap.size w w'
theorem ada(n:Nat)(hn:n≤1000)(w:World):(Instr.makeSlice 162 (.int .i64 (n:Int)) (.int .i64 (n:Int))).run prog w= .ok (.slice (some ⟨w.heap.size,0,none⟩) n n) (w.alloc (.cells (madeCells #[.pointer none] n) Ft)):=by
 obtain⟨i0,gF,gX,dw,eU⟩:=Zv GV;have hr:=run_make (P:=prog) w 162 Ft i0 (.pointer none) T0 gF gX .i64 .i64 n n (by omega) (Int.le_refl _) (by rw [eU];omega) (by omega)
 simp only [zv,dw,Zj]at hr;exact hr
theorem Aw{w:World}{S:Nat→Prop}{f:Fl}{ks:List Tr}{v:Value}(h:iI w S v (.mk f ks))(s vB:Nat)(bs:List Nat)(hbs: ∀x∈bs,x<w.heap.size)(Ts:Nat→Tr)(gs:Nat→Fl)(hgs: ∀k,k<vB→Ts k= .mk (gs k) [])(hm:vB≤ks.length)
 (hA: ∀(k:Nat) (T:Tr),k<vB→ks[k]? =some T→∀(u:Value) (w1:World),Below w.heap.size w w1→iI w1 S u T→Calls prog 136 #[.pointer (some ⟨s,0,none⟩),u] w1 (jk w1 (gs k))):
 Calls prog 131 #[.pointer (some ⟨s,0,none⟩),v, .int .i64 (vB:Int)] w (xo w bs f ks.length vB Ts):=by
 obtain⟨i0,gF,gX,dw,eU⟩:=Zv GV
 cases h with
 | @mk b _ _ vv kv av kids ps hs hb hv hk ha hf hr hl ih=>
   obtain⟨VA,vc,rfl,_,_⟩:=id hv;obtain⟨KA,kc,rfl,_,_⟩:=id hk;obtain⟨an,QL,AA,ac,rfl,tf,tg⟩:=id ha;obtain⟨DA,dc,rfl,_,_⟩:=hr.slice;have c0:=hb.c0;have c1:=hb.c1;have c2:=hb.c2;have c3:=hb.c3;have c4:=hb.c4;have c5:=hb.c5;have c6:=hb.c6;have c7:=hb.c7;have c8:=hb.c8;have c9:=hb.c9;have HV:=J hv;have HK:=J hk;have HA:=J ha;have HF:=J hf;have HB:=J hb;have HR:=J hr;have HIH:=J ih;have U6:=J hA;have hks:ks.length≤1000:=hl;have qB:=hb.lt;clear hb hv hk ha hf hr hl ih tf tg hA hs;go_enter func131,ntmps131;have hmk:=ada ks.length hks;obtain⟨mc,hmc⟩: ∃mc,madeCells #[Value.pointer none] ks.length=mc:=⟨_,rfl⟩;rw [hmc]at hmk;have HMC:=J hmc;clear hmc;go_upto_region 1 with fail
   go_region
   obtain⟨wc,lw⟩: ∃wc,((w.alloc (.cells mc Ft)).alloc (.cells #[.int .i64 f.k, .int .i64 f.n, .int .i64 f.m, .int .i64 f.i, .int .u64 f.b, .string ⟨f.t.toArray⟩, .slice VA 0 vc, .slice KA 0 kc, .slice AA an ac, .slice (some ⟨w.heap.size,0,none⟩) ks.length ks.length] tN)).drew=wc:=⟨_,rfl⟩;have rW:=J (show Below w.heap.size w wc by rw [←lw];exact below_drewN (aA _ _ _) 1)
   have dx:ai wc (w.heap.size+1) tN (KX f (.slice VA 0 vc) (.slice KA 0 kc) (.slice AA an ac) (.slice (some ⟨w.heap.size,0,none⟩) ks.length ks.length)):=by rw [←lw];exact(am (by simp) _ _).drew
   have rN:wc.ownsRow w.heap.size Ft 1 (.slice (some ⟨w.heap.size,0,none⟩) ks.length ks.length) ks.length (oh ks.length 0 (fun _=> .nilFunc)):=by
    rw [←lw,←Av ks.length (fun _=> .nilFunc),HMC.out]
    have:=World.ownsRow_lit (base:=w.heap.size) (e:=Ft) (size:=1) w mc ks.length (za _) (by unfold maxLen;omega) (by rw [←HMC.out,size_madeCells];omega)
    exact((this.alloc _).drew)
   rw [lw]
   have aew:xW w bs (w.heap.size+1) w.heap.size f (.slice VA 0 vc) (.slice KA 0 kc) (.slice AA an ac) ks.length Ts (fun _=> .nilFunc) 0 wc:=
    ⟨dx,rN,ap.of_below rW.out,fun j hj=>by omega,⟨by omega,by omega⟩,hbs⟩
   obtain⟨nb,hnb⟩: ∃nb,w.heap.size+1=nb:=⟨_,rfl⟩;rw [hnb]at aew⊢;have alO:=J aew;have HNB:=J hnb;clear lw dx rN aew hnb hmk c0 c1 c2 c3 c4 c5 c6 c7 c8;go_wp2_with fail
   go_loopw [22] (fun ix wr=> ∃(k:Nat) (qs:Nat→Value),k≤vB∧ix= .int .i64 (k:Int)∧Hid (xW w bs nb w.heap.size f (.slice VA 0 vc) (.slice KA 0 kc) (.slice AA an ac) ks.length Ts qs k wr)∧Hid (Below w.heap.size w wr)) (fun ix _=>vB-(intOf ix).toNat)
   case atStart=>exact⟨0,_,zO _,rfl,alO,rW⟩
   case round=>
    obtain⟨k,qs,iP,rfl,Ci,dD⟩:=hrel
    rcases zj k vB with bw|iE
    ·obtain⟨T,hT⟩: ∃T,ks[k]? =some T:=⟨_,zk (by omega)⟩
     have htk:=HIH.out k T hT;obtain⟨pb,iH⟩:=htk.ptr;rw [iH]at htk;obtain⟨kg,QX,_,hkl,E6⟩:=HR.out.at_ (show k<ks.length by omega)
     subst QX;rw [iH]at E6;have b9:wr.cell? ⟨b,9,none⟩=some (.slice (some ⟨kg,0,none⟩) ks.length dc):=by rw [dD.out.cell (p:=⟨b,9,none⟩) qB];exact c9
     have k9:wr.cell? ⟨kg,k,none⟩=some (.pointer (some ⟨pb,0,none⟩)):=by rw [dD.out.cell (p:=⟨kg,k,none⟩) hkl];exact E6
     have n9:=Ci.out.box.c9;have aar:=J Ci.out.drew;have hbd:Below w.heap.size w wr.drew:=below_drewN dD.out 1;have vW:=J (U6.out k T bw hT (.pointer (some ⟨pb,0,none⟩)) wr.drew hbd ((htk.keep hbd.size (fun x _ hx=>hbd.block x hx))))
     have HBD:=J hbd;have We:k<ks.length:=by omega
     have hx2:(k:Int)<(vB:Int):=by omega
     have hx3:(k:Int)<(ks.length:Int):=by omega
     have rS:=J bw;have HGS:=J (hgs k bw);clear hT htk iH E6 hbd hkl;go_upto_region 5 with fail
     go_region_law (first
      |(go_simp;go_at_call 136;(with_reducible refine(vW.out).mono ?_);rintro e w5 ⟨b5,rfl,ht5,lq⟩;have Fb:=J (aar.out.step (p:= .pointer (some ⟨b5,0,none⟩)) We (ap.of_below lq) (by rw [HGS.out];exact ht5));have fE:=J (HBD.out.trans (lq.mono HBD.out.size));have aaq:=aar.out.other (ap.of_below (bs:=bs) lq);have n95:=aaq.box.c9;have g95:w5.cell? ⟨w.heap.size,k,none⟩=some (.pointer none):=(by rw [zM aaq.row k (by omega),uh We (za _)]);have gf5:=Zt aaq.row k;clear ht5 lq aaq)
      |fail)
     all_goals
      go_wp2_with fail
      go_roundw
      case rel=>exact⟨k+1,_,by have:=rS.out;omega,by go_num,Fb,J (fE.out.setCell (za _) _)⟩
      case measure=>simp [intOf];have:=rS.out;omega
    ·obtain rfl:k=vB:=by omega
     have Qu: ¬(k:Int)<(k:Int):=by omega
     clear iE iP;go_wp2_with fail;go_ret;exact⟨nb,_,qs,_,_,_,rfl,Ci.out,HV.out,HK.out,HA.out,HF.out,dD.out⟩
def jO(s:Nat)(pv:Value)(mu mc mk mp mi:Nat)(uf:Int→Option Value)(tn:Bool)(T:Tr)(w:World)(e:Ending)(w':World):Prop:=
 ∃b kf pf c,e= .returned (.pointer (some ⟨b,0,none⟩))∧iI w' (fun x=>w.heap.size≤x) (.pointer (some ⟨b,0,none⟩)) T∧ap [s,mk,mp] w w'∧mM w' s pv mu mc mk mp mi tn uf kf pf c
section
variable {w:World} {S:Nat→Prop} {v:Value} {s:Nat} {pv:Value} {mu mc mk mp mi:Nat} {tn:Bool} {uf kf pf:Int→Option Value} {c:Nat}
theorem mM.low(h:mM w s pv mu mc mk mp mi tn uf kf pf c): ∀x∈[s,mk,mp],x<w.heap.size:=by
 intro x hx;simp only [zx,zD,Zo]at hx
 rcases hx with rfl|rfl|rfl
 ·exact h.blk.lt
 ·exact h.k.lt
 ·exact h.p.lt
theorem Ax{f:Fl}{K:Tr}(h:iI w S v (.mk f [K]))(hk:f.k=13)(hS:mM w s pv mu mc mk mp mi tn uf kf pf c)(g:Fl)
 (hA: ∀(u:Value) (w1:World),Below w.heap.size w w1→iI w1 S u K→Calls prog 136 #[.pointer (some ⟨s,0,none⟩),u] w1 (jk w1 g)):
 Calls prog 70 #[.pointer (some ⟨s,0,none⟩),v] w (jO s pv mu mc mk mp mi uf tn (.mk f [.mk g []]) w):=by
 have U6:=J (show Calls prog 131 #[.pointer (some ⟨s,0,none⟩),v, .int .i64 1] w (xo w [s,mk,mp] f 1 1 (fun _=> .mk g []))from
  Aw h s 1 [s,mk,mp] hS.low (fun _=> .mk g []) (fun _=>g) (fun _ _=>rfl) (za _) (fun k T iP hT u w1 hb ht=>by
   obtain rfl:k=0:=by omega
   simp at hT;subst hT;exact hA u w1 hb ht))
 cases h with
 | @mk b _ _ vv kv av kids ps hs hb hv hkv ha hf hr hl ih=>
   obtain⟨DA,dc,rfl,_,_⟩:=hr.slice;have c0:=hb.c0;have c9:=hb.c9;rw [hk]at c0;have HS:=J hS;have HK:=J hk;clear hb hv hkv ha hf hr hl ih hS hA hk hs;go_enter func70,ntmps70;go_wp2_with (go_at_call 131;(with_reducible refine(U6.out).mono ?_);rintro e w2 ⟨b2,g2,qs,vv2,kv2,av2,rfl,hal,hv2,hk2,ha2,hf2,cB⟩;have Ci:=J hal;have ln:=J hv2;have ot:=J hk2;have tq:=J ha2;have QN:=J hf2;have bM:=J cB;clear hal hv2 hk2 ha2 hf2 cB);go_ret;exact⟨b2,kf,pf,c,rfl,Ci.out.tree ln.out ot.out tq.out QN.out (by decide) rfl,Ci.out.ono,HS.out.below bM.out⟩
theorem iI.box{b:Nat}{f:Fl}{ks:List Tr}(h:iI w S (.pointer (some ⟨b,0,none⟩)) (.mk f ks)):S b∧∃vv kv av kids,ai w b tN (KX f vv kv av kids):=by
 cases h with
 |mk ps hs hb=>exact⟨hs,_,_,_,_,hb⟩
theorem kQ.tr{w1:World}{T:Tr}(h:iI w S v T)(ha:kQ S w w1):iI w1 S v T:=h.keep ha.1 ha.2
theorem D_{f g:Fl}{K2 T':Tr}{gks:List Tr}(h:iI w S v (.mk f [.mk g gks,K2]))(hS:mM w s pv mu mc mk mp mi tn uf kf pf c)(hc:c≤100)(a:Int)(hu:uf f.n=some (.int .i64 a))(vV:a≠0)
 (hgk:g.k=1) (hgp:pf g.n=none) (cb cg cn cc m:Nat) (cf:Fl) (cvv ckv cav:Value) (We:kf g.n=some (.pointer (some ⟨cb,0,none⟩))) (hC:ai w cb tN (KX cf cvv ckv cav (.slice (some ⟨cg,0,none⟩) cn cc))) (hm:f.m=(m:Int)) (hmn:m+1<cn) (hcn:cn≤1000) (q:Option Addr) (hq:w.cell? ⟨cg,m,none⟩=some (.pointer q)) (Fg:cg<w.heap.size)
 (hM: ∀(u:Value) (w1:World),kQ S w w1→ap [s,mp] w w1→mM w1 s pv mu mc mk mp mi true uf kf (og pf f.n (.pointer q)) (c+1)→iI w1 S u K2→Calls prog 70 #[.pointer (some ⟨s,0,none⟩),u] w1 (jO s pv mu mc mk mp mi uf true T' w1)) (Qw: ∀x,S x→x∉[s,mp]):
 Calls prog 132 #[.pointer (some ⟨s,0,none⟩),v] w (jO s pv mu mc mk mp mi uf true T' w):=by
 cases h with
 | @mk b _ _ vv kv av kids ps hs hb hv hkv ha hf hr hl ih=>
   have hg:=ih 0 _ rfl;have hk2:=ih 1 _ rfl;obtain⟨p0,hp0⟩:=hg.ptr;obtain⟨p1,V7⟩:=hk2.ptr
   obtain⟨kg,kc,rfl,_,_,QX,yJ,E6⟩: ∃kg kc,kids= .slice (some ⟨kg,0,none⟩) 2 kc∧2≤kc∧kc≤maxLen∧S kg∧kg<w.heap.size∧∀k,k<2→w.cell? ⟨kg,k,none⟩=some (ps k):=by
    rcases hr with⟨e,_⟩|h
    ·cases e
    ·exact h
   have k0:=E6 0 (by omega)
   have k1:=E6 1 (by omega)
   rw [hp0]at hg k0;rw [V7]at hk2 k1;have c9:=hb.c9;have U6:=J (NL hg s hS hgk hgp);have hgf:qt g:=by cases hg;assumption
   have HS:=J hS;have HB:=J hb;have ot:=J hk2;have HM:=J hM;have HSN:=J Qw;have HF:=J hf;have HGF:=J hgf;have HC:=J hC;have HKN:=J We;have HU:=J hu;have HMM:=J hm;have HGK:=J hgk;have HQ:=J hq;have Cc:=J k1;have QJ:=J hs;have HSK:=J (And.intro QX yJ);have qB:=hb.lt;clear hg hk2 E6 hS hb hM Qw hf hgf hC We hu hm hgk hgp hq hr ih hv hkv ha hl hs QX yJ hp0 V7 k1;go_enter func132,ntmps132;go_upto_region 2 with(go_at_call 136;(with_reducible refine(U6.out).mono ?_);rintro e w2 ⟨a1,rfl,x9,cB⟩;have HT2:=J x9;have bM:=J cB;clear x9 cB k0 c9)
   have sZ:=J (HS.out.below bM.out);have alP:=J (HB.out.below bM.out qB);have s1:=sZ.out.blk.c1;have b1:=alP.out.c1;have J2: ∀n,(Instr.lookup QG (.map (some mu)) (.int .i64 f.n) false).run prog (w2.drewN n)= .ok (.int .i64 a) (w2.drewN n):=fun n=>by rw [(sZ.out.drewN n).u.look1 D4 (BL _) (oX HF.out),HU.out];rfl
   have xN:(Instr.lookup QG (.map (some mu)) (.int .i64 f.n) false).run prog w2.drew= .ok (.int .i64 a) w2.drew:=J2 1;have hl2:(Instr.lookup QG (.map (some mu)) (.int .i64 f.n) false).run prog w2= .ok (.int .i64 a) w2:=J2 0;have qa:(a==0)=false:=ag vV;go_quiet (fail);obtain⟨W2,rV⟩: ∃W2,w2.drewN nq=W2:=⟨_,rfl⟩;rw [rV];have aas:=J (show Below w.heap.size w W2 by rw [←rV];exact below_drewN bM.out nq)
   have lR:=J (HS.out.below aas.out);have ahF:=J (HB.out.below aas.out qB);obtain⟨_,avv,akv,aav,akk,Qf⟩:=iI.box (b:=a1) HT2.out;have HA1:=J (show ai W2 a1 tN (KX g avv akv aav akk)by rw [←rV];exact Qf.drewN nq)
   have UZ:=J (HC.out.below aas.out HC.out.lt);clear J2 xN hl2 s1 b1 rV Qf;have s3:=lR.out.blk.c3;have a1n:=HA1.out.c1;have J2: ∀n,(Instr.lookup QH (.map (some mk)) (.int .i64 g.n) true).run prog (W2.drewN n)= .ok (.tuple #[.pointer (some ⟨cb,0,none⟩), .bool true]) (W2.drewN n):=fun n=>by rw [(lR.out.drewN n).k.look D5 (GS _) (oX HGF.out),HKN.out];rfl
   have xN:(Instr.lookup QH (.map (some mk)) (.int .i64 g.n) true).run prog W2.drew= .ok (.tuple #[.pointer (some ⟨cb,0,none⟩), .bool true]) W2.drew:=J2 1;have hl2:(Instr.lookup QH (.map (some mk)) (.int .i64 g.n) true).run prog W2= .ok (.tuple #[.pointer (some ⟨cb,0,none⟩), .bool true]) W2:=J2 0;go_upto_region 5 with fail
   go_quiet (fail)
   obtain⟨W3,vC⟩: ∃W3,W2.drewN nq=W3:=⟨_,rfl⟩;rw [vC];have dF:=J (show Below w.heap.size w W3 by rw [←vC];exact below_drewN aas.out nq)
   have vX:=J (HS.out.below dF.out);have aec:=J (HB.out.below dF.out qB);have HA4:=J (show ai W3 a1 tN (KX g avv akv aav akk)by rw [←vC];exact HA1.out.drewN nq)
   have HC4:=J (HC.out.below dF.out HC.out.lt);clear J2 xN hl2 s3 a1n vC;have a0:W3.cell? ⟨a1,0,none⟩=some (.int .i64 1):=by have:=HA4.out.cell 0;rw [←HGK.out];exact this
   have b2:W3.cell? ⟨b,2,none⟩=some (.int .i64 (m:Int)):=by have:=aec.out.cell 2;rw [←HMM.out];exact this
   have d9:=HC4.out.c9;have qm:decide ((m:Int)<(cn:Int)-1)=true:=zc (by omega)
   have qw:wrap64 ((cn:Int)-1)=(cn:Int)-1:=zN _ ⟨by omega,by omega⟩
   go_wp2_with fail
   go_quiet (fail)
   obtain⟨W4,hW4⟩: ∃W4,W3.drewN nq=W4:=⟨_,rfl⟩;rw [hW4];have ce:=J (show Below w.heap.size w W4.drew by rw [←hW4];exact below_drewN (below_drewN dF.out nq) 1)
   have Cq:=J (HS.out.below ce.out);have ahG:=J (HB.out.below ce.out qB);have FD:=J (HC.out.below ce.out HC.out.lt);clear hW4 a0 b2 d9 qm qw;have e1:=ahG.out.c1;have e2:W4.drew.cell? ⟨b,2,none⟩=some (.int .i64 (m:Int)):=by have:=ahG.out.cell 2;rw [←HMM.out];exact this
   have e9:=FD.out.c9;have eq:W4.drew.cell? ⟨cg,m,none⟩=some (.pointer q):=by rw [ce.out.cell (p:=⟨cg,m,none⟩) Fg];exact HQ.out
   have gY:(m:Int)<(cn:Int):=by omega
   have xK:(0:Int)≤(m:Int):=by omega
   have V8:=J (NK W4.drew s pv mu mc mk mp mi tn uf kf pf c f.n q Cq.out (by omega) (oX HF.out))
   go_upto_region 7 with fail
   go_still_tail 17,(by kernel_rfl)
   go_upto_region 8 with(go_at_call 135;(with_reducible refine(V8.out).mono ?_);rintro e w5 ⟨rfl,FB,VB⟩;have HS6:=J FB;have HO6:=J VB;clear FB VB e1 e2 e9 eq)
   have HO:=J ((ap.of_below (bs:=[s,mp]) ce.out).trans HO6.out);have LB:=J ((kQ.refl S w).only HO.out HSN.out)
   have e9:w5.cell? ⟨b,9,none⟩=some (.slice (some ⟨kg,0,none⟩) 2 kc):=by
    rw [zY (a:=⟨b,9,none⟩) (LB.out.2 b QJ.out qB)];exact HB.out.cell 9
   have e1:w5.cell? ⟨kg,1,none⟩=some (.pointer (some ⟨p1,0,none⟩)):=by
    rw [zY (a:=⟨kg,1,none⟩) (LB.out.2 kg HSK.out.1 HSK.out.2)];exact Cc.out
   have vW:=J (HM.out (.pointer (some ⟨p1,0,none⟩)) w5 LB.out HO.out HS6.out (LB.out.tr ot.out));go_wp2_with (go_at_call 70;(with_reducible refine(vW.out).mono ?_);rintro e w6 ⟨b6,kf6,pf6,c6,rfl,VG,uy,vY⟩;have HT6:=J VG;have VH:=J uy;have VI:=J vY;clear VG uy vY);go_ret;refine⟨b6,kf6,pf6,c6,rfl,HT6.out.more (fun x hx _=>zQ HO.out.size hx),(HO.out.mono (fun k hk=> ?_)).trans VH.out,VI.out⟩
   simp only [zx,zD,Zo]at hk⊢
   rcases hk with h|h
   ·exact .inl h
   ·exact .inr (.inr h)
end
section
variable {w:World} {S:Nat→Prop} {v:Value} {s:Nat} {pv:Value} {mu mc mk mp mi:Nat} {tn:Bool} {uf kf pf:Int→Option Value} {c:Nat}
theorem mM.drew1(h:mM w s pv mu mc mk mp mi tn uf kf pf c):mM w.drew s pv mu mc mk mp mi tn uf kf pf c:=h.drewN 1
theorem xW.base{n:Nat}{bs:List Nat}{b g:Nat}{f:Fl}{vv kv av:Value}{m:Nat}{Ts:Nat→Tr}{qs:Nat→Value}{k:Nat}{wr:World}(h:xW (w.drewN n) bs b g f vv kv av m Ts qs k wr):xW w bs b g f vv kv av m Ts qs k wr:=
 ⟨h.box,h.row,((ap.refl bs w).drewN n).trans h.ono,h.kid,h.ne,h.low⟩
theorem GW{f:Fl}{ks:List Tr}{T':Tr}{tn':Bool}(h:iI w S v (.mk f ks))(hk:f.k=7)
 (hF:Calls prog 132 #[.pointer (some ⟨s,0,none⟩),v] w (jO s pv mu mc mk mp mi uf tn' T' w)):
 Calls prog 70 #[.pointer (some ⟨s,0,none⟩),v] w (jO s pv mu mc mk mp mi uf tn' T' w):=by
 have HF:=J hF
 cases h with
 | @mk b _ _ vv kv av kids ps hs hb hv hkv ha hf hr hl ih=>
   obtain⟨DA,dc,rfl,_,_⟩:=hr.slice;have c0:=hb.c0;have c9:=hb.c9;rw [hk]at c0;have hks:ks.length≤1000:=hl;clear hb hv hkv ha hf hr hl ih hk hs hF;go_enter func70,ntmps70;go_wp2_with (go_at_call 132;(with_reducible refine(HF.out).mono ?_);rintro e w6 ⟨b6,kf6,pf6,c6,rfl,VG,uy,vY⟩;have HT6:=J VG;have VH:=J uy;have VI:=J vY;clear VG uy vY);go_ret;exact⟨b6,kf6,pf6,c6,rfl,HT6.out,VH.out,VI.out⟩
theorem NM{f:Fl}{A0 A1 K2 T':Tr}(h:iI w S v (.mk f [A0,A1,K2]))(hk:f.k=5)(hS:mM w s pv mu mc mk mp mi tn uf kf pf c)(hu:uf f.n=none)
 (hM: ∀(u:Value) (w1:World),kQ S w w1→ap [s] w w1→mM w1 s pv mu mc mk mp mi true uf kf pf c→iI w1 S u K2→Calls prog 70 #[.pointer (some ⟨s,0,none⟩),u] w1 (jO s pv mu mc mk mp mi uf true T' w1)) (Qw: ∀x,S x→x∉[s,mk,mp]):
 Calls prog 70 #[.pointer (some ⟨s,0,none⟩),v] w (jO s pv mu mc mk mp mi uf true T' w):=by
 cases h with
 | @mk b _ _ vv kv av kids ps hs hb hv hkv ha hf hr hl ih=>
   have hk2:=ih 2 _ rfl;obtain⟨p2,yC⟩:=hk2.ptr
   obtain⟨kg,kc,rfl,_,_,QX,yJ,E6⟩: ∃kg kc,kids= .slice (some ⟨kg,0,none⟩) 3 kc∧3≤kc∧kc≤maxLen∧S kg∧kg<w.heap.size∧∀k,k<3→w.cell? ⟨kg,k,none⟩=some (ps k):=by
    rcases hr with⟨e,_⟩|h
    ·cases e
    ·exact h
   have k2:=E6 2 (by omega)
   rw [yC]at hk2 k2;have c0:w.cell? ⟨b,0,none⟩=some (.int .i64 5):=by rw [←hk];exact hb.cell 0
   have c1:=hb.c1;have c9:=hb.c9;have s1:=hS.blk.c1;have J2: ∀n,(Instr.lookup QG (.map (some mu)) (.int .i64 f.n) false).run prog (w.drewN n)= .ok (.int .i64 0) (w.drewN n):=fun n=>by rw [(hS.drewN n).u.look1 D4 (BL _) (oX hf),hu];rfl
   have xN:(Instr.lookup QG (.map (some mu)) (.int .i64 f.n) false).run prog w.drew= .ok (.int .i64 0) w.drew:=J2 1;have hl2:(Instr.lookup QG (.map (some mu)) (.int .i64 f.n) false).run prog w= .ok (.int .i64 0) w:=J2 0;have HS:=J hS;have HB:=J hb;have ot:=J hk2;have Cc:=J k2;have HM:=J hM;have HSN:=J Qw;have QJ:=J hs;have HSK:=J (And.intro QX yJ);have qB:=hb.lt;clear hk2 E6 hS hb hM Qw hf hu hr ih hv hkv ha hl hs QX yJ yC k2 hk;go_enter func70,ntmps70;go_upto_region 5 with fail
   go_quiet (fail)
   obtain⟨W2,rV⟩: ∃W2,w.drewN nq=W2:=⟨_,rfl⟩;rw [rV];have sZ:=J (show mM W2 s pv mu mc mk mp mi tn uf kf pf c by rw [←rV];exact HS.out.drewN nq)
   have rR:=J (show ap [s] w W2 by rw [←rV];exact(ap.refl _ _).drewN nq)
   clear J2 xN hl2 s1 rV c0 c1 c9;have s6:=sZ.out.blk.c6;have f6:=sZ.out.blk.frozen 6;go_upto_region 7 with fail
   obtain⟨W3,vC⟩: ∃W3,W2.setCell ⟨s,6,none⟩ (.bool true)=W3:=⟨_,rfl⟩;rw [vC];have lR:=J (show mM W3 s pv mu mc mk mp mi true uf kf pf c by rw [←vC];exact sZ.out.turn)
   have HO:=J (show ap [s] w W3 by rw [←vC];exact rR.out.one)
   have LB:=J ((kQ.refl S w).only HO.out (fun x hx hm=>HSN.out x hx (by rw [zt.1 hm];simp)))
   clear vC s6 f6
   have e9:W3.cell? ⟨b,9,none⟩=some (.slice (some ⟨kg,0,none⟩) 3 kc):=by
    rw [zY (a:=⟨b,9,none⟩) (LB.out.2 b QJ.out qB)];exact HB.out.cell 9
   have e1:W3.cell? ⟨kg,2,none⟩=some (.pointer (some ⟨p2,0,none⟩)):=by
    rw [zY (a:=⟨kg,2,none⟩) (LB.out.2 kg HSK.out.1 HSK.out.2)];exact Cc.out
   have vW:=J (HM.out (.pointer (some ⟨p2,0,none⟩)) W3 LB.out HO.out lR.out (LB.out.tr ot.out));go_wp2_with (go_at_call 70;(with_reducible refine(vW.out).mono ?_);rintro e w6 ⟨b6,kf6,pf6,c6,rfl,VG,uy,vY⟩;have HT6:=J VG;have VH:=J uy;have VI:=J vY;clear VG uy vY);go_ret;exact⟨b6,kf6,pf6,c6,rfl,HT6.out.more (fun x hx _=>zQ HO.out.size hx),(HO.out.mono (fun k hk=>by rw [zt.1 hk];simp)).trans VH.out,VI.out⟩
theorem GX{f:Fl}{A0 A1 K2:Tr}{tn':Bool}(Ts:Nat→Tr)(g0 g1:Fl)(h0:Ts 0= .mk g0 [])(h1:Ts 1= .mk g1 [])(h:iI w S v (.mk f [A0,A1,K2]))(hk:f.k=5)(hS:mM w s pv mu mc mk mp mi tn uf kf pf c)(hc:c≤100)(a:Int)(hu:uf f.n=some (.int .i64 a))(vV:a≠0)
 (hA: ∀(k:Nat) (T:Tr),k<2→[A0,A1,K2][k]? =some T→∀(n:Nat) (u:Value) (w1:World),Below w.heap.size (w.drewN n) w1→iI w1 S u T→Calls prog 136 #[.pointer (some ⟨s,0,none⟩),u] w1 (jk w1 (if k=0 then g0 else g1)))
 (hM: ∀(u:Value) (w1:World) (b2 g2:Nat) (vv kv av:Value) (qs:Nat→Value),kQ S w w1→xW w [s,mk,mp] b2 g2 f vv kv av 3 Ts qs 2 w1→mM w1 s pv mu mc mk mp mi tn uf (og kf f.n (.pointer (some ⟨b2,0,none⟩))) pf (c+1)→iI w1 S u K2→Calls prog 70 #[.pointer (some ⟨s,0,none⟩),u] w1 (jO s pv mu mc mk mp mi uf tn' (Ts 2) w1)) (Qw: ∀x,S x→x∉[s,mk,mp]):
 Calls prog 70 #[.pointer (some ⟨s,0,none⟩),v] w (jO s pv mu mc mk mp mi uf tn' (.mk f [Ts 0,Ts 1,Ts 2]) w):=by
 have HH:=J h
 cases h with
 | @mk b _ _ vv kv av kids ps hs hb hv hkv ha hf hr hl ih=>
   have hk2:=ih 2 _ rfl;obtain⟨p2,yC⟩:=hk2.ptr
   obtain⟨kg,kc,rfl,_,_,QX,yJ,E6⟩: ∃kg kc,kids= .slice (some ⟨kg,0,none⟩) 3 kc∧3≤kc∧kc≤maxLen∧S kg∧kg<w.heap.size∧∀k,k<3→w.cell? ⟨kg,k,none⟩=some (ps k):=by
    rcases hr with⟨e,_⟩|h
    ·cases e
    ·exact h
   have k2:=E6 2 (by omega)
   rw [yC]at hk2 k2;have c0:w.cell? ⟨b,0,none⟩=some (.int .i64 5):=by rw [←hk];exact hb.cell 0
   have c1:=hb.c1;have c9:=hb.c9;have s1:=hS.blk.c1;have J2: ∀n,(Instr.lookup QG (.map (some mu)) (.int .i64 f.n) false).run prog (w.drewN n)= .ok (.int .i64 a) (w.drewN n):=fun n=>by rw [(hS.drewN n).u.look1 D4 (BL _) (oX hf),hu];rfl
   have xN:(Instr.lookup QG (.map (some mu)) (.int .i64 f.n) false).run prog w.drew= .ok (.int .i64 a) w.drew:=J2 1;have hl2:(Instr.lookup QG (.map (some mu)) (.int .i64 f.n) false).run prog w= .ok (.int .i64 a) w:=J2 0;have qa:(a==0)=false:=ag vV;have HS:=J hS;have HB:=J hb;have ot:=J hk2;have Cc:=J k2;have HM:=J hM;have HA:=J hA;have HSN:=J Qw;have QJ:=J hs;have HSK:=J (And.intro QX yJ);have HF:=J hf;have HT0:=J h0;have Wv:=J h1;have qB:=hb.lt;clear hk2 E6 hS hb hM hA Qw hf hu hr ih hv hkv ha hl hs QX yJ yC k2 hk h0 h1 vV;go_enter func70,ntmps70;go_upto_region 5 with fail
   go_quiet (fail)
   obtain⟨W2,rV⟩: ∃W2,w.drewN nq=W2:=⟨_,rfl⟩
   have Fy:=Aw (w:=w.drewN nq) (HH.out.keep (za _) (fun _ _ _=>rfl)) s 2 [s,mk,mp] HS.out.low Ts (fun k=>if k=0 then g0 else g1) (fun k hk=>by
    rcases zj k 1 with h|h
    ·obtain rfl:k=0:=by omega
     rw [HT0.out,zh rfl]
    ·obtain rfl:k=1:=by omega
     rw [Wv.out,ze (by decide)]) (by simp) (fun k T hk hT u w1 cT ht1=>HA.out k T hk hT nq u w1 cT ht1)
   rw [rV]at Fy⊢;have U6:=J (show Calls prog 131 #[.pointer (some ⟨s,0,none⟩), .pointer (some ⟨b,0,none⟩), .int .i64 2] W2 (xo W2 [s,mk,mp] f 3 2 Ts)from Fy)
   have g_:=J rV;clear J2 xN hl2 s1 rV c0 c1 c9 qa Fy;go_upto_region 9 with(go_at_call 131;(with_reducible refine(U6.out).mono ?_);rintro e w3 ⟨b2,g2,qs,vv2,kv2,av2,rfl,hal,hv2,hk2,ha2,hf2,cB⟩;have Ci:=J (show xW w [s,mk,mp] b2 g2 f vv2 kv2 av2 3 Ts qs 2 w3 from xW.base (n:=nq) (by rw [g_.out];exact hal));have ln:=J hv2;have alS:=J hk2;have tq:=J ha2;have bM:=J (show Below w.heap.size w w3 from(below_drewN (zg _ _) nq).trans (by rw [←g_.out]at cB;exact cB));clear hal hv2 hk2 ha2 hf2 cB)
   have aau:Below w.heap.size w w3.drew:=below_drewN bM.out 1;have lR:=J (HS.out.below aau);have ahF:=J (HB.out.below aau qB);have E4:=J (ap.of_below (bs:=[s,mk,mp]) aau);have s3:=lR.out.blk.c3;have b1:=ahF.out.c1;have aar:=J Ci.out.drew;clear aau
   go_still_tail 10,(by kernel_rfl)
   go_upto_region 10 with(at_mapUpdate;refine ue _ rfl _ _ _ QH 94 rfl D5 mk c kf rfl lR.out.k (by omega) f.n (oX HF.out) rfl (.pointer (some ⟨b2,0,none⟩)) rfl ?_;intro w4 hm4 Wu;have vX:=J (lR.out.putK hm4 Wu).drew1;have ho4:=((ap.refl [s,mk,mp] w3.drew).grown Wu (fun k e=> .inl (by injection e with e;rw [←e];simp)));have HO4:=J (E4.out.trans ho4).drew;have aat:=J (aar.out.other ho4).drew;clear hm4 Wu ho4 s3 b1)
   have LB:=J ((kQ.refl S w).only HO4.out HSN.out)
   have e9:w4.cell? ⟨b,9,none⟩=some (.slice (some ⟨kg,0,none⟩) 3 kc):=by
    have h9:w4.drew.cell? ⟨b,9,none⟩=some (.slice (some ⟨kg,0,none⟩) 3 kc):=by
     rw [zY (a:=⟨b,9,none⟩) (LB.out.2 b QJ.out qB)];exact HB.out.cell 9
    exact h9
   have e1:w4.cell? ⟨kg,2,none⟩=some (.pointer (some ⟨p2,0,none⟩)):=by
    have h9:w4.drew.cell? ⟨kg,2,none⟩=some (.pointer (some ⟨p2,0,none⟩)):=by
     rw [zY (a:=⟨kg,2,none⟩) (LB.out.2 kg HSK.out.1 HSK.out.2)];exact Cc.out
    exact h9
   have n9:=aat.out.box.c9;have vW:=J (HM.out (.pointer (some ⟨p2,0,none⟩)) w4.drew b2 g2 vv2 kv2 av2 qs LB.out aat.out vX.out (LB.out.tr ot.out))
   go_region_law (first
    |(go_simp;go_at_call 70;(with_reducible refine(vW.out).mono ?_);rintro e w6 ⟨b6,kf6,pf6,c6,rfl,VG,uy,vY⟩;have Fb:=J (aat.out.step (p:= .pointer (some ⟨b6,0,none⟩)) (by decide) uy VG);have VJ:=aat.out.other uy;have ahK:=J VJ;have VH:=J (HO4.out.trans uy);have VI:=J vY;have n96:=VJ.box.c9;have g96:w6.cell? ⟨g2,2,none⟩=some (.pointer none):=(by rw [zM VJ.row 2 (by decide),uh (by decide) (za _)]);have gf6:=Zt VJ.row 2;clear VG uy vY VJ)
    |fail)
   all_goals
    go_wp2_with fail
    go_ret;have hg:=ahK.out.gl;refine⟨b2,kf6,pf6,c6,rfl,Fb.out.tree ln.out alS.out tq.out HF.out (by decide) rfl,VH.out.setCell (.inr hg.1) _,VI.out.only ((ap.refl [g2] w6).setCell (.inl (by simp)) _) ?_ ?_ ?_ ?_⟩
    all_goals
     have uw:=ahK.out.low;have hmu:=HS.out.u.lt;simp at uw⊢;omega
end
def K8(w:World)(e:Ending)(w':World):Prop:=e= .returned (.bool true)∧Hid (∃n,w'=w.drewN n)
theorem xp(l:List Int)(v1 v2:Value)(B:Nat)(w:World)(h1:IV w B v1 l)(h2:IV w B v2 l)(hl:l.length≤1000):
 Calls prog 142 #[v1,v2] w (K8 w):=by
 obtain⟨A1,c1,rfl,_,_⟩:=h1.len;obtain⟨A2,c2,rfl,_,_⟩:=h2.len;have H1:=J h1;have H2:=J h2;have q0:((l.length:Int)!=(l.length:Int))=false:=f_ rfl;clear h1 h2;unfold K8;go_enter func142,ntmps142;go_wp2_with fail
 go_loopw [13] (fun ix wr=> ∃k:Nat,k≤l.length∧ix= .int .i64 (k:Int)∧Hid (∃n,wr=w.drewN n)) (fun ix _=>l.length-(intOf ix).toNat)
 case atStart=>exact⟨0,zO _,rfl,J ⟨0,rfl⟩⟩
 case round=>
  obtain⟨k,iP,rfl,HW⟩:=hrel
  rcases zj k l.length with bw|iE
  ·obtain⟨x,hx⟩: ∃x,l[k]? =some x:=⟨_,zk bw⟩
   have J1: ∀p:Addr,p.block<B→wr.cell? p=w.cell? p:=fun p _=>by obtain⟨n,e⟩:=HW.out;rw [e];rfl
   obtain⟨a1,e1,_,d1⟩:=(H1.out.keep J1).at_ hx;obtain⟨a2,e2,_,d2⟩:=(H2.out.keep J1).at_ hx;subst e1 e2;have qx:(x !=x)=false:=f_ rfl;have hx2:(k:Int)<(l.length:Int):=by omega
   have xK:(0:Int)≤(k:Int):=by omega
   have rS:=J bw;clear hx J1 bw;go_upto_region 6 with fail
   go_quiet (fail)
   go_wp2_with fail
   go_roundw
   case rel=>exact⟨k+1,by have:=rS.out;omega,by go_num,J (by obtain⟨n,e⟩:=HW.out;exact⟨n+nq,by rw [e];exact Im _ _ _⟩)⟩
   case measure=>simp [intOf];have:=rS.out;omega
  ·obtain rfl:k=l.length:=by omega
   have Qu: ¬(l.length:Int)<(l.length:Int):=by omega
   clear iE iP;go_wp2_with fail;go_ret;exact⟨rfl,HW⟩
theorem GY(A1 A2:Option Addr)(c1 c2:Nat)(w:World):
 Calls prog 143 #[.slice A1 0 c1, .slice A2 0 c2] w (fun e w'=>e= .returned (.bool true)∧w=w'):=by
 go_enter func143,ntmps143;go_wp2_with fail;refine Zi 1 ?_;rw [zI];go_wp2_with fail
 first|go_ret|skip
 exact⟨rfl,rfl⟩
theorem j5{w:World}{p:Addr}{v:Value}(o:Obj)(h:w.cell? p=some v):(w.alloc o).cell? p=some v:=(World.cell?_alloc_lt w o p (jj h)).trans h
def iq(w:World)(e:Ending)(w':World):Prop:=e= .returned (.bool true)∧Below w.heap.size w w'
theorem GZ(f:Fl)(VA1 KA1 AA1 Ck KA2 AA2:Option Addr)(vc1 kc1 ac1 Cl kc2 ac2 B:Nat)(w:World)(h1:IV w B (.slice AA1 f.args.length ac1) f.args)(h2:IV w B (.slice AA2 f.args.length ac2) f.args)(hB:B≤w.heap.size)(hl:f.args.length≤1000)
 (v1:IV w B (.slice VA1 0 vc1) []) (v2:IV w B (.slice Ck 0 Cl) []):
 Calls prog 141 #[.agg #[.int .i64 f.k, .int .i64 f.n, .int .i64 f.m, .int .i64 f.i, .int .u64 f.b, .string ⟨f.t.toArray⟩, .slice VA1 0 vc1, .slice KA1 0 kc1, .slice AA1 f.args.length ac1],
  .agg #[.int .i64 f.k, .int .i64 f.n, .int .i64 f.m, .int .i64 f.i, .int .u64 f.b, .string ⟨f.t.toArray⟩, .slice Ck 0 Cl, .slice KA2 0 kc2, .slice AA2 f.args.length ac2]] w (iq w):=by
 obtain⟨W,hW⟩: ∃W,((w.alloc (.cells #[.int .i64 f.k, .int .i64 f.n, .int .i64 f.m, .int .i64 f.i, .int .u64 f.b, .string ⟨f.t.toArray⟩, .slice VA1 0 vc1, .slice KA1 0 kc1, .slice AA1 f.args.length ac1] 28)).alloc (.cells #[.int .i64 f.k, .int .i64 f.n, .int .i64 f.m, .int .i64 f.i, .int .u64 f.b, .string ⟨f.t.toArray⟩, .slice Ck 0 Cl, .slice KA2 0 kc2, .slice AA2 f.args.length ac2] 28))=W:=⟨_,rfl⟩;have hb:Below w.heap.size w W:=by rw [←hW];exact aA _ _ _
 have J1: ∀p:Addr,p.block<B→W.cell? p=w.cell? p:=fun p hp=>hb.cell (by omega)
 have HB:=J hb;have HV:=J (xp [] _ _ B W (v1.keep J1) (v2.keep J1) (by decide))
 have HK:=J (fun w'=>GY KA1 KA2 kc1 kc2 w')
 have HAA:=J (fun(n:Nat)=>xp f.args _ _ B (W.drewN n) (h1.keep J1) (h2.keep J1) hl)
 have HX:=J (show ai W w.heap.size 28 #[.int .i64 f.k, .int .i64 f.n, .int .i64 f.m, .int .i64 f.i, .int .u64 f.b, .string ⟨f.t.toArray⟩, .slice VA1 0 vc1, .slice KA1 0 kc1, .slice AA1 f.args.length ac1]by rw [←hW];exact(ai.new _ _ _).alloc _)
 have HY:=J (show ai W (w.heap.size+1) 28 #[.int .i64 f.k, .int .i64 f.n, .int .i64 f.m, .int .i64 f.i, .int .u64 f.b, .string ⟨f.t.toArray⟩, .slice Ck 0 Cl, .slice KA2 0 kc2, .slice AA2 f.args.length ac2]by rw [←hW];exact am (by simp) _ _)
 have q1:(f.k==f.k)=true:=be rfl;have q2:(f.n==f.n)=true:=be rfl;have q3:(f.m==f.m)=true:=be rfl;have q4:(f.i==f.i)=true:=be rfl;have q5:(f.b==f.b)=true:=be rfl;have HW:=J hW;clear hb J1 hW h1 h2 v1 v2;go_enter func141,ntmps141;go_upto_region 1 with fail
 rw [HW.out];have x0:=HX.out.c0;have x1:=HX.out.c1;have x2:=HX.out.c2;have x3:=HX.out.c3;have x4:=HX.out.c4;have x5:=HX.out.c5;have x6:=HX.out.c6;have x7:=HX.out.c7;have x8:=HX.out.c8;have y0:=HY.out.c0;have y1:=HY.out.c1;have y2:=HY.out.c2;have y3:=HY.out.c3;have y4:=HY.out.c4;have y5:=HY.out.c5;have y6:=HY.out.c6;have y7:=HY.out.c7;have y8:=HY.out.c8;unfold iq
 go_wp2_with (first
  |(go_at_call 142;(with_reducible refine(HV.out).mono ?_);rintro e w2 ⟨rfl,hn⟩;obtain⟨n2,gW⟩:=hn.out;subst gW)
  |(go_at_call 143;(with_reducible refine(HK.out _).mono ?_);rintro e w3 ⟨rfl,rfl⟩)
  |(go_at_call 142;(with_reducible refine(HAA.out _).mono ?_);rintro e w4 ⟨rfl,hn⟩;obtain⟨n4,hn4⟩:=hn.out;subst hn4))
 go_ret;exact⟨rfl,below_drewN HB.out _⟩
theorem Eb(L:List Fl)(va vb:Value)(w:World)(h1:NF w w.heap.size va L)(h2:NF w w.heap.size vb L)(hv: ∀t∈L,t.vars=[]∧t.keys=[])(hl:L.length≤1000)(hal: ∀t∈L,t.args.length≤1000):
 Calls prog 140 #[va,vb, .func (.func 141) #[] #[]] w (iq w):=by
 obtain⟨A1,c1,rfl,_,_⟩:=h1.len;obtain⟨A2,c2,rfl,_,_⟩:=h2.len;have H1:=J h1;have H2:=J h2;have HVK:=J hv;have Ci:=J hal;have q0:((L.length:Int)!=(L.length:Int))=false:=f_ rfl;clear h1 h2 hv hal;unfold iq;go_enter func140,ntmps140;go_wp2_with fail
 go_loopw [17] (fun ix wr=> ∃k:Nat,k≤L.length∧ix= .int .i64 (k:Int)∧Hid (Below w.heap.size w wr)) (fun ix _=>L.length-(intOf ix).toNat)
 case atStart=>exact⟨0,zO _,rfl,J (zg _ _)⟩
 case round=>
  obtain⟨k,iP,rfl,HB⟩:=hrel
  rcases zj k L.length with bw|iE
  ·obtain⟨t,ht⟩: ∃t,L[k]? =some t:=⟨_,zk bw⟩
   obtain⟨j8,ahV⟩:=HVK.out t (zC ht);have ahU:=Ci.out t (zC ht);obtain⟨a1,Qy,Qx,av1,e1,_,hF1,p0,p1,p2,p3,p4,p5,p6,p7,p8⟩:=(H1.out.keep (fun p hp=>HB.out.cell hp)).at9 ht
   obtain⟨a2,vv2,kv2,av2,e2,_,hF2,r0,r1,r2,r3,r4,r5,r6,r7,r8⟩:=(H2.out.keep (fun p hp=>HB.out.cell hp)).at9 ht
   subst e1 e2;have aaA:=hF1.v;have aaB:=hF2.v;have aeC:=hF1.k;have aeD:=hF2.k;rw [j8]at aaA aaB;rw [ahV]at aeC aeD;have aeF:=hF1.a;have aeE:=hF2.a;obtain⟨VA1,vc1,rfl,_,_⟩:=aaA.len;obtain⟨Ck,Cl,rfl,_,_⟩:=aaB.len;obtain⟨KA1,kc1,rfl,_,_,_⟩:=id aeC;obtain⟨KA2,kc2,rfl,_,_,_⟩:=id aeD;obtain⟨AA1,ac1,rfl,_,_⟩:=aeF.len;obtain⟨AA2,ac2,rfl,_,_⟩:=aeE.len;have HC:=J (fun W (hb:Below w.heap.size wr W)=>GZ t VA1 KA1 AA1 Ck KA2 AA2 vc1 kc1 ac1 Cl kc2 ac2 w.heap.size W (aeF.keep (fun p hp=>hb.cell hp)) (aeE.keep (fun p hp=>hb.cell hp)) (zQ HB.out.size hb.size) ahU (aaA.keep (fun p hp=>hb.cell hp)) (aaB.keep (fun p hp=>hb.cell hp)))
   have hx2:(k:Int)<(L.length:Int):=by omega
   have xK:(0:Int)≤(k:Int):=by omega
   have rS:=J bw;have dq:=HB.out.size;clear aaA aaB aeC aeD aeF aeE hF1 hF2 ht j8 ahV bw ahU;simp only [ZP]at p6 p7 r6 r7 HC;have s0:=fun o=>j5 o r0
   have s1:=fun o=>j5 o r1
   have s2:=fun o=>j5 o r2
   have s3:=fun o=>j5 o r3
   have s4:=fun o=>j5 o r4
   have s5:=fun o=>j5 o r5
   have s6:=fun o=>j5 o r6
   have s7:=fun o=>j5 o r7
   have s8:=fun o=>j5 o r8
   clear r0 r1 r2 r3 r4 r5 r6 r7 r8;go_wp2_with (go_at_call 141;(with_reducible refine(HC.out _ (((zg w.heap.size wr).alloc dq _).alloc (by simp;omega) _)).mono ?_);rintro e w2 ⟨rfl,cB⟩;have bM:=J ((((HB.out.alloc dq _).alloc (by simp;omega) _).trans (cB.mono (by simp;omega))));clear cB)
   go_roundw
   case rel=>exact⟨k+1,by have:=rS.out;omega,by go_num,bM⟩
   case measure=>simp [intOf];have:=rS.out;omega
  ·obtain rfl:k=L.length:=by omega
   have Qu: ¬(L.length:Int)<(L.length:Int):=by omega
   clear iE iP;go_wp2_with fail;go_ret;exact⟨rfl,HB.out⟩
theorem Ay(L:List Fl)(va vb:Value)(aJ:Int)(w:World)(h1:NF w w.heap.size va L)(h2:NF w w.heap.size vb L)(hv: ∀t∈L,t.vars=[]∧t.keys=[])(hl:L.length≤1000)(hal: ∀t∈L,t.args.length≤1000):
 Calls prog 72 #[.agg #[va, .int .i64 aJ], .agg #[vb, .int .i64 aJ]] w (iq w):=by
 obtain⟨W,hW⟩: ∃W,((w.alloc (.cells #[va, .int .i64 aJ] 63)).alloc (.cells #[vb, .int .i64 aJ] 63))=W:=⟨_,rfl⟩;have hb:Below w.heap.size w W:=by rw [←hW];exact aA _ _ _
 obtain⟨A1,c1,rfl,_,_⟩:=h1.len;obtain⟨A2,c2,rfl,_,_⟩:=h2.len;have HC:=J (Eb L _ _ W (h1.below hb) (h2.below hb) hv hl hal);have HB:=J hb;have HX:=J (show ai W w.heap.size 63 #[.slice A1 L.length c1, .int .i64 aJ]by rw [←hW];exact(ai.new _ _ _).alloc _)
 have HY:=J (show ai W (w.heap.size+1) 63 #[.slice A2 L.length c2, .int .i64 aJ]by rw [←hW];exact am (by simp) _ _)
 have HW:=J hW;have q1:(aJ==aJ)=true:=be rfl;clear hb hW h1 h2 hv hal;unfold iq;go_enter func72,ntmps72;go_upto_region 1 with fail
 rw [HW.out];have x0:=HX.out.c0;have x1:=HX.out.c1;have y0:=HY.out.c0;have y1:=HY.out.c1;go_wp2_with (go_at_call 140;(with_reducible refine(HC.out).mono ?_);rintro e w2 ⟨rfl,cB⟩;have bM:=J (HB.out.trans (cB.mono HB.out.size));clear cB);go_ret;exact⟨rfl,bM.out⟩
end Go.Proofs.YtcpmiplofbfmfaaGreatDoor
