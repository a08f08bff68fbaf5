/- Cps: has a node its form, and a primitive's arguments in the -/
import Derived.Test.YtcpmiplofbfmfaaGreatDoorA05
set_option linter.all false
set_option maxRecDepth 100000
set_option maxHeartbeats 4000000
namespace Go.Proofs.YtcpmiplofbfmfaaGreatDoor
open Tryz
open Lib renaming hid→J
open Go.RowKit LamM CpsM
theorem CE{L:List Fl}{t:Fl}(h:t.k≠8):rd bD L t=true:=by unfold rd;rw [zc h];rfl
theorem CF{L:List Fl}{t:Fl}(h:eV bD t=false):rd bD L t=true:=by unfold rd;rw [h];simp
theorem LM{L:List Fl}{t:Fl}{y a:Nat}{p:Pr}(hk:t.k=8)(h:eV bD t=true)(hy:t.m=(y:Int))(hp:ao[y]? =some p)(ha:p.args=(a:Int)):rd bD L t=(dG L (t.args.take a)&&dQ L (t.args.drop a)):=by
 unfold rd;rw [zb (by omega),h,hy,zv,show bD[y]? =some ⟨p.args,p.raises⟩by unfold bD;rw [zT,hp];rfl]
 show(false|| !true||(dG L (t.args.take p.args.toNat)&&dQ L (t.args.drop p.args.toNat)))=_;rw [ha,zv];rfl
theorem Q5(p:Pr):p.args+1≤pJ ⟨p.args,p.raises⟩:=by
 show p.args+1≤p.args+1+(if p.raises.length=0 then 0 else 1)
 split<;>omega
theorem CG(L:List Fl)(t:Fl)(vl vv kv av pv:Value)(w:World)(hN:NF w w.heap.size vl L)(hT:FV w w.heap.size t vv kv av)(hA: ∀a∈t.args,0≤a∧a<(L.length:Int))(hP:PV w w.heap.size pv ao):Calls prog 196 #[vl, .agg (cG t vv kv av).toArray,pv] w fun e w'=>e= .returned (.bool (jc bD L t))∧Below w.heap.size w w':=by
 obtain⟨NA,nc,rfl,lj,gW⟩:=hN.len;obtain⟨VA,vc,rfl,j8,hv2⟩:=hT.v.len;obtain⟨KA,kc,rfl,iP,hk2⟩:=hT.k.len;obtain⟨AA,ac,rfl,Qf,ha2⟩:=hT.a.len;obtain⟨PA,pc,vf,iJ,iK⟩:=hP.len;rw [aN]at vf;subst vf;have la:=hT.la;obtain⟨W,hW⟩: ∃W,w.alloc (mA t (.slice VA t.vars.length vc) (.slice KA t.keys.length kc) (.slice AA t.args.length ac))=W:=⟨_,rfl⟩;have gZ:Below w.heap.size w W:=by rw [←hW];exact(zg _ _).alloc (za _) _
 have HB:=J gZ;have HX:=J (show ai W w.heap.size 28 #[.int .i64 t.k, .int .i64 t.n, .int .i64 t.m, .int .i64 t.i, .int .u64 t.b, .string ⟨t.t.toArray⟩, .slice VA t.vars.length vc, .slice KA t.keys.length kc, .slice AA t.args.length ac]by rw [←hW];exact ai.new _ _ _)
 have HN:=J (hN.below gZ);have HT:=J (hT.below gZ);have HA:=J (hT.a.below gZ);have HP:=J (hP.below gZ);have HR:=J hA;have HF:=J (CL L t _ _ _ _ W HN.out HT.out hA);have UX:=J (fun w2 (hb:Below W.heap.size W w2)=>yN t _ _ _ _ w2 (HP.out.below hb) (HT.out.below hb))
 clear hN hT hA hP gZ;have c0:=HX.out.c0;have c1:=HX.out.c1;have c2:=HX.out.c2;have c3:=HX.out.c3;have c4:=HX.out.c4;have c5:=HX.out.c5;have c6:=HX.out.c6;have c7:=HX.out.c7;have c8:=HX.out.c8;unfold mA at hW;unfold cG at HF UX⊢;obtain⟨R,hR⟩: ∃R,jc bD L t=R:=⟨_,rfl⟩;rw [hR];unfold jc at hR
 cases hf:bK L t
 ·rw [hf]at hR HF
  obtain rfl:R=false:=by rw [←hR];rfl
  clear hR hf;go_enter func196,ntmps196;go_wp2_with (go_at_call 254;(with_reducible refine(HF.out).mono ?_);rintro e w2 ⟨rfl,hb⟩;have cC:=J hb;clear hb;have d10:=(HX.out.below cC.out HX.out.lt).c0;have d11:=(HX.out.below cC.out HX.out.lt).c1;have d12:=(HX.out.below cC.out HX.out.lt).c2;have d13:=(HX.out.below cC.out HX.out.lt).c3;have d14:=(HX.out.below cC.out HX.out.lt).c4;have d15:=(HX.out.below cC.out HX.out.lt).c5;have d16:=(HX.out.below cC.out HX.out.lt).c6;have d17:=(HX.out.below cC.out HX.out.lt).c7;have Fv:=(HX.out.below cC.out HX.out.lt).c8);go_ret;exact⟨rfl,HB.out.trans (cC.out.mono HB.out.size)⟩
 ·rw [hf,zZ]at hR
  rw [hf]at HF;clear hf
  by_cases k8:t.k=8
  ·have q8:=f_ k8
   cases hpo:eV bD t
   ·rw [hpo]at UX
    obtain rfl:R=true:=by rw [←hR];exact CF hpo
    clear hR hpo k8;go_enter func196,ntmps196;go_wp2_with (first|(go_at_call 254;(with_reducible refine(HF.out).mono ?_);rintro e w2 ⟨rfl,hb⟩;have cC:=J hb;clear hb;have d10:=(HX.out.below cC.out HX.out.lt).c0;have d11:=(HX.out.below cC.out HX.out.lt).c1;have d12:=(HX.out.below cC.out HX.out.lt).c2;have d13:=(HX.out.below cC.out HX.out.lt).c3;have d14:=(HX.out.below cC.out HX.out.lt).c4;have d15:=(HX.out.below cC.out HX.out.lt).c5;have d16:=(HX.out.below cC.out HX.out.lt).c6;have d17:=(HX.out.below cC.out HX.out.lt).c7;have Fv:=(HX.out.below cC.out HX.out.lt).c8)|(go_at_call 197;(with_reducible refine(UX.out _ cC.out).mono ?_);rintro e w3 ⟨rfl,hb⟩;have g_:=J (cC.out.trans (hb.mono cC.out.size));clear hb))
    go_ret;exact⟨rfl,HB.out.trans (g_.out.mono HB.out.size)⟩
   ·rw [hpo]at UX
    have m0: ¬t.m<0:=fun h=>by rw [yO h]at hpo;cases hpo
    have m61: ¬61≤t.m:=fun h=>by rw [wb h]at hpo;cases hpo
    obtain⟨y,hy⟩: ∃y:Nat,t.m=(y:Int):=⟨t.m.toNat,by omega⟩
    obtain⟨p,hpt⟩: ∃p,ao[y]? =some p:=⟨_,zk (by rw [aN];omega)⟩
    obtain⟨qy,hs2,Cp⟩:=we p (zC hpt);obtain⟨a,ha⟩: ∃a:Nat,p.args=(a:Int):=⟨p.args.toNat,by omega⟩
    have hwl:(t.args.length:Int)=pJ ⟨p.args,p.raises⟩:=by rw [CO hy hpt]at hpo;exact Zq hpo
    have hwg:=Q5 p;rw [LM k8 hpo hy hpt ha]at hR;have hal:a+1≤t.args.length:=by omega
    have JJ:(y:Int)<61:=by omega
    have Fw:(0:Int)≤(y:Int):=by omega
    obtain⟨a0,vV⟩: ∃a0,t.args[0]? =some a0:=⟨_,zk (by omega)⟩
    obtain⟨aa,rfl,_,_⟩:=HA.out.at_ vV;have fa: ¬ac=a:=by omega
    have hac: ¬ac=0:=by omega
    have hcn:(a:Int)≤(ac:Int):=by omega
    have hcm:(a:Int)≤(t.args.length:Int):=by omega
    have hd:=m9 HA.out (k:=a) (by omega)
    have ht:=mZ HA.out (k:=a) (by omega)
    rw [ze fa]at hd;have HD:=J (show IV W W.heap.size (.slice (some (aa.add a)) (t.args.length-a) (ac-a)) (t.args.drop a)from hd)
    have jI:=J (fun w2 (hb:Below W.heap.size W w2)=>fH L (t.args.take a) _ (.slice (some aa) a ac) w2 (HN.out.below hb) (fun x hx=>HR.out x (Z5 hx)) (ht.below hb))
    have mw:=J (fun w2 (hb:Below W.heap.size W w2)=>fI L (t.args.drop a) _ (.slice (some (aa.add a)) (t.args.length-a) (ac-a)) w2 (HN.out.below hb) (fun x hx=>HR.out x (List.mem_of_mem_drop hx)) (HD.out.below hb))
    have HY:=J hy;have HAE:=J ha;have V8:=J hpt;clear k8 hpo m0 m61 hwl hwg vV hd ht qy hs2 Cp hy ha hpt
    cases gY:dG L (t.args.take a)
    ·rw [gY]at hR jI
     obtain rfl:R=false:=by rw [←hR];rfl
     clear hR gY;go_enter func196,ntmps196;go_wp2_with (first|(go_at_call 254;(with_reducible refine(HF.out).mono ?_);rintro e w2 ⟨rfl,hb⟩;have cC:=J hb;clear hb;have d10:=(HX.out.below cC.out HX.out.lt).c0;have d11:=(HX.out.below cC.out HX.out.lt).c1;have d12:=(HX.out.below cC.out HX.out.lt).c2;have d13:=(HX.out.below cC.out HX.out.lt).c3;have d14:=(HX.out.below cC.out HX.out.lt).c4;have d15:=(HX.out.below cC.out HX.out.lt).c5;have d16:=(HX.out.below cC.out HX.out.lt).c6;have d17:=(HX.out.below cC.out HX.out.lt).c7;have Fv:=(HX.out.below cC.out HX.out.lt).c8)|(go_at_call 197;(with_reducible refine(UX.out _ cC.out).mono ?_);rintro e w3 ⟨rfl,hb⟩;have g_:=J (cC.out.trans (hb.mono cC.out.size));clear hb;have d20:=(HX.out.below g_.out HX.out.lt).c0;have d21:=(HX.out.below g_.out HX.out.lt).c1;have d22:=(HX.out.below g_.out HX.out.lt).c2;rw [HY.out]at d22;have d23:=(HX.out.below g_.out HX.out.lt).c3;have d24:=(HX.out.below g_.out HX.out.lt).c4;have d25:=(HX.out.below g_.out HX.out.lt).c5;have d26:=(HX.out.below g_.out HX.out.lt).c6;have d27:=(HX.out.below g_.out HX.out.lt).c7;have d28:=(HX.out.below g_.out HX.out.lt).c8;have vt:=HP.out.below g_.out;obtain⟨ty,rv,_,_,_,_,ca,_,_⟩:=vt.at_ V8.out;replace ca:=bc (j:=1) ca;rw [HAE.out]at ca)|(go_at_call 255;(with_reducible refine(jI.out _ g_.out).mono ?_);rintro e w4 ⟨rfl,hb⟩;have xZ:=J (g_.out.trans (hb.mono g_.out.size));clear hb;have d38:=(HX.out.below xZ.out HX.out.lt).c8))
     go_ret;exact⟨rfl,HB.out.trans (xZ.out.mono HB.out.size)⟩
    ·rw [gY,zZ]at hR
     rw [gY]at jI;clear gY
     cases hx2:dQ L (t.args.drop a)
     focus
      rw [hx2]at hR mw;obtain rfl:R=false:=hR.symm
     rotate_left
     focus
      rw [hx2]at hR mw;obtain rfl:R=true:=hR.symm
     all_goals
      clear hR hx2;go_enter func196,ntmps196;go_wp2_with (first|(go_at_call 254;(with_reducible refine(HF.out).mono ?_);rintro e w2 ⟨rfl,hb⟩;have cC:=J hb;clear hb;have d10:=(HX.out.below cC.out HX.out.lt).c0;have d11:=(HX.out.below cC.out HX.out.lt).c1;have d12:=(HX.out.below cC.out HX.out.lt).c2;have d13:=(HX.out.below cC.out HX.out.lt).c3;have d14:=(HX.out.below cC.out HX.out.lt).c4;have d15:=(HX.out.below cC.out HX.out.lt).c5;have d16:=(HX.out.below cC.out HX.out.lt).c6;have d17:=(HX.out.below cC.out HX.out.lt).c7;have Fv:=(HX.out.below cC.out HX.out.lt).c8)|(go_at_call 197;(with_reducible refine(UX.out _ cC.out).mono ?_);rintro e w3 ⟨rfl,hb⟩;have g_:=J (cC.out.trans (hb.mono cC.out.size));clear hb;have d20:=(HX.out.below g_.out HX.out.lt).c0;have d21:=(HX.out.below g_.out HX.out.lt).c1;have d22:=(HX.out.below g_.out HX.out.lt).c2;rw [HY.out]at d22;have d23:=(HX.out.below g_.out HX.out.lt).c3;have d24:=(HX.out.below g_.out HX.out.lt).c4;have d25:=(HX.out.below g_.out HX.out.lt).c5;have d26:=(HX.out.below g_.out HX.out.lt).c6;have d27:=(HX.out.below g_.out HX.out.lt).c7;have d28:=(HX.out.below g_.out HX.out.lt).c8;have vt:=HP.out.below g_.out;obtain⟨ty,rv,_,_,_,_,ca,_,_⟩:=vt.at_ V8.out;replace ca:=bc (j:=1) ca;rw [HAE.out]at ca)|(go_at_call 255;(with_reducible refine(jI.out _ g_.out).mono ?_);rintro e w4 ⟨rfl,hb⟩;have xZ:=J (g_.out.trans (hb.mono g_.out.size));clear hb;have d38:=(HX.out.below xZ.out HX.out.lt).c8)|(go_at_call 256;(with_reducible refine(mw.out _ xZ.out).mono ?_);rintro e w5 ⟨rfl,hb⟩;have YT:=J (xZ.out.trans (hb.mono xZ.out.size));clear hb))
      go_ret;exact⟨rfl,HB.out.trans (YT.out.mono HB.out.size)⟩
  ·have q8:=oS k8
   obtain rfl:R=true:=by rw [←hR];exact CE k8
   clear hR k8;go_enter func196,ntmps196;go_wp2_with (go_at_call 254;(with_reducible refine(HF.out).mono ?_);rintro e w2 ⟨rfl,hb⟩;have cC:=J hb;clear hb;have d10:=(HX.out.below cC.out HX.out.lt).c0;have d11:=(HX.out.below cC.out HX.out.lt).c1;have d12:=(HX.out.below cC.out HX.out.lt).c2;have d13:=(HX.out.below cC.out HX.out.lt).c3;have d14:=(HX.out.below cC.out HX.out.lt).c4;have d15:=(HX.out.below cC.out HX.out.lt).c5;have d16:=(HX.out.below cC.out HX.out.lt).c6;have d17:=(HX.out.below cC.out HX.out.lt).c7;have Fv:=(HX.out.below cC.out HX.out.lt).c8);go_ret;exact⟨rfl,HB.out.trans (cC.out.mono HB.out.size)⟩
set_option maxHeartbeats 8000000
theorem L8(L:List Fl)(A:Option Addr)(c n aJ:Nat)(w:World)(hr:aJ<L.length)(hn:n=aJ+1)(hN:NF w w.heap.size (.slice A L.length c) L):
 Calls prog 128 #[.agg #[.slice A L.length c, .int .i64 (aJ:Int)]] w (BH (m_ bD L (aJ:Int)) w):=by
 obtain⟨A',c',e,Qa,JH⟩:=hN.len;injection e with e1 e2 e3
 subst e1 e3;obtain⟨tr,htr⟩: ∃tr,L[aJ]? =some tr:=⟨_,zk hr⟩;obtain⟨W0,hW0⟩: ∃W0,w.alloc (.cells #[.slice A L.length c, .int .i64 (aJ:Int)] 63)=W0:=⟨_,rfl⟩;have gZ:Below w.heap.size w W0:=by rw [←hW0];exact(zg _ _).alloc (za _) _
 have bi:=J gZ;have HX0:=J (show ai W0 w.heap.size 63 #[.slice A L.length c, .int .i64 (aJ:Int)]by rw [←hW0];exact ai.new _ _ _)
 have b0:=HX0.out.c0;have b1:=HX0.out.c1;have HN:=J hN;have hnr:n≤L.length:=by omega
 have lj:n≤aJ+1:=by omega
 have gW:aJ+1≤n:=by omega
 have hrl:(aJ:Int)<(L.length:Int):=by omega
 have hLn:L.length≤1300000000000:=by omega
 have oj:=J (abX htr);have HRG:=J (fun ho=>Tu (nR L) aJ ho)
 have JM:=J (fun k=>oz (jc bD L) (ay (nR L) aJ).1 L (aJ+1) (fun j hj=>by have:=below_le (nR L) aJ j hj;omega) k)
 have vy:=J (fun k=>oz (nS bD) (ay (nR L) aJ).1 L (aJ+1) (fun j hj=>by have:=below_le (nR L) aJ j hj;omega) k)
 have rQ:=J (vZ L A c n aJ W0 hr hn (NF.below hN gZ));have HN0:=J (NF.below hN gZ);obtain⟨RC,hRC⟩: ∃RC,m_ bD L (aJ:Int)=RC:=⟨_,rfl⟩;rw [hRC]at oj⊢;unfold pR at rQ;unfold BH;obtain⟨inb,U7⟩: ∃b,(ay (nR L) aJ).1=b:=⟨_,rfl⟩;rw [U7]at rQ oj HRG JM vy;have HFR:=J (fun w' v (h:NF w' w'.heap.size v L)=>L6 L v (aJ:Int) w' h)
 rw [uB hr]at HFR;generalize(ay (nR L) aJ).2=ok at rQ oj HRG;generalize lz L aJ=fr at oj HFR;clear hN hn hRC U7 gZ hr;obtain⟨ad0,_,_,_,rfl,_,_,cr0,_⟩:=HN0.out.at_ htr;have YS:=J (fun w'=>yL tr.k w')
 clear htr
 cases hmv:gv tr.k
 ·rw [hmv]at YS oj
  have HR1:=J (show RC=130 by have:=oj.out;rw [zh rfl]at this;exact this)
  clear hmv;go_enter func128,ntmps128;go_wp2_with (go_at_call 194;(with_reducible refine(YS.out _).q ?_));go_ret;exact⟨by rw [HR1.out];rfl,bi.out⟩
 rw [hmv]at YS oj;clear hmv;go_enter func128,ntmps128;go_wp2_with (go_at_call 194;(with_reducible refine(YS.out _).q ?_));go_at_call 195
 (with_reducible refine(rQ.out).mono ?_)
 rintro e w1 ⟨gb,rfl,hgb,AJ,cT⟩;have qA:=J AJ;have bp:=J (bi.out.trans (cT.mono bi.out.size));have Ln:=J (HX0.out.below cT HX0.out.lt);clear AJ cT rQ b0 b1 bi HX0 hgb;have b0:=Ln.out.c0;have b1:=Ln.out.c1
 cases ok
 ·have nX:=J (show RC=130 by have:=oj.out;rw [ze (by decide),zh rfl]at this;exact this)
  go_wp2_with fail
  go_ret;exact⟨by rw [nX.out];rfl,bp.out⟩
 ·have akd:=J (HRG.out rfl)
  have uo:=oj.out;rw [ze (by decide),ze (by decide)]at uo
  have agC:=J uo;clear uo oj HRG;go_wp2_with fail;go_at_call 7
  (with_reducible refine(gc _).mono ?_)
  rintro e w2 ⟨pv,rfl,a9,cB⟩;obtain⟨PA,pc,vf,iJ,iK⟩:=a9.len;rw [aN]at vf;subst vf;have YQ:=J (show L7 w n gb (.slice (some PA) 61 pc) inb #[.slice (some ad0) L.length c, .int .i64 (aJ:Int)] w2 from⟨bj qA.out cB,a9,bp.out.trans (cB.mono bp.out.size),Ln.out.below cB Ln.out.lt⟩)
  clear a9 cB qA bp Ln b0 b1;have b0:=YQ.out.box.c0;have b1:=YQ.out.box.c1;go_wp2_with fail
  go_loopw [6,49] (fun bd ix wr=> ∃(k:Nat) (pk:Bool),k≤n∧ix= .int .i64 (k:Int)∧bd= .int .i64 (if pk then 0 else 112)∧Hid (jD (jc bD L) inb L k=true)∧Hid (jD (nS bD) inb L k=pk)∧Hid (L7 w n gb (.slice (some PA) 61 pc) inb #[.slice (some ad0) L.length c, .int .i64 (aJ:Int)] wr)) (fun _ ix _=>n-(intOf ix).toNat)
  case atStart=>exact⟨0,true,zO _,rfl,rfl,rfl,rfl,YQ⟩
  case round=>
   obtain⟨k,pk,hk,rfl,rfl,HF,HP,HS⟩:=hrel;obtain⟨wo,rfl⟩: ∃wo:World,wo=wr:=⟨_,rfl⟩;generalize agD:(if pk=true then(0:Int)else 112)=bad
   have Va:=J agD;clear agD b0 b1
   rcases zj k n with bw|iE
   ·obtain⟨t,ht⟩: ∃t,L[k]? =some t:=⟨_,zk (by omega)⟩
    have Wc:=NF.below HN.out HS.out.bel;obtain⟨adx,vv,kv,av,akg,had,xJ,a0,a1,a2,a3,a4,a5,a6,a7,a8⟩:=Wc.at9 ht;obtain rfl:=zz akg;obtain⟨VA,vc,rfl,_,_⟩:=xJ.v.len;obtain⟨KA,kc,rfl,_,_⟩:=xJ.k.len;obtain⟨AA,ac,rfl,Qf,ha2⟩:=xJ.a.len;have lv:=xJ.lv;have lk:=xJ.lk;have la:=xJ.la;obtain⟨W1,hW⟩: ∃W1,wo.alloc (mA t (.slice VA t.vars.length vc) (.slice KA t.keys.length kc) (.slice AA t.args.length ac))=W1:=⟨_,rfl⟩;have gZ:Below wo.heap.size wo W1:=by rw [←hW];exact(zg _ _).alloc (za _) _
    have tu:=J (show ai W1 wo.heap.size 28 #[.int .i64 t.k, .int .i64 t.n, .int .i64 t.m, .int .i64 t.i, .int .u64 t.b, .string ⟨t.t.toArray⟩, .slice VA t.vars.length vc, .slice KA t.keys.length kc, .slice AA t.args.length ac]by rw [←hW];exact ai.new _ _ _)
    have qu:=J (HS.out.below gZ);have cin:=qu.out.made bw;have HNW:=J (NF.below Wc gZ);have HTW:=J (xJ.keep (fun p hp=>gZ.cell hp))
    unfold mA at hW;have hkL:(k:Int)<(L.length:Int):=by omega
    have We:(k:Int)<(n:Int):=by omega
    have hkr:(k:Int)<(aJ:Int)+1:=by omega
    clear Wc
    cases hin:inb k
    ·rw [hin]at cin
     have QN:=J (show jD (jc bD L) inb L (k+1)=true by rw [CM hin];exact HF.out)
     have AK:=J (show jD (nS bD) inb L (k+1)=pk by rw [CM hin];exact HP.out)
     clear ht hin xJ gZ;go_wp2_with fail
     go_roundw
     case rel=>exact⟨k+1,pk,by omega,by go_num,by rw [Va.out],QN,AK,qu⟩
     case measure=>simp [intOf];omega
    ·rw [hin]at cin
     have b0:=qu.out.box.c0;have Cr:=CN (P:=jc bD L) (L:=L) hin ht;rw [HF.out,zZ]at Cr;have hpn:=CN (P:=nS bD) (L:=L) hin ht;rw [HP.out]at hpn;have HPN:=J hpn
     have agE: ∀a∈t.args,0≤a∧a<(L.length:Int):=fun a ha=>by
      have:=akd.out k hin a (by rw [Cx ht];exact ha)
      omega
     have Qa:=tu.out.c0;have JH:=tu.out.c1;have hc3:=tu.out.c2;have hc4:=tu.out.c3;have hc5:=tu.out.c4;have hc6:=tu.out.c5;have hc7:=tu.out.c6;have hc8:=tu.out.c7;have hc9:=tu.out.c8;have Vb:=J (CG L t _ _ _ _ _ W1 HNW.out (FV.more HTW.out gZ.size) agE qu.out.prv);have akf:=J (FV.more HTW.out gZ.size);unfold cG at Vb;clear ht hin xJ gZ agE hpn
     cases hfo:jc bD L t
     ·rw [hfo]at Cr Vb
      have nX:=J (show RC=130 by have:=agC.out;rw [zh (FH (i:=k+1) (by omega) Cr)]at this;exact this)
      clear hfo Cr;go_wp2_with (go_at_call 196;(with_reducible refine(Vb.out).mono ?_);rintro e w4 ⟨rfl,k6⟩;have vX:=J (qu.out.below k6);clear k6);go_ret;exact⟨by rw [nX.out];rfl,vX.out.bel⟩
     ·rw [hfo]at Cr Vb
      have QN:=J Cr;clear hfo Cr;go_upto_region 14 with(go_at_call 196;(with_reducible refine(Vb.out).mono ?_);rintro e w4 ⟨rfl,k6⟩;have vX:=J (qu.out.below k6);have jC:=J (tu.out.below k6 tu.out.lt);have HT4:=J (akf.out.below k6);clear k6)
      clear b0 Qa JH hc3 hc4 hc5 hc6 hc7 hc8 hc9 a0 a1 a2 a3 a4 a5 a6 a7 a8 cin;have c0:=jC.out.c0;have c1:=jC.out.c1;have c2:=jC.out.c2;have c3:=jC.out.c3;have c4:=jC.out.c4;have c5:=jC.out.c5;have c6:=jC.out.c6;have c7:=jC.out.c7;have c8:=jC.out.c8
      by_cases k8:t.k=8
      ·have q8:=be k8
       have UX:=J (yN t _ _ _ _ w4 vX.out.prv HT4.out);unfold cG at UX;have vt:=J (show jD (nS bD) inb L (k+1)=(pk&&eV bD t)by rw [HPN.out];unfold nS;rw [zb (by omega),Bool.false_or])
       generalize eV bD t=po at UX vt;clear k8
       cases po
       ·have AK:=J (show jD (nS bD) inb L (k+1)=false by rw [vt.out,Bool.and_false])
        go_wp2_with (go_at_call 197;(with_reducible refine(UX.out).mono ?_);rintro e w5 ⟨rfl,lq⟩;have Cq:=J (vX.out.below lq);clear lq)
        go_roundw
        case rel=>exact⟨k+1,false,by omega,by go_num,rfl,QN,AK,Cq⟩
        case measure=>simp [intOf];omega
       ·have AK:=J (show jD (nS bD) inb L (k+1)=pk by rw [vt.out,Bool.and_true])
        go_wp2_with (go_at_call 197;(with_reducible refine(UX.out).mono ?_);rintro e w5 ⟨rfl,lq⟩;have Cq:=J (vX.out.below lq);clear lq)
        go_roundw
        case rel=>exact⟨k+1,pk,by omega,by go_num,by rw [Va.out],QN,AK,Cq⟩
        case measure=>simp [intOf];omega
      ·have q8:=ag k8
       have AK:=J (show jD (nS bD) inb L (k+1)=pk by rw [HPN.out];unfold nS;rw [zc k8];simp)
       clear k8;go_wp2_with fail
       go_roundw
       case rel=>exact⟨k+1,pk,by omega,by go_num,by rw [Va.out],QN,AK,vX⟩
       case measure=>simp [intOf];omega
   ·obtain rfl:k=aJ+1:=by omega
    have b0:=HS.out.box.c0;have b1:=HS.out.box.c1;have q0:(aJ:Int)+1≤((aJ+1:Nat):Int):=by omega
    have JN:=agC.out;rw [HF.out,ze (by decide),HP.out]at JN
    clear iE hk
    cases pk
    ·have Wf:=J (show RC=112 by rw [zh rfl]at JN;exact JN)
     obtain rfl:bad=112:=Va.out.symm;clear JN;go_wp2_with fail;go_ret;exact⟨by rw [Wf.out];rfl,HS.out.bel⟩
    ·obtain rfl:bad=0:=Va.out.symm
     rw [ze (by decide)]at JN
     by_cases hm:262144<L.length
     ·rw [zh hm]at JN
      have Wf:=J JN;have q1:=zc (show(262144:Int)<(L.length:Int)by omega)
      clear JN hm;go_wp2_with fail;go_ret;exact⟨by rw [Wf.out];rfl,HS.out.bel⟩
     ·rw [ze hm]at JN
      have q1:=zb (show¬(262144:Int)<(L.length:Int)by omega)
      have HFW:=J (HFR.out wo _ (NF.below HN.out HS.out.bel))
      by_cases rT:fr=[]
      ·rw [zh rT]at JN
       have Wf:=J JN;have Wg:=J (show fr.length=0 by rw [rT];rfl)
       clear JN hm rT;go_wp2_with (go_at_call 198;(with_reducible refine(HFW.out).mono ?_);rintro e w9 ⟨v9,rfl,Vc,U5⟩;obtain⟨A9,c9,rfl,h91,h92⟩:=Vc.len;rw [Wg.out];have QM:=J (HS.out.bel.trans (U5.mono HS.out.bel.size));clear Vc U5);go_ret;exact⟨by rw [Wf.out];rfl,QM.out⟩
      ·rw [ze rT]at JN
       have Wf:=J JN;have hl0:0<fr.length:=List.length_pos_iff.2 rT;have q2:=zc (show(0:Int)<(fr.length:Int)by omega)
       clear JN hm rT;go_wp2_with (go_at_call 198;(with_reducible refine(HFW.out).mono ?_);rintro e w9 ⟨v9,rfl,Vc,U5⟩;obtain⟨A9,c9,rfl,h91,h92⟩:=Vc.len;have QM:=J (HS.out.bel.trans (U5.mono HS.out.bel.size));clear Vc U5);go_ret;exact⟨by rw [Wf.out];rfl,QM.out⟩
theorem F6(L:List Fl)(v:Value)(aJ:Int)(w:World)(hN:NF w w.heap.size v L):Calls prog 128 #[.agg #[v, .int .i64 aJ]] w (BH (m_ bD L aJ) w):=by
 obtain⟨A,c,rfl,Qa,JH⟩:=hN.len;have HB:=J ((zg w.heap.size w).alloc (za _) (.cells #[.slice A L.length c, .int .i64 aJ] 63))
 by_cases h0:aJ<0
 ·rw [Ka (.inl h0)]
  have q0:=zc h0;clear hN;go_enter func128,ntmps128;go_wp2_with fail;go_ret;exact⟨rfl,HB.out⟩
 ·by_cases h1:(L.length:Int)≤aJ
  ·rw [Ka (.inr h1)]
   have q0:=zb h0;have q1:=zc h1;clear hN;go_enter func128,ntmps128;go_wp2_with fail;go_ret;exact⟨rfl,HB.out⟩
  ·obtain⟨r,rfl⟩: ∃r:Nat,aJ=(r:Int):=⟨aJ.toNat,by omega⟩
   exact L8 L A c (r+1) r w (by omega) rfl hN
open Go.RowKit LamM Go.Maps
section
variable {P:Program} {md:Region.Mode} {JT:Array Oper} {Q:Exit→Act→List Frame→World→Prop}
end
open Go.RowKit LamM CpsM Go.Maps
theorem AU:(prog.info? 28).map (fun i=>(i.zero,i.size,i.bytes))=some (some (.agg #[.int .i64 0, .int .i64 0, .int .i64 0, .int .i64 0, .int .u64 0, .string ⟨#[]⟩, .slice none 0 0, .slice none 0 0, .slice none 0 0]),9,128):=by kernel_rfl
theorem AV:prog.underlying 22=some (.slice 28):=by kernel_rfl
theorem mB{w:World}{base size:Nat}{e:TypeId}{v:Value}{n:Nat}{xs:List Value}(h:w.ownsRow base e size v (n+1) xs): ∃g c,v= .slice (some ⟨g,0,none⟩) (n+1) c∧base≤g:=by
 rcases h.2 with⟨_,h0⟩|⟨g,cap,Co,rfl,hb,_⟩
 ·cases h0
 ·exact⟨g,cap,rfl,hb⟩
theorem FN{t:Fl}{vv kv av:Value}(h: ∀u∈[vv,kv,av],u.oneCell'=true): ∀u∈[Value.int .i64 t.k, .int .i64 t.n, .int .i64 t.m, .int .i64 t.i, .int .u64 t.b, .string ⟨t.t.toArray⟩,vv,kv,av],u.oneCell'=true:=by
 intro u hu;simp only [zx,List.mem_nil_iff,Zo]at hu
 rcases hu with rfl|rfl|rfl|rfl|rfl|rfl|rfl|rfl|rfl<;>first|rfl|exact h _ (by simp)
end Go.Proofs.YtcpmiplofbfmfaaGreatDoor
namespace ShrM
end ShrM
namespace FloM
end FloM
namespace Go.Proofs.YtcpmiplofbfmfaaGreatDoor
open Go.RowKit LamM CpsM
theorem am{W:World}{g:Nat}(hg:W.heap.size=g)(t:TypeId)(cs:Array Value):ai (W.alloc (.cells cs t)) g t cs:=by rw [←hg];exact ai.new W t cs
theorem aA(w:World)(o1 o2:Obj):Below w.heap.size w ((w.alloc o1).alloc o2):=((zg _ _).alloc (za _) o1).alloc (by simp) o2
theorem cA(w:World)(o1 o2 o3:Obj):Below w.heap.size w (((w.alloc o1).alloc o2).alloc o3):=(aA w o1 o2).alloc (by simp;omega) o3
def qt(t:Fl):Prop:=(-9223372036854775808≤t.k∧t.k≤9223372036854775807)∧(-9223372036854775808≤t.n∧t.n≤9223372036854775807)∧(-9223372036854775808≤t.m∧t.m≤9223372036854775807)∧(-9223372036854775808≤t.i∧t.i≤9223372036854775807)∧∀x∈t.args, -9223372036854775808≤x∧x≤9223372036854775807
open Tryz
open Go.RowKit LamM CpsM FloM ShrM Go.Maps
abbrev QG:TypeId:=97
abbrev QH:TypeId:=99
theorem KW:prog.underlying 3=some (.int .i64):=by kernel_rfl
theorem D4:prog.underlying QG=some (.map 3 3):=by kernel_rfl
theorem D5:prog.underlying QH=some (.map 3 94):=by kernel_rfl
theorem BL(w:World):(zeroValue 3).run prog w= .ok (.int .i64 0) w:=by kernel_rfl
theorem GS(w:World):(zeroValue 94).run prog w= .ok (.pointer none) w:=by kernel_rfl
theorem ac9:Keyed prog 3:=int_keyed KW
def af9(v:Value):Option (DataW Value×List MemPlace):=some (.held v,[])
abbrev okI(x:Int):Prop:= -9223372036854775808≤x∧x≤9223372036854775807
theorem BM{x:Int}(h:okI x):Go.keyOf prog 3 (.int .i64 x)=some (.int .i64 x):=
 keyOf_int_mk KW (by
  have h1:IntKind.i64.min= -9223372036854775808:=by decide
  have h2:IntKind.i64.max=9223372036854775807:=by decide
  show(decide (IntKind.i64.min≤x)&&decide (x≤IntKind.i64.max))=true;rw [h1,h2,Zm];exact⟨zc h.1,zc h.2⟩)
def Mp(w:World)(B n:Nat)(f:Int→Option Value):Prop:=
 ∃D:DataW Value,w.ownsMap prog 3 af9 B n D∧(∀x:Int,has D (.int .i64 x)=(f x).isSome)∧∀x v,f x=some v→∀z,D.atKey (.int .i64 x) z= .held v
def og(f:Int→Option Value)(x:Int)(v:Value):Int→Option Value:=fun y=>if y=x then some v else f y
section
variable {w w':World} {B n:Nat} {f:Int→Option Value}
theorem Mp.lt(h:Mp w B n f):B<w.heap.size:=by obtain⟨D,h,_⟩:=h;exact h.lt
theorem Mp.made(w:World):Mp (w.alloc (.map #[] 0)) w.heap.size 0 (fun _=>none):=⟨_,World.ownsMap_made w _ _ _,fun _=>rfl,fun _ _ h=>by cases h⟩
theorem Mp.kept{row:Option Nat}(h:Mp w B n f)(hg:w.grownBy w' row)(fa:some B≠row):Mp w' B n f:=by obtain⟨D,h,k⟩:=h;exact⟨D,h.kept hg fa,k⟩
theorem Mp.only{bs:List Nat}(h:Mp w B n f)(ho:ap bs w w')(hB:B∉bs):Mp w' B n f:=by
 obtain⟨D,h,k⟩:=h;have bw:=h.lt;obtain⟨es,abE,hb,F,hs,hD⟩:=h;exact⟨D,⟨es,abE,(ho.block B bw hB).trans hb,F,hs,hD⟩,k⟩
theorem Mp.below(h:Mp w B n f)(hb:Below w.heap.size w w'):Mp w' B n f:=h.only (ap.of_below (bs:=[]) hb) (by simp)
theorem Mp.alloc(h:Mp w B n f)(o:Obj):Mp (w.alloc o) B n f:=by obtain⟨D,h,k⟩:=h;exact⟨D,h.alloc o,k⟩
theorem Mp.drew(h:Mp w B n f):Mp w.drew B n f:=h
theorem Mp.setCell(h:Mp w B n f){p:Addr}(hp:p.block≠B)(u:Value):Mp (w.setCell p u) B n f:=by obtain⟨D,h,k⟩:=h;exact⟨D,h.setCell (fun e=>hp e.symm) u,k⟩
theorem Mp.mono(h:Mp w B n f){m:Nat}(hm:n≤m):Mp w B m f:=by obtain⟨D,h,k⟩:=h;exact⟨D,h.mono hm,k⟩
theorem Mp.ne_blk{g:Nat}{t:TypeId}{cs:Array Value}(h:Mp w B n f)(hb:ai w g t cs):B≠g:=by
 rintro rfl;obtain⟨D,⟨es,abE,h,_⟩,_⟩:=h;unfold ai at hb;rw [h]at hb;injection hb with hb
 cases hb
theorem Mp.look(h:Mp w B n f){t e:TypeId}{z:Value}(ht:prog.underlying t=some (.map 3 e))(hz:(zeroValue e).run prog w= .ok z w){x:Int}(hx:okI x):
 (Instr.lookup t (.map (some B)) (.int .i64 x) true).run prog w= .ok (.tuple #[(f x).getD z, .bool (f x).isSome]) w:=by
 obtain⟨D,h,h1,h2⟩:=h;obtain⟨v,ps,hr,hv⟩:=h.look_ok ac9 ht hz (zd:= .held z) (zp:=[]) rfl (BM hx);rw [hr,h1];have uu:DataW.held v=D.atKey (.int .i64 x) (.held z):=ZW Prod.fst (zz hv)
 cases hf:f x with
 |none=>
  have h3:=h1 x;rw [hf]at h3;rw [atKey_of_not_has h3]at uu;have e:=DataW.held.inj uu;simp only [e,Option.getD_none,Option.getD_some]
 |some u=>
  rw [h2 x u hf]at uu;have e:=DataW.held.inj uu;simp only [e,Option.getD_none,Option.getD_some]
theorem Mp.look1(h:Mp w B n f){t e:TypeId}{z:Value}(ht:prog.underlying t=some (.map 3 e))(hz:(zeroValue e).run prog w= .ok z w){x:Int}(hx:okI x):
 (Instr.lookup t (.map (some B)) (.int .i64 x) false).run prog w= .ok ((f x).getD z) w:=by
 obtain⟨D,h,h1,h2⟩:=h;obtain⟨v,ps,hr,hv⟩:=h.lookup ac9 ht hz (zd:= .held z) (zp:=[]) rfl (BM hx);rw [hr];have uu:DataW.held v=D.atKey (.int .i64 x) (.held z):=ZW Prod.fst (zz hv)
 cases hf:f x with
 |none=>
  have h3:=h1 x;rw [hf]at h3;rw [atKey_of_not_has h3]at uu;have e:=DataW.held.inj uu;simp only [e,Option.getD_none,Option.getD_some]
 |some u=>
  rw [h2 x u hf]at uu;have e:=DataW.held.inj uu;simp only [e,Option.getD_none,Option.getD_some]
theorem Mp.store(h:Mp w B n f)(hn:n<100000){t e:TypeId}(ht:prog.underlying t=some (.map 3 e)){x:Int}(hx:okI x)(v:Value):
 ∃w',(Instr.mapUpdate t (.map (some B)) (.int .i64 x) v).run prog w= .ok () w'∧Mp w' B (n+1) (og f x v)∧w.grownBy w' (some B):=by
 obtain⟨D,h,h1,h2⟩:=h;obtain⟨w',hr,hD,hg⟩:=h.update ac9 ht (by unfold maxLen;omega) (BM hx) (val:=v) (d:= .held v) (ps:=[]) rfl
 refine⟨w',hr,⟨_,hD,fun y=> ?_,fun y u hy z=> ?_⟩,hg⟩
 ·unfold og
  by_cases e:y=x
  ·rw [zh e,e,has_put_same h.isMap (by trivial)];rfl
  ·rw [ze e,has_put_other (by intro h;injection h with _ h;exact e h),h1]
 ·unfold og at hy
  by_cases e:y=x
  ·rw [zh e]at hy;rw [e,atKey_put_same h.isMap (by trivial)];exact ZW DataW.held (zz hy)
  ·rw [ze e]at hy;rw [atKey_put_other (by intro h;injection h with _ h;exact e h)];exact h2 y u hy z
end
theorem ue(w:World){JT:Array Oper}{rest:List Oper}{o:Oper}{a:Act}{Q:Exit→Act→World→Prop}(hg:o.guard=none)(m x v:Operand)(t e:TypeId)(hop:o.op= .mapUpdate t m x v)
 (ht:prog.underlying t=some (.map 3 e)) (B n:Nat) (f:Int→Option Value) (hm:a.eval m= .map (some B)) (hT:Mp w B n f) (hn:n<100000) (y:Int) (hy:okI y) (hx:a.eval x= .int .i64 y) (u:Value) (hv:a.eval v=u)
 (hK: ∀w',Mp w' B (n+1) (og f y u)→w.grownBy w' (some B)→wpList prog JT Q rest (a.put o.dst undef) w'):wpList prog JT Q (o::rest) a w:=by
 refine wpList_plain hg fun K' hK'=> ?_
 obtain⟨w',lr,r1,r2⟩:=hT.store hn ht hy u;unfold Oper.wp;simp [execOp,hop,hm,hx,hv,lr,Result.andThen];exact hK' _ _ (hK w' r1 r2)
end Go.Proofs.YtcpmiplofbfmfaaGreatDoor
namespace ShrM
open LamM CpsM
inductive Tr where
 |mk (f:Fl) (ks:List Tr)
def Ar(L:List Fl):Nat→Nat→Tr
 |0,_=> .mk ⟨0,0,0,0,0,[],[],[],[]⟩ []
 |n+1,i=>match L[i]?with
  |none=> .mk ⟨0,0,0,0,0,[],[],[],[]⟩ []
  |some t=> .mk t (t.args.map fun a=>Ar L n a.toNat)
def Au(L:List Fl)(i:Nat):Tr:=Ar L (i+1) i
def NJ(L:List Fl):Prop:= ∀(j:Nat) (t:Fl),L[j]? =some t→∀a∈t.args,0≤a∧a<(j:Int)
theorem GT{L:List Fl}(hL:NJ L): ∀i n,i<n→Ar L n i=Au L i:=by
 intro i
 induction i using Nat.strongRecOn with
 |ind i ih=>
  intro n hn
  match n,hn with
  |n+1,hn=>
   unfold Au Ar
   cases ht:L[i]?with
   |none=>rfl
   |some t=>
    simp only
    congr 1
    refine List.map_congr_left fun a ha=> ?_
    obtain⟨h0,h1⟩:=hL i t ht a ha;rw [ih a.toNat (by omega) n (by omega),ih a.toNat (by omega) i (by omega)]
theorem TX{L:List Fl}(hL:NJ L){i:Nat}{t:Fl}(ht:L[i]? =some t):Au L i= .mk t (t.args.map fun a=>Au L a.toNat):=by
 show Ar L (i+1) i=_;unfold Ar;rw [ht];simp only
 congr 1
 refine List.map_congr_left fun a ha=> ?_
 obtain⟨h0,h1⟩:=hL i t ht a ha;exact GT hL _ _ (by omega)
end ShrM
namespace Go.Proofs.YtcpmiplofbfmfaaGreatDoor
open Go.RowKit LamM CpsM FloM ShrM Go.Maps
abbrev tN:TypeId:=164
def KX(f:Fl)(vv kv av kids:Value):Array Value:= #[.int .i64 f.k, .int .i64 f.n, .int .i64 f.m, .int .i64 f.i, .int .u64 f.b, .string ⟨f.t.toArray⟩,vv,kv,av,kids]
def rO(n:Nat)(v:Value):Prop:= ∃A c,v= .slice A n c∧n≤c∧c≤maxLen
def Kids(w:World)(S:Nat→Prop)(v:Value)(n:Nat)(ps:Nat→Value):Prop:=
 (n=0∧v= .slice none 0 0)∨∃g c,v= .slice (some ⟨g,0,none⟩) n c∧n≤c∧c≤maxLen∧S g∧g<w.heap.size∧∀k,k<n→w.cell? ⟨g,k,none⟩=some (ps k)
inductive iI(w:World)(S:Nat→Prop):Value→Tr→Prop
 |mk {b:Nat} {f:Fl} {ks:List Tr} {vv kv av kids:Value} (ps:Nat→Value) (hs:S b) (hb:ai w b tN (KX f vv kv av kids)) (hv:rO 0 vv) (hk:rO 0 kv) (ha: ∃n,n≤1000∧rO n av) (hf:qt f) (hr:Kids w S kids ks.length ps) (hl:ks.length≤1000)
   (ih: ∀(k:Nat) (T:Tr),ks[k]? =some T→iI w S (ps k) T):iI w S (.pointer (some ⟨b,0,none⟩)) (.mk f ks)
section
variable {w w':World} {S S':Nat→Prop} {v:Value} {T:Tr} {n:Nat} {ps:Nat→Value}
theorem Kids.keep(h:Kids w S v n ps)(dq:w.heap.size≤w'.heap.size)(hk: ∀b,S b→b<w.heap.size→w'.heap[b]? =w.heap[b]?):Kids w' S v n ps:=by
 rcases h with h|⟨g,c,h1,h2,h3,h4,h5,h6⟩
 ·exact .inl h
 ·exact .inr ⟨g,c,h1,h2,h3,h4,by omega,fun k iP=>(zY (a:=⟨g,k,none⟩) (hk g h4 h5)).trans (h6 k iP)⟩
theorem Kids.more(h:Kids w S v n ps)(hS: ∀b,S b→b<w.heap.size→S' b):Kids w S' v n ps:=by
 rcases h with h|⟨g,c,h1,h2,h3,h4,h5,h6⟩
 ·exact .inl h
 ·exact .inr ⟨g,c,h1,h2,h3,hS g h4 h5,h5,h6⟩
theorem Kids.slice(h:Kids w S v n ps): ∃A c,v= .slice A n c∧n≤c∧c≤maxLen:=by
 rcases h with⟨rfl,h⟩|⟨g,c,h1,h2,h3,_⟩
 ·exact⟨_,_,h,za _,by unfold maxLen;omega⟩
 ·exact⟨_,_,h1,h2,h3⟩
theorem iI.keep(h:iI w S v T)(dq:w.heap.size≤w'.heap.size)(hk: ∀b,S b→b<w.heap.size→w'.heap[b]? =w.heap[b]?):iI w' S v T:=by
 induction h with
 |mk ps hs hb hv Wk ha hf hr hl _ ih=>exact .mk ps hs ((hk _ hs hb.lt).trans hb) hv Wk ha hf (hr.keep dq hk) hl ih
theorem iI.more(h:iI w S v T)(hS: ∀b,S b→b<w.heap.size→S' b):iI w S' v T:=by
 induction h with
 |mk ps hs hb hv Wk ha hf hr hl _ ih=>exact .mk ps (hS _ hs hb.lt) hb hv Wk ha hf (hr.more hS) hl ih
theorem iI.only{bs:List Nat}(h:iI w S v T)(ho:ap bs w w')(hS: ∀b,S b→b∉bs):iI w' S v T:=h.keep ho.size (fun b hb bw=>ho.block b bw (hS b hb))
theorem iI.down(h:iI w S v T)(hb:Below w.heap.size w w'):iI w' S v T:=h.keep hb.size (fun b _ bw=>hb.block b bw)
theorem D6{w:World}{S:Nat→Prop}{base n:Nat}{v:Value}{ps:Nat→Value}(h:w.ownsRow base 94 1 v n ((List.range n).map ps))(hS: ∀g,base≤g→S g):Kids w S v n ps:=by
 have bw:=zr h
 rcases h.2 with⟨e,h0⟩|⟨g,cap,Co,e,hb,_,Qa,JH,_⟩
 ·have:n=0:=by simpa using h0
  exact .inl ⟨this,e⟩
 ·subst e
  refine .inr ⟨g,cap,rfl,Qa,JH,hS g hb,(bw g rfl).2,fun k hk=> ?_⟩
  rw [zM h k (by omega)]
  simp [hk]
theorem iI.ptr(h:iI w S v T): ∃b,v= .pointer (some ⟨b,0,none⟩):=by cases h;exact⟨_,rfl⟩
end
end Go.Proofs.YtcpmiplofbfmfaaGreatDoor
