/- Cps: a JFix: the program's fixed, the reference's fix. -/
import Derived.Test.YtcpmiplofbfmfaaGreatDoorA04
set_option linter.all false
set_option maxRecDepth 100000
set_option maxHeartbeats 4000000
namespace Go.Proofs.YtcpmiplofbfmfaaGreatDoor
open Tryz
open Lib renaming hid→J
open Go.RowKit LamM CpsM
theorem CD{L:List Fl}{vs ws:List Int}{k:Nat}{v a:Int}(hv:vs[k]? =some v)(ha:ws[k]? =some a):
 q_ L (vs.drop k) (ws.drop k)=(!(decide (v<0)||cV L a !=10)&&q_ L (vs.drop (k+1)) (ws.drop (k+1))):=by
 rw [sC hv,sC ha];rfl
theorem FP{L:List Fl}{vs ws:List Int}:q_ L (vs.drop vs.length) ws=true:=by
 rw [List.drop_length];cases ws<;>rfl
theorem FQ(L:List Fl)(t:Fl)(vl vv kv av:Value)(w:World)(hN:NF w w.heap.size vl L)(hT:FV w w.heap.size t vv kv av)(hA: ∀a∈t.args,0≤a∧a<(L.length:Int)):
 Calls prog 297 #[vl, .agg (cG t vv kv av).toArray] w fun e w'=>e= .returned (.bool (v_ L t))∧Below w.heap.size w w':=by
 obtain⟨NA,nc,rfl,lj,gW⟩:=hN.len;obtain⟨VA,vc,rfl,j8,hv2⟩:=hT.v.len;obtain⟨AA,ac,rfl,Qf,ha2⟩:=hT.a.len;have lv:=hT.lv;have la:=hT.la;have HAA:=J hA;obtain⟨W,hW⟩: ∃W,w.alloc (mA t (.slice VA t.vars.length vc) kv (.slice AA t.args.length ac))=W:=⟨_,rfl⟩;have gZ:Below w.heap.size w W:=by rw [←hW];exact(zg _ _).alloc (za _) _
 have HX:=J (show ai W w.heap.size 28 #[.int .i64 t.k, .int .i64 t.n, .int .i64 t.m, .int .i64 t.i, .int .u64 t.b, .string ⟨t.t.toArray⟩, .slice VA t.vars.length vc,kv, .slice AA t.args.length ac]by rw [←hW];exact ai.new _ _ _)
 have HN:=J (hN.below gZ);have HV:=J (hT.v.below gZ);have HA:=J (hT.a.below gZ);have HB:=J gZ;have c6:=HX.out.c6;have c8:=HX.out.c8;unfold mA at hW;unfold cG;obtain⟨R,hR⟩: ∃R,v_ L t=R:=⟨_,rfl⟩;rw [hR];unfold v_ at hR;clear hN hT hA gZ;have HX6:=J (fun w2 (h:Below W.heap.size W w2)=>HX.out.below h HX.out.lt)
 clear HX;generalize t.vars=vs at *;generalize t.args=ws at *;have HFE:=J (fun us=>FP (L:=L) (vs:=vs) (ws:=us))
 by_cases h0:vs.length=0
 ·have h1:=h0
  rw [zb (fun h=>h.1 h0),Ib]at hR
  subst hR;have q0:=be (show(vs.length:Int)=0 by omega)
  clear h0 h1;go_enter func297,ntmps297;go_wp2_with fail;go_ret;exact⟨rfl,HB.out⟩
 ·have q0:=ag (show(vs.length:Int)≠0 by omega)
  by_cases h1:ws.length=vs.length+1
  ·rw [zc ⟨h0,h1⟩,zZ]at hR
   have q1:=f_ (show(ws.length:Int)=(vs.length:Int)+1 by omega)
   obtain⟨al,hal⟩: ∃a,ws[vs.length]? =some a:=⟨_,zk (by omega)⟩
   obtain⟨wd,rfl,_,_⟩:=HA.out.at_ hal;have fa: ¬ac=vs.length:=by omega
   have hd:=m9 HA.out (k:=vs.length) (by omega)
   rw [ze fa]at hd;have HD:=J (show IV W W.heap.size (.slice (some (wd.add vs.length)) (ws.length-vs.length) (ac-vs.length)) (ws.drop vs.length)from hd)
   have YS:=J (fI L (ws.drop vs.length) _ _ W HN.out (fun a ha=>HAA.out a (List.mem_of_mem_drop ha)) HD.out)
   have dz:vs.length<ws.length:=by omega
   have hw2:(vs.length:Int)≤(ws.length:Int):=by omega
   clear h0 h1 hal hd
   cases hmv:dQ L (ws.drop vs.length)
   ·rw [hmv]at hR YS
    obtain rfl:R=false:=by rw [←hR];rfl
    clear hR hmv;go_enter func297,ntmps297;go_wp2_with (go_at_call 256;(with_reducible refine(YS.out).mono ?_);rintro e w2 ⟨rfl,cB⟩;have bM:=J (HB.out.trans (cB.mono HB.out.size));clear cB);go_ret;exact⟨rfl,bM.out⟩
   ·rw [hmv,zZ]at hR
    rw [hmv]at YS;have HR:=J (show q_ L (vs.drop 0) (ws.drop 0)=R from hR)
    clear hR hmv;go_enter func297,ntmps297;go_wp2_with (go_at_call 256;(with_reducible refine(YS.out).mono ?_);rintro e w2 ⟨rfl,cB⟩;have bM:=J (HB.out.trans (cB.mono HB.out.size));have Qe:=J (HN.out.below cB);have ln:=J (HV.out.below cB);have tq:=J (HA.out.below cB);have UW:=J (HX6.out w2 cB);clear cB c6 c8;have c6:=UW.out.cell 6;have c8:=UW.out.cell 8;simp at c6 c8)
    go_loopw [33] (fun iv wr=>wr=w2∧∃k:Nat,k≤vs.length∧iv= .int .i64 (k:Int)∧Hid (q_ L (vs.drop k) (ws.drop k)=R)) (fun iv _=>vs.length-(intOf iv).toNat)
    case atStart=>exact⟨rfl,0,zO _,rfl,HR⟩
    case round=>
     obtain⟨rfl,k,hk,rfl,HK⟩:=hrel
     rcases zj k vs.length with bw|iE
     ·obtain⟨v,hv⟩: ∃v,vs[k]? =some v:=⟨_,zk bw⟩
      obtain⟨a,ha⟩: ∃a,ws[k]? =some a:=⟨_,zk (by omega)⟩
      obtain⟨vd,rfl,_,cv⟩:=ln.out.at_ hv;obtain⟨wd',hwd,_,cw⟩:=tq.out.at_ ha;obtain rfl:=zz hwd;have vU:=HAA.out a (zC ha);obtain⟨x,rfl⟩: ∃x:Nat,a=(x:Int):=⟨a.toNat,by omega⟩
      obtain⟨u,hu⟩: ∃u,L[x]? =some u:=⟨_,zk (by omega)⟩
      obtain⟨nd,_,_,_,rfl,_,_,cn,_⟩:=Qe.out.at_ hu;have ot:=HK.out;rw [CD hv ha,oy (by rw [zv];exact hu)]at ot
      have m1:(k:Int)<(vs.length:Int):=by omega
      have m2:(k:Int)<(ws.length:Int):=by omega
      have m3:(x:Int)<(L.length:Int):=by omega
      clear hv ha hu hwd
      by_cases Wb:v<0
      ·have qv:=zc Wb
       rw [qv,Bool.true_or,Bool.not_true,Ib]at ot;subst ot;clear Wb;go_wp2_with fail;go_ret;exact⟨rfl,bM.out⟩
      ·have qv:=zb Wb
       rw [qv,Bool.false_or]at ot
       by_cases h8:u.k=10
       ·have q8:=f_ h8
        rw [q8,Bool.not_false,zZ]at ot;have Qg:=J ot;clear ot h8 Wb;go_wp2_with fail
        go_roundw
        case rel=>exact⟨by first|rfl|trivial,k+1,by omega,by go_num,Qg⟩
        case measure=>simp [intOf];omega
       ·have q8:=oS h8
        rw [q8,Bool.not_true,Ib]at ot;subst ot;clear h8 Wb;go_wp2_with fail;go_ret;exact⟨rfl,bM.out⟩
     ·obtain rfl:k=vs.length:=by omega
      have nX:=J (show true=R by rw [←HK.out];exact(HFE.out _).symm)
      have q:(vs.length:Int)≤(vs.length:Int):=Int.le_refl _;clear iE hk;go_wp2_with fail;go_ret;exact⟨by rw [←nX.out];rfl,bM.out⟩
  ·rw [zb (fun h=>h1 h.2),Ib]at hR
   subst hR;have q1:=oS (show(ws.length:Int)≠(vs.length:Int)+1 by omega)
   clear h0 h1;go_enter func297,ntmps297;go_wp2_with fail;go_ret;exact⟨rfl,HB.out⟩
set_option maxHeartbeats 60000000
theorem LQ{L:List Fl}{t:Fl}(h:t.k=1):bK L t=(decide (t.args.length=0∧0≤t.n)):=by unfold bK;rw [zh (by omega)]
theorem LR{L:List Fl}{t:Fl}(h:t.k=2):bK L t=(decide (t.args.length=0∧ -4611686018427387904≤t.i∧t.i≤4611686018427387903)):=by unfold bK;rw [ze (by omega),zh (by omega)]
theorem LS{L:List Fl}{t:Fl}(h:t.k=3):bK L t=(decide (t.args.length=0)):=by unfold bK;rw [ze (by omega),ze (by omega),zh (by omega)]
theorem LU{L:List Fl}{t:Fl}(h:t.k=4):bK L t=(decide (t.args.length=0∧t.t.length≤65536)):=by unfold bK;rw [ze (by omega),ze (by omega),ze (by omega),zh (by omega)]
theorem LV{L:List Fl}{t:Fl}(h:t.k=5):bK L t=(decide (2≤t.args.length∧t.args.length≤1025∧0≤t.n)&&(dG L (t.args.take (t.args.length-1))&&dQ L (t.args.drop (t.args.length-1)))):=by unfold bK;rw [ze (by omega),ze (by omega),ze (by omega),ze (by omega),zh (by omega)]
theorem wa{L:List Fl}{t:Fl}(h:t.k=6∨t.k=7):bK L t=(decide (t.args.length=2∧0≤t.n∧0≤t.m)&&(dG L (t.args.take 1)&&dQ L (t.args.drop 1))):=by unfold bK;rw [ze (by omega),ze (by omega),ze (by omega),ze (by omega),ze (by omega),zh (by omega)]
theorem LW{L:List Fl}{t:Fl}(h:t.k=8):bK L t=(decide (0≤t.n)):=by unfold bK;rw [ze (by omega),ze (by omega),ze (by omega),ze (by omega),ze (by omega),ze (by omega),zh (by omega)]
theorem LX{L:List Fl}{t:Fl}(h:t.k=9):bK L t=(v_ L t):=by unfold bK;rw [ze (by omega),ze (by omega),ze (by omega),ze (by omega),ze (by omega),ze (by omega),ze (by omega),zh (by omega)]
theorem FX{L:List Fl}{t:Fl}(h:t.k=10):bK L t=(decide (t.args.length=1)&&(Cy t.vars&&dQ L t.args)):=by unfold bK;rw [ze (by omega),ze (by omega),ze (by omega),ze (by omega),ze (by omega),ze (by omega),ze (by omega),ze (by omega),zh (by omega)]
theorem FY{L:List Fl}{t:Fl}(h:t.k=11):bK L t=(decide (1≤t.args.length∧t.args.length≤65)&&dG L t.args):=by unfold bK;rw [ze (by omega),ze (by omega),ze (by omega),ze (by omega),ze (by omega),ze (by omega),ze (by omega),ze (by omega),ze (by omega),zh (by omega)]
theorem FZ{L:List Fl}{t:Fl}(h:t.k=12):bK L t=(decide (t.args.length=1+t.keys.length∨t.args.length=2+t.keys.length)&&(t.keys.all fP&&(dG L (t.args.take 1)&&dQ L (t.args.drop 1)))):=by unfold bK;rw [ze (by omega),ze (by omega),ze (by omega),ze (by omega),ze (by omega),ze (by omega),ze (by omega),ze (by omega),ze (by omega),ze (by omega),zh (by omega)]
theorem AX{L:List Fl}{t:Fl}(h:t.k=13∨t.k=14):bK L t=(decide (t.args.length=1)&&dG L t.args):=by unfold bK;rw [ze (by omega),ze (by omega),ze (by omega),ze (by omega),ze (by omega),ze (by omega),ze (by omega),ze (by omega),ze (by omega),ze (by omega),ze (by omega),zh (by omega)]
theorem F0{L:List Fl}{t:Fl}(h:t.k<1∨14<t.k):bK L t=false:=by unfold bK;rw [ze (by omega),ze (by omega),ze (by omega),ze (by omega),ze (by omega),ze (by omega),ze (by omega),ze (by omega),ze (by omega),ze (by omega),ze (by omega),ze (by omega)]
abbrev bf(L:List Fl)(t:Fl)(vl vv kv av:Value)(w:World):Prop:=Calls prog 254 #[vl, .agg (cG t vv kv av).toArray] w fun e w'=>e= .returned (.bool (bK L t))∧Below w.heap.size w w'
theorem bA(L:List Fl)(t:Fl)(vl vv kv av:Value)(w:World)(hN:NF w w.heap.size vl L)(hT:FV w w.heap.size t vv kv av)(hA: ∀a∈t.args,0≤a∧a<(L.length:Int)):(∀(hk:t.k=1),bf L t vl vv kv av w)∧(∀(hk:t.k=2),bf L t vl vv kv av w)∧(∀(hk:t.k=3),bf L t vl vv kv av w)∧(∀(hk:t.k=4),bf L t vl vv kv av w)∧(∀(hk:t.k=5),bf L t vl vv kv av w)∧(∀(hk:t.k=6),bf L t vl vv kv av w)∧(∀(hk:t.k=7),bf L t vl vv kv av w)∧(∀(hk:t.k=8),bf L t vl vv kv av w)∧(∀(hk:t.k=9),bf L t vl vv kv av w)∧(∀(hk:t.k=10),bf L t vl vv kv av w)∧(∀(hk:t.k=11),bf L t vl vv kv av w)∧(∀(hk:t.k=12),bf L t vl vv kv av w)∧(∀(hk:t.k=13),bf L t vl vv kv av w)∧(∀(hk:t.k=14),bf L t vl vv kv av w)∧(∀(hk:t.k<1∨14<t.k),bf L t vl vv kv av w):=by
 unfold bf;refine⟨?_,?_,?_,?_,?_,?_,?_,?_,?_,?_,?_,?_,?_,?_,?_⟩
 all_goals intro hk
 have aj:=J (rfl:0=0)
 rotate_left;have aG:=J (rfl:0=0)
 rotate_left;have aP:=J (rfl:0=0)
 rotate_left;have bk:=J (rfl:0=0)
 rotate_left;have bz:=J (rfl:0=0)
 rotate_left;have cE:=J (rfl:0=0)
 rotate_left;have dU:=J (rfl:0=0)
 rotate_left;have gu:=J (rfl:0=0)
 rotate_left;have E8:=J (rfl:0=0)
 rotate_left;have E7:=J (rfl:0=0)
 rotate_left;have Cb:=J (rfl:0=0)
 rotate_left;have UY:=J (rfl:0=0)
 rotate_left;have agu:=J (rfl:0=0)
 rotate_left 2;have agt:=J (rfl:0=0)
 all_goals
  obtain⟨NA,nc,rfl,lj,gW⟩:=hN.len;obtain⟨VA,vc,rfl,j8,hv2⟩:=hT.v.len;obtain⟨KA,kc,rfl,iP,hk2⟩:=hT.k.len;obtain⟨AA,ac,rfl,Qf,ha2⟩:=hT.a.len;have lv:=hT.lv;have lk:=hT.lk;have la:=hT.la;obtain⟨W,hW⟩: ∃W,w.alloc (mA t (.slice VA t.vars.length vc) (.slice KA t.keys.length kc) (.slice AA t.args.length ac))=W:=⟨_,rfl⟩;have gZ:Below w.heap.size w W:=by rw [←hW];exact(zg _ _).alloc (za _) _
  have HB:=J gZ;have HX:=J (show ai W w.heap.size 28 #[.int .i64 t.k, .int .i64 t.n, .int .i64 t.m, .int .i64 t.i, .int .u64 t.b, .string ⟨t.t.toArray⟩, .slice VA t.vars.length vc, .slice KA t.keys.length kc, .slice AA t.args.length ac]by rw [←hW];exact ai.new _ _ _)
  have HN:=J (hN.below gZ);have HT:=J (hT.below gZ);have HV:=J (hT.v.below gZ);have HK:=J (hT.k.below gZ);have HA:=J (hT.a.below gZ);have HR:=J hA;have gi:=J (zg W.heap.size W);clear hN hT hA gZ;have c0:=HX.out.c0;have c1:=HX.out.c1;have c2:=HX.out.c2;have c3:=HX.out.c3;have c4:=HX.out.c4;have c5:=HX.out.c5;have c6:=HX.out.c6;have c7:=HX.out.c7;have c8:=HX.out.c8;unfold mA at hW;unfold cG;obtain⟨R,hR⟩: ∃R,bK L t=R:=⟨_,rfl⟩;rw [hR]
  first
   |replace aj:=aj
    rw [LQ hk]at hR;have q1:=be (show t.k=1 by omega)
    by_cases h1:t.args.length=0
    rotate_left
    focus
     have Fx:=ag (show(t.args.length:Int)≠0 by omega)
     obtain rfl:R=false:=by rw [←hR,zb (by omega)]
     clear hR hk;clear h1
    rotate_left
    focus
     have Fx:=be (show(t.args.length:Int)=0 by omega)
     by_cases h2:0≤t.n
     focus
      have QK:=zc h2;rw [zc (by omega)]at hR
      subst hR;clear hk
     rotate_left
     focus
      have QK:=zb h2;obtain rfl:R=false:=by rw [←hR,zb (by omega)]
      clear hR hk
     all_goals
      clear h1 h2
    all_goals
     go_enter func254,ntmps254;go_wp2_with fail;go_ret;exact⟨rfl,HB.out.trans (gi.out.mono HB.out.size)⟩
   |replace aP:=aP
    rw [LS hk]at hR;have q1:=ag (show t.k≠1 by omega)
    have q2:=ag (show t.k≠2 by omega)
    have q3:=be (show t.k=3 by omega)
    by_cases h1:t.args.length=0
    focus
     have Fx:=be (show(t.args.length:Int)=0 by omega)
     rw [zc (by omega)]at hR
     subst hR;clear hk
    rotate_left
    focus
     have Fx:=ag (show(t.args.length:Int)≠0 by omega)
     obtain rfl:R=false:=by rw [←hR,zb (by omega)]
     clear hR hk
    all_goals
     clear h1;go_enter func254,ntmps254;go_wp2_with fail;go_ret;exact⟨rfl,HB.out.trans (gi.out.mono HB.out.size)⟩
   |replace gu:=gu
    rw [LW hk]at hR;have q1:=ag (show t.k≠1 by omega)
    have q2:=ag (show t.k≠2 by omega)
    have q3:=ag (show t.k≠3 by omega)
    have q4:=ag (show t.k≠4 by omega)
    have q5:=ag (show t.k≠5 by omega)
    have q6:=ag (show t.k≠6 by omega)
    have q7:=ag (show t.k≠7 by omega)
    have q8:=be (show t.k=8 by omega)
    by_cases h2:0≤t.n
    focus
     have QK:=zc h2;rw [zc (by omega)]at hR
     subst hR;clear hk
    rotate_left
    focus
     have QK:=zb h2;obtain rfl:R=false:=by rw [←hR,zb (by omega)]
     clear hR hk
    all_goals
     clear h2;go_enter func254,ntmps254;go_wp2_with fail;go_ret;exact⟨rfl,HB.out.trans (gi.out.mono HB.out.size)⟩
   |replace bz:=bz
    rw [LV hk]at hR;have q1:=ag (show t.k≠1 by omega)
    have q2:=ag (show t.k≠2 by omega)
    have q3:=ag (show t.k≠3 by omega)
    have q4:=ag (show t.k≠4 by omega)
    have q5:=be (show t.k=5 by omega)
    by_cases h1:2≤t.args.length
    ·have Fx:=zc (show(2:Int)≤(t.args.length:Int)by omega)
     by_cases h2:t.args.length≤1025
     ·have QK:=zc (show(t.args.length:Int)-1≤1024 by omega)
      by_cases h3:0≤t.n
      ·have rh3:=zc h3
       rw [zc (by omega),zZ]at hR
       obtain⟨n1,hn⟩: ∃n1,t.args.length=n1+1:=⟨t.args.length-1,by omega⟩
       obtain⟨a0,vV⟩: ∃a0,t.args[0]? =some a0:=⟨_,zk (by omega)⟩
       obtain⟨aa,rfl,_,_⟩:=HA.out.at_ vV;have fa: ¬ac=n1:=by omega
       have hac: ¬ac=0:=by omega
       have hcn:(n1:Int)≤(ac:Int):=by omega
       have hd:=m9 HA.out (k:=n1) (by omega)
       have ht:=mZ HA.out (k:=n1) (by omega)
       rw [ze fa,hn,show n1+1-n1=1 by omega]at hd
       have HD:=J (show IV W W.heap.size (.slice (some (aa.add n1)) 1 (ac-n1)) (t.args.drop n1)from hd)
       have jI:=J (fun w2 (hb:Below W.heap.size W w2)=>fH L (t.args.take n1) _ (.slice (some aa) n1 ac) w2 (HN.out.below hb) (fun a ha=>HR.out a (Z5 ha)) (ht.below hb))
       have mw:=J (fun w2 (hb:Below W.heap.size W w2)=>fI L (t.args.drop n1) _ (.slice (some (aa.add n1)) 1 (ac-n1)) w2 (HN.out.below hb) (fun a ha=>HR.out a (List.mem_of_mem_drop ha)) (HD.out.below hb))
       rw [hn,Nat.add_sub_cancel]at hR;rw [hn]at hW⊢;rw [hn]at c8 Fx QK;have JL:=HX;rw [hn]at JL;clear HX;have HX:=JL;clear JL;have rr1:decide ((2:Int)≤(n1:Int)+1)=true:=zc (by omega)
       have rr2:decide ((n1:Int)≤1024)=true:=zc (by omega)
       clear hk h1 h2 h3 vV hd ht
       cases gY:dG L (t.args.take n1)
       ·rw [gY]at hR jI
        obtain rfl:R=false:=by rw [←hR];rfl
        clear hR gY;go_enter func254,ntmps254;go_wp2_with (go_at_call 255;(with_reducible refine(jI.out _ gi.out).mono ?_);rintro e w2 ⟨rfl,hb⟩;have cC:=J (gi.out.trans (hb.mono gi.out.size));clear hb;have Fv:=(HX.out.below cC.out HX.out.lt).c8);go_ret;exact⟨rfl,HB.out.trans (cC.out.mono HB.out.size)⟩
       ·rw [gY,zZ]at hR
        rw [gY]at jI;clear gY
        cases hx2:dQ L (t.args.drop n1)
        focus
         rw [hx2]at hR mw;obtain rfl:R=false:=by rw [←hR]
        rotate_left
        focus
         rw [hx2]at hR mw;obtain rfl:R=true:=hR.symm
        all_goals
         clear hR hx2;go_enter func254,ntmps254;go_wp2_with (first|(go_at_call 255;(with_reducible refine(jI.out _ gi.out).mono ?_);rintro e w2 ⟨rfl,hb⟩;have cC:=J (gi.out.trans (hb.mono gi.out.size));clear hb;have Fv:=(HX.out.below cC.out HX.out.lt).c8)|(go_at_call 256;(with_reducible refine(mw.out _ cC.out).mono ?_);rintro e w3 ⟨rfl,hb⟩;have g_:=J (cC.out.trans (hb.mono cC.out.size));clear hb))
         go_ret;exact⟨rfl,HB.out.trans (g_.out.mono HB.out.size)⟩
      ·have rh3:=zb h3
       obtain rfl:R=false:=by rw [←hR,zb (by omega)];rfl
       clear hR hk;clear h1 h2 h3;go_enter func254,ntmps254;go_wp2_with fail;go_ret;exact⟨rfl,HB.out.trans (gi.out.mono HB.out.size)⟩
     ·have QK:=zb (show¬(t.args.length:Int)-1≤1024 by omega)
      obtain rfl:R=false:=by rw [←hR,zb (by omega)];rfl
      clear hR hk;clear h1 h2;go_enter func254,ntmps254;go_wp2_with fail;go_ret;exact⟨rfl,HB.out.trans (gi.out.mono HB.out.size)⟩
    ·have Fx:=zb (show¬(2:Int)≤(t.args.length:Int)by omega)
     obtain rfl:R=false:=by rw [←hR,zb (by omega)];rfl
     clear hR hk;clear h1;go_enter func254,ntmps254;go_wp2_with fail;go_ret;exact⟨rfl,HB.out.trans (gi.out.mono HB.out.size)⟩
   |replace cE:=cE
    rw [wa (by omega)]at hR
    have q1:=ag (show t.k≠1 by omega)
    have q2:=ag (show t.k≠2 by omega)
    have q3:=ag (show t.k≠3 by omega)
    have q4:=ag (show t.k≠4 by omega)
    have q5:=ag (show t.k≠5 by omega)
    have q6:=be (show t.k=6 by omega)
    by_cases h1:t.args.length=2
    ·have Fx:=be (show(t.args.length:Int)=2 by omega)
     by_cases h2:0≤t.n
     ·have QK:=zc h2
      by_cases h3:0≤t.m
      ·have rh3:=zc h3
       rw [zc (by omega),zZ]at hR
       obtain⟨a0,vV⟩: ∃a0,t.args[0]? =some a0:=⟨_,zk (by omega)⟩
       obtain⟨aa,rfl,_,_⟩:=HA.out.at_ vV;have fa: ¬ac=1:=by omega
       have hac: ¬ac=0:=by omega
       have hcn:(1:Int)≤(ac:Int):=by omega
       have hd:=m9 HA.out (k:=1) (by omega)
       have ht:=mZ HA.out (k:=1) (by omega)
       rw [ze fa,h1,show 2-1=1 from rfl]at hd
       have HD:=J (show IV W W.heap.size (.slice (some ⟨aa.block,aa.off+1,none⟩) 1 (ac-1)) (t.args.drop 1)from hd)
       have jI:=J (fun w2 (hb:Below W.heap.size W w2)=>fH L (t.args.take 1) _ (.slice (some aa) 1 ac) w2 (HN.out.below hb) (fun a ha=>HR.out a (Z5 ha)) (ht.below hb))
       have mw:=J (fun w2 (hb:Below W.heap.size W w2)=>fI L (t.args.drop 1) _ (.slice (some ⟨aa.block,aa.off+1,none⟩) 1 (ac-1)) w2 (HN.out.below hb) (fun a ha=>HR.out a (List.mem_of_mem_drop ha)) (HD.out.below hb))
       rw [h1]at hW⊢;rw [h1]at c8;have JL:=HX;rw [h1]at JL;clear HX;have HX:=JL;clear JL;clear hk h2 h3 vV hd ht
       cases gY:dG L (t.args.take 1)
       ·rw [gY]at hR jI
        obtain rfl:R=false:=by rw [←hR];rfl
        clear hR gY;go_enter func254,ntmps254;go_wp2_with (go_at_call 255;(with_reducible refine(jI.out _ gi.out).mono ?_);rintro e w2 ⟨rfl,hb⟩;have cC:=J (gi.out.trans (hb.mono gi.out.size));clear hb;have Fv:=(HX.out.below cC.out HX.out.lt).c8);go_ret;exact⟨rfl,HB.out.trans (cC.out.mono HB.out.size)⟩
       ·rw [gY,zZ]at hR
        rw [gY]at jI;clear gY
        cases hx2:dQ L (t.args.drop 1)
        focus
         rw [hx2]at hR mw;obtain rfl:R=false:=by rw [←hR]
        rotate_left
        focus
         rw [hx2]at hR mw;obtain rfl:R=true:=hR.symm
        all_goals
         clear hR hx2;go_enter func254,ntmps254;go_wp2_with (first|(go_at_call 255;(with_reducible refine(jI.out _ gi.out).mono ?_);rintro e w2 ⟨rfl,hb⟩;have cC:=J (gi.out.trans (hb.mono gi.out.size));clear hb;have Fv:=(HX.out.below cC.out HX.out.lt).c8)|(go_at_call 256;(with_reducible refine(mw.out _ cC.out).mono ?_);rintro e w3 ⟨rfl,hb⟩;have g_:=J (cC.out.trans (hb.mono cC.out.size));clear hb))
         go_ret;exact⟨rfl,HB.out.trans (g_.out.mono HB.out.size)⟩
      ·have rh3:=zb h3
       obtain rfl:R=false:=by rw [←hR,zb (by omega)];rfl
       clear hR hk;clear h1 h2 h3;go_enter func254,ntmps254;go_wp2_with fail;go_ret;exact⟨rfl,HB.out.trans (gi.out.mono HB.out.size)⟩
     ·have QK:=zb h2
      obtain rfl:R=false:=by rw [←hR,zb (by omega)];rfl
      clear hR hk;clear h1 h2;go_enter func254,ntmps254;go_wp2_with fail;go_ret;exact⟨rfl,HB.out.trans (gi.out.mono HB.out.size)⟩
    ·have Fx:=ag (show(t.args.length:Int)≠2 by omega)
     obtain rfl:R=false:=by rw [←hR,zb (by omega)];rfl
     clear hR hk;clear h1;go_enter func254,ntmps254;go_wp2_with fail;go_ret;exact⟨rfl,HB.out.trans (gi.out.mono HB.out.size)⟩
   |replace dU:=dU
    rw [wa (by omega)]at hR
    have q1:=ag (show t.k≠1 by omega)
    have q2:=ag (show t.k≠2 by omega)
    have q3:=ag (show t.k≠3 by omega)
    have q4:=ag (show t.k≠4 by omega)
    have q5:=ag (show t.k≠5 by omega)
    have q6:=ag (show t.k≠6 by omega)
    have q7:=be (show t.k=7 by omega)
    by_cases h1:t.args.length=2
    ·have Fx:=be (show(t.args.length:Int)=2 by omega)
     by_cases h2:0≤t.n
     ·have QK:=zc h2
      by_cases h3:0≤t.m
      ·have rh3:=zc h3
       rw [zc (by omega),zZ]at hR
       obtain⟨a0,vV⟩: ∃a0,t.args[0]? =some a0:=⟨_,zk (by omega)⟩
       obtain⟨aa,rfl,_,_⟩:=HA.out.at_ vV;have fa: ¬ac=1:=by omega
       have hac: ¬ac=0:=by omega
       have hcn:(1:Int)≤(ac:Int):=by omega
       have hd:=m9 HA.out (k:=1) (by omega)
       have ht:=mZ HA.out (k:=1) (by omega)
       rw [ze fa,h1,show 2-1=1 from rfl]at hd
       have HD:=J (show IV W W.heap.size (.slice (some ⟨aa.block,aa.off+1,none⟩) 1 (ac-1)) (t.args.drop 1)from hd)
       have jI:=J (fun w2 (hb:Below W.heap.size W w2)=>fH L (t.args.take 1) _ (.slice (some aa) 1 ac) w2 (HN.out.below hb) (fun a ha=>HR.out a (Z5 ha)) (ht.below hb))
       have mw:=J (fun w2 (hb:Below W.heap.size W w2)=>fI L (t.args.drop 1) _ (.slice (some ⟨aa.block,aa.off+1,none⟩) 1 (ac-1)) w2 (HN.out.below hb) (fun a ha=>HR.out a (List.mem_of_mem_drop ha)) (HD.out.below hb))
       rw [h1]at hW⊢;rw [h1]at c8;have JL:=HX;rw [h1]at JL;clear HX;have HX:=JL;clear JL;clear hk h2 h3 vV hd ht
       cases gY:dG L (t.args.take 1)
       ·rw [gY]at hR jI
        obtain rfl:R=false:=by rw [←hR];rfl
        clear hR gY;go_enter func254,ntmps254;go_wp2_with (go_at_call 255;(with_reducible refine(jI.out _ gi.out).mono ?_);rintro e w2 ⟨rfl,hb⟩;have cC:=J (gi.out.trans (hb.mono gi.out.size));clear hb;have Fv:=(HX.out.below cC.out HX.out.lt).c8);go_ret;exact⟨rfl,HB.out.trans (cC.out.mono HB.out.size)⟩
       ·rw [gY,zZ]at hR
        rw [gY]at jI;clear gY
        cases hx2:dQ L (t.args.drop 1)
        focus
         rw [hx2]at hR mw;obtain rfl:R=false:=by rw [←hR]
        rotate_left
        focus
         rw [hx2]at hR mw;obtain rfl:R=true:=hR.symm
        all_goals
         clear hR hx2;go_enter func254,ntmps254;go_wp2_with (first|(go_at_call 255;(with_reducible refine(jI.out _ gi.out).mono ?_);rintro e w2 ⟨rfl,hb⟩;have cC:=J (gi.out.trans (hb.mono gi.out.size));clear hb;have Fv:=(HX.out.below cC.out HX.out.lt).c8)|(go_at_call 256;(with_reducible refine(mw.out _ cC.out).mono ?_);rintro e w3 ⟨rfl,hb⟩;have g_:=J (cC.out.trans (hb.mono cC.out.size));clear hb))
         go_ret;exact⟨rfl,HB.out.trans (g_.out.mono HB.out.size)⟩
      ·have rh3:=zb h3
       obtain rfl:R=false:=by rw [←hR,zb (by omega)];rfl
       clear hR hk;clear h1 h2 h3;go_enter func254,ntmps254;go_wp2_with fail;go_ret;exact⟨rfl,HB.out.trans (gi.out.mono HB.out.size)⟩
     ·have QK:=zb h2
      obtain rfl:R=false:=by rw [←hR,zb (by omega)];rfl
      clear hR hk;clear h1 h2;go_enter func254,ntmps254;go_wp2_with fail;go_ret;exact⟨rfl,HB.out.trans (gi.out.mono HB.out.size)⟩
    ·have Fx:=ag (show(t.args.length:Int)≠2 by omega)
     obtain rfl:R=false:=by rw [←hR,zb (by omega)];rfl
     clear hR hk;clear h1;go_enter func254,ntmps254;go_wp2_with fail;go_ret;exact⟨rfl,HB.out.trans (gi.out.mono HB.out.size)⟩
   |replace Cb:=Cb
    rw [FY hk]at hR;have q1:=ag (show t.k≠1 by omega)
    have q2:=ag (show t.k≠2 by omega)
    have q3:=ag (show t.k≠3 by omega)
    have q4:=ag (show t.k≠4 by omega)
    have q5:=ag (show t.k≠5 by omega)
    have q6:=ag (show t.k≠6 by omega)
    have q7:=ag (show t.k≠7 by omega)
    have q8:=ag (show t.k≠8 by omega)
    have q9:=ag (show t.k≠9 by omega)
    have q10:=ag (show t.k≠10 by omega)
    have q11:=be (show t.k=11 by omega)
    by_cases h1:1≤t.args.length
    ·have Fx:=zc (show(1:Int)≤(t.args.length:Int)by omega)
     by_cases h2:t.args.length≤65
     ·have QK:=zc (show(t.args.length:Int)-1≤64 by omega)
      rw [zc (by omega),zZ]at hR
      have jI:=J (fun w2 (hb:Below W.heap.size W w2)=>fH L t.args _ _ w2 (HN.out.below hb) HR.out (HA.out.below hb))
      clear hk;clear h1 h2
      cases gY:dG L t.args
      focus
       rw [gY]at hR jI;obtain rfl:R=false:=by rw [←hR]
      rotate_left
      focus
       rw [gY]at hR jI;obtain rfl:R=true:=hR.symm
      all_goals
       clear hR gY;go_enter func254,ntmps254;go_wp2_with (go_at_call 255;(with_reducible refine(jI.out _ gi.out).mono ?_);rintro e w2 ⟨rfl,hb⟩;have cC:=J (gi.out.trans (hb.mono gi.out.size));clear hb);go_ret;exact⟨rfl,HB.out.trans (cC.out.mono HB.out.size)⟩
     ·have QK:=zb (show¬(t.args.length:Int)-1≤64 by omega)
      obtain rfl:R=false:=by rw [←hR,zb (by omega)];rfl
      clear hR hk;clear h1 h2;go_enter func254,ntmps254;go_wp2_with fail;go_ret;exact⟨rfl,HB.out.trans (gi.out.mono HB.out.size)⟩
    ·have Fx:=zb (show¬(1:Int)≤(t.args.length:Int)by omega)
     obtain rfl:R=false:=by rw [←hR,zb (by omega)];rfl
     clear hR hk;clear h1;go_enter func254,ntmps254;go_wp2_with fail;go_ret;exact⟨rfl,HB.out.trans (gi.out.mono HB.out.size)⟩
   |replace UY:=UY
    rw [FZ hk]at hR;have q1:=ag (show t.k≠1 by omega)
    have q2:=ag (show t.k≠2 by omega)
    have q3:=ag (show t.k≠3 by omega)
    have q4:=ag (show t.k≠4 by omega)
    have q5:=ag (show t.k≠5 by omega)
    have q6:=ag (show t.k≠6 by omega)
    have q7:=ag (show t.k≠7 by omega)
    have q8:=ag (show t.k≠8 by omega)
    have q9:=ag (show t.k≠9 by omega)
    have q10:=ag (show t.k≠10 by omega)
    have q11:=ag (show t.k≠11 by omega)
    have q12:=be (show t.k=12 by omega)
    have jI:=J (fun w2 (hb:Below W.heap.size W w2)=>AT t.keys _ w2 (HK.out.below hb))
    by_cases h1:t.args.length=1+t.keys.length
    ·have r1:=be (show(t.args.length:Int)=1+(t.keys.length:Int)by omega)
     rw [zc (by omega),zZ]at hR
     obtain⟨a0,vV⟩: ∃a0,t.args[0]? =some a0:=⟨_,zk (by omega)⟩
     obtain⟨aa,rfl,_,_⟩:=HA.out.at_ vV;have hac: ¬ac=0:=by omega
     have hcn:(1:Int)≤(ac:Int):=by omega
     have QL:(1:Int)≤(t.args.length:Int):=by omega
     have ht:=mZ HA.out (k:=1) (by omega)
     have hd:=m9 HA.out (k:=1) (by omega)
     obtain⟨A1,hA1⟩: ∃A1,(if ac=1 then some aa else some ⟨aa.block,aa.off+1,none⟩)=A1:=⟨_,rfl⟩
     have HD:=J (show IV W W.heap.size (.slice A1 (t.args.length-1) (ac-1)) (t.args.drop 1)by rw [←hA1];exact hd)
     have mw:=J (fun w2 (hb:Below W.heap.size W w2)=>fH L (t.args.take 1) _ (.slice (some aa) 1 ac) w2 (HN.out.below hb) (fun a ha=>HR.out a (Z5 ha)) (ht.below hb))
     have UZ:=J (fun w2 (hb:Below W.heap.size W w2)=>fI L (t.args.drop 1) _ (.slice A1 (t.args.length-1) (ac-1)) w2 (HN.out.below hb) (fun a ha=>HR.out a (List.mem_of_mem_drop ha)) (HD.out.below hb))
     clear hk vV ht hd h1;rw [←Bool.not_not (t.keys.all fP)]at hR
     cases gY:t.keys.all fP
     ·rw [gY]at hR jI
      obtain rfl:R=false:=by rw [←hR];rfl
      clear hR gY;go_enter func254,ntmps254;go_wp2_with (go_at_call 299;(with_reducible refine(jI.out _ gi.out).mono ?_);rintro e w2 ⟨rfl,hb⟩;have cC:=J (gi.out.trans (hb.mono gi.out.size));clear hb;have Fv:=(HX.out.below cC.out HX.out.lt).c8);go_ret;exact⟨rfl,HB.out.trans (cC.out.mono HB.out.size)⟩
     ·rw [gY,Bool.not_not,zZ]at hR
      rw [gY]at jI;clear gY
      cases hx2:dG L (t.args.take 1)
      ·rw [hx2]at hR mw
       obtain rfl:R=false:=by rw [←hR];rfl
       clear hR hx2;go_enter func254,ntmps254;go_wp2_with (first|(go_at_call 299;(with_reducible refine(jI.out _ gi.out).mono ?_);rintro e w2 ⟨rfl,hb⟩;have cC:=J (gi.out.trans (hb.mono gi.out.size));clear hb;have Fv:=(HX.out.below cC.out HX.out.lt).c8)|(go_at_call 255;(with_reducible refine(mw.out _ cC.out).mono ?_);rintro e w3 ⟨rfl,hb⟩;have g_:=J (cC.out.trans (hb.mono cC.out.size));clear hb;have d28:=(HX.out.below g_.out HX.out.lt).c8))
       go_ret;exact⟨rfl,HB.out.trans (g_.out.mono HB.out.size)⟩
      ·rw [hx2,zZ]at hR
       rw [hx2]at mw;clear hx2
       cases hx3:dQ L (t.args.drop 1)
       focus
        rw [hx3]at hR UZ;obtain rfl:R=false:=hR.symm
       rotate_left
       focus
        rw [hx3]at hR UZ;obtain rfl:R=true:=hR.symm
       all_goals
        clear hR hx3;go_enter func254,ntmps254;go_wp2_with (first|(go_at_call 299;(with_reducible refine(jI.out _ gi.out).mono ?_);rintro e w2 ⟨rfl,hb⟩;have cC:=J (gi.out.trans (hb.mono gi.out.size));clear hb;have Fv:=(HX.out.below cC.out HX.out.lt).c8)|(go_at_call 255;(with_reducible refine(mw.out _ cC.out).mono ?_);rintro e w3 ⟨rfl,hb⟩;have g_:=J (cC.out.trans (hb.mono cC.out.size));clear hb;have d28:=(HX.out.below g_.out HX.out.lt).c8)|(go_at_call 256;(with_reducible refine(UZ.out _ g_.out).mono ?_);rintro e w4 ⟨rfl,hb⟩;have xZ:=J (g_.out.trans (hb.mono g_.out.size));clear hb))
        go_ret;exact⟨rfl,HB.out.trans (xZ.out.mono HB.out.size)⟩
    ·have r1:=ag (show(t.args.length:Int)≠1+(t.keys.length:Int)by omega)
     by_cases h2:t.args.length=2+t.keys.length
     ·have r2:=be (show(t.args.length:Int)=2+(t.keys.length:Int)by omega)
      rw [zc (by omega),zZ]at hR
      obtain⟨a0,vV⟩: ∃a0,t.args[0]? =some a0:=⟨_,zk (by omega)⟩
      obtain⟨aa,rfl,_,_⟩:=HA.out.at_ vV;have hac: ¬ac=0:=by omega
      have hcn:(1:Int)≤(ac:Int):=by omega
      have QL:(1:Int)≤(t.args.length:Int):=by omega
      have ht:=mZ HA.out (k:=1) (by omega)
      have hd:=m9 HA.out (k:=1) (by omega)
      obtain⟨A1,hA1⟩: ∃A1,(if ac=1 then some aa else some ⟨aa.block,aa.off+1,none⟩)=A1:=⟨_,rfl⟩
      have HD:=J (show IV W W.heap.size (.slice A1 (t.args.length-1) (ac-1)) (t.args.drop 1)by rw [←hA1];exact hd)
      have mw:=J (fun w2 (hb:Below W.heap.size W w2)=>fH L (t.args.take 1) _ (.slice (some aa) 1 ac) w2 (HN.out.below hb) (fun a ha=>HR.out a (Z5 ha)) (ht.below hb))
      have UZ:=J (fun w2 (hb:Below W.heap.size W w2)=>fI L (t.args.drop 1) _ (.slice A1 (t.args.length-1) (ac-1)) w2 (HN.out.below hb) (fun a ha=>HR.out a (List.mem_of_mem_drop ha)) (HD.out.below hb))
      clear hk vV ht hd h1 h2;rw [←Bool.not_not (t.keys.all fP)]at hR
      cases gY:t.keys.all fP
      ·rw [gY]at hR jI
       obtain rfl:R=false:=by rw [←hR];rfl
       clear hR gY;go_enter func254,ntmps254;go_wp2_with (go_at_call 299;(with_reducible refine(jI.out _ gi.out).mono ?_);rintro e w2 ⟨rfl,hb⟩;have cC:=J (gi.out.trans (hb.mono gi.out.size));clear hb;have Fv:=(HX.out.below cC.out HX.out.lt).c8);go_ret;exact⟨rfl,HB.out.trans (cC.out.mono HB.out.size)⟩
      ·rw [gY,Bool.not_not,zZ]at hR
       rw [gY]at jI;clear gY
       cases hx2:dG L (t.args.take 1)
       ·rw [hx2]at hR mw
        obtain rfl:R=false:=by rw [←hR];rfl
        clear hR hx2;go_enter func254,ntmps254;go_wp2_with (first|(go_at_call 299;(with_reducible refine(jI.out _ gi.out).mono ?_);rintro e w2 ⟨rfl,hb⟩;have cC:=J (gi.out.trans (hb.mono gi.out.size));clear hb;have Fv:=(HX.out.below cC.out HX.out.lt).c8)|(go_at_call 255;(with_reducible refine(mw.out _ cC.out).mono ?_);rintro e w3 ⟨rfl,hb⟩;have g_:=J (cC.out.trans (hb.mono cC.out.size));clear hb;have d28:=(HX.out.below g_.out HX.out.lt).c8))
        go_ret;exact⟨rfl,HB.out.trans (g_.out.mono HB.out.size)⟩
       ·rw [hx2,zZ]at hR
        rw [hx2]at mw;clear hx2
        cases hx3:dQ L (t.args.drop 1)
        focus
         rw [hx3]at hR UZ;obtain rfl:R=false:=hR.symm
        rotate_left
        focus
         rw [hx3]at hR UZ;obtain rfl:R=true:=hR.symm
        all_goals
         clear hR hx3;go_enter func254,ntmps254;go_wp2_with (first|(go_at_call 299;(with_reducible refine(jI.out _ gi.out).mono ?_);rintro e w2 ⟨rfl,hb⟩;have cC:=J (gi.out.trans (hb.mono gi.out.size));clear hb;have Fv:=(HX.out.below cC.out HX.out.lt).c8)|(go_at_call 255;(with_reducible refine(mw.out _ cC.out).mono ?_);rintro e w3 ⟨rfl,hb⟩;have g_:=J (cC.out.trans (hb.mono cC.out.size));clear hb;have d28:=(HX.out.below g_.out HX.out.lt).c8)|(go_at_call 256;(with_reducible refine(UZ.out _ g_.out).mono ?_);rintro e w4 ⟨rfl,hb⟩;have xZ:=J (g_.out.trans (hb.mono g_.out.size));clear hb))
         go_ret;exact⟨rfl,HB.out.trans (xZ.out.mono HB.out.size)⟩
     ·have r2:=ag (show(t.args.length:Int)≠2+(t.keys.length:Int)by omega)
      obtain rfl:R=false:=by rw [←hR,zb (by omega)];rfl
      clear hR hk h1 h2;go_enter func254,ntmps254;go_wp2_with fail;go_ret;exact⟨rfl,HB.out.trans (gi.out.mono HB.out.size)⟩
   |(first|replace aG:=aG|replace bk:=bk)
    first
     |replace aG:=aG
      rw [LR hk]at hR
     |rw [LU hk]at hR
    have q1:=ag (show t.k≠1 by omega)
    first
     |replace aG:=aG
      have q2:=be (show t.k=2 by omega)
      have HC:=J (fun w=>GG t.i w)
     |have q2:=ag (show t.k≠2 by omega)
      have q3:=ag (show t.k≠3 by omega)
      have q4:=be (show t.k=4 by omega)
      have HC:=J (fun w=>xe t.t w)
    by_cases h1:t.args.length=0
    focus
     have Fx:=be (show(t.args.length:Int)=0 by omega)
     first
      |replace aG:=aG
       have hR2:t_ t.i=R:=by rw [←hR];unfold t_;congr 1;exact propext ⟨fun h=>⟨h1,h⟩,fun h=>h.2⟩
      |have hR2:decide (t.t.length≤65536)=R:=by rw [←hR];congr 1;exact propext ⟨fun h=>⟨h1,h⟩,fun h=>h.2⟩
     rw [hR2]at HC;clear hR hR2 h1 hk;go_enter func254,ntmps254;go_wp2_with ((first|replace aG:=aG;go_at_call 49|replace bk:=bk;go_at_call 50);(with_reducible refine(HC.out _).q ?_))
    rotate_left
    focus
     have Fx:=ag (show(t.args.length:Int)≠0 by omega)
     obtain rfl:R=false:=by rw [←hR,zb (by omega)]
     clear hR hk;clear h1;go_enter func254,ntmps254;go_wp2_with fail
    all_goals
     go_ret;exact⟨rfl,HB.out.trans (gi.out.mono HB.out.size)⟩
   |(first|replace E8:=E8|replace agt:=agt)
    first
     |replace E8:=E8
      rw [LX hk]at hR
     |rw [F0 hk]at hR
    have q1:=ag (show t.k≠1 by omega)
    have q2:=ag (show t.k≠2 by omega)
    have q3:=ag (show t.k≠3 by omega)
    have q4:=ag (show t.k≠4 by omega)
    have q5:=ag (show t.k≠5 by omega)
    have q6:=ag (show t.k≠6 by omega)
    have q7:=ag (show t.k≠7 by omega)
    have q8:=ag (show t.k≠8 by omega)
    first
     |replace E8:=E8
      have q9:=be (show t.k=9 by omega)
      have HC:=J (FQ L t _ _ _ _ W HN.out HT.out HR.out);rw [hR]at HC;unfold cG at HC;clear hk hR
     |have q9:=ag (show t.k≠9 by omega)
      have q10:=ag (show t.k≠10 by omega)
      have q11:=ag (show t.k≠11 by omega)
      have q12:=ag (show t.k≠12 by omega)
      have q13:=ag (show t.k≠13 by omega)
      have q14:=ag (show t.k≠14 by omega)
      subst hR;clear hk
    go_enter func254,ntmps254
    first
     |replace E8:=E8
      go_wp2_with (go_at_call 297;(with_reducible refine(HC.out).mono ?_);rintro e w' ⟨rfl,hb⟩;have cC:=J hb;clear hb)
     |go_wp2_with fail
    go_ret
    first
     |replace E8:=E8
      exact⟨rfl,HB.out.trans (cC.out.mono HB.out.size)⟩
     |exact⟨rfl,HB.out.trans (gi.out.mono HB.out.size)⟩
   |first
     |replace E7:=E7
      rw [FX hk]at hR
     |rw [AX (by omega)]at hR
    have q1:=ag (show t.k≠1 by omega)
    have q2:=ag (show t.k≠2 by omega)
    have q3:=ag (show t.k≠3 by omega)
    have q4:=ag (show t.k≠4 by omega)
    have q5:=ag (show t.k≠5 by omega)
    have q6:=ag (show t.k≠6 by omega)
    have q7:=ag (show t.k≠7 by omega)
    have q8:=ag (show t.k≠8 by omega)
    have q9:=ag (show t.k≠9 by omega)
    first
     |replace E7:=E7
      have q10:=be (show t.k=10 by omega)
     |have q10:=ag (show t.k≠10 by omega)
      have q11:=ag (show t.k≠11 by omega)
      have q12:=ag (show t.k≠12 by omega)
      first
       |replace agu:=agu
        have q13:=be (show t.k=13 by omega)
       |have q13:=ag (show t.k≠13 by omega)
        have q14:=be (show t.k=14 by omega)
    by_cases h1:t.args.length=1
    ·have Fx:=be (show(t.args.length:Int)=1 by omega)
     rw [zc (by omega),zZ]at hR
     first
      |replace E7:=E7
       have jI:=J (CB t.vars _ W.heap.size W HV.out);have mw:=J (fun w2 (hb:Below W.heap.size W w2)=>fI L t.args _ _ w2 (HN.out.below hb) HR.out (HA.out.below hb))
      |have jI:=J (fun w2 (hb:Below W.heap.size W w2)=>fH L t.args _ _ w2 (HN.out.below hb) HR.out (HA.out.below hb))
     rw [h1]at hW⊢
     first
      |replace E7:=E7
       rw [h1]at mw c8;have JL:=HX;rw [h1]at JL;clear HX;have HX:=JL;clear JL
      |rw [h1]at jI c8
     clear hk
     first
      |replace E7:=E7
       cases gY:Cy t.vars
       ·rw [gY]at hR jI
        obtain rfl:R=false:=by rw [←hR];rfl
        clear hR gY;go_enter func254,ntmps254;go_wp2_with (go_at_call 298;(with_reducible refine(jI.out).q ?_));go_ret;exact⟨rfl,HB.out.trans (gi.out.mono HB.out.size)⟩
       ·rw [gY,zZ]at hR
        rw [gY]at jI;clear gY
        cases hx2:dQ L t.args
        focus
         rw [hx2]at hR mw;obtain rfl:R=false:=by rw [←hR]
        rotate_left
        focus
         rw [hx2]at hR mw;obtain rfl:R=true:=hR.symm
        all_goals
         clear hR hx2;go_enter func254,ntmps254;go_wp2_with (first|(go_at_call 298;(with_reducible refine(jI.out).q ?_))|(go_at_call 256;(with_reducible refine(mw.out _ gi.out).mono ?_);rintro e w3 ⟨rfl,hb⟩;have g_:=J (gi.out.trans (hb.mono gi.out.size));clear hb))
         go_ret;exact⟨rfl,HB.out.trans (g_.out.mono HB.out.size)⟩
      |cases gY:dG L t.args
       focus
        rw [gY]at hR jI;obtain rfl:R=false:=by rw [←hR]
       rotate_left
       focus
        rw [gY]at hR jI;obtain rfl:R=true:=hR.symm
       all_goals
        clear hR gY;go_enter func254,ntmps254;go_wp2_with (go_at_call 255;(with_reducible refine(jI.out _ gi.out).mono ?_);rintro e w2 ⟨rfl,hb⟩;have cC:=J (gi.out.trans (hb.mono gi.out.size));clear hb);go_ret;exact⟨rfl,HB.out.trans (cC.out.mono HB.out.size)⟩
    ·have Fx:=ag (show(t.args.length:Int)≠1 by omega)
     obtain rfl:R=false:=by rw [←hR,zb (by omega)];rfl
     clear hR hk;clear h1;go_enter func254,ntmps254;go_wp2_with fail;go_ret;exact⟨rfl,HB.out.trans (gi.out.mono HB.out.size)⟩
def LY a b c d e f g h i j:=(bA a b c d e f g h i j).1
def LZ a b c d e f g h i j:=(bA a b c d e f g h i j).2.1
def L0 a b c d e f g h i j:=(bA a b c d e f g h i j).2.2.1
def L1 a b c d e f g h i j:=(bA a b c d e f g h i j).2.2.2.1
def L3 a b c d e f g h i j:=(bA a b c d e f g h i j).2.2.2.2.1
def AY a b c d e f g h i j:=(bA a b c d e f g h i j).2.2.2.2.2.1
def AZ a b c d e f g h i j:=(bA a b c d e f g h i j).2.2.2.2.2.2.1
def L4 a b c d e f g h i j:=(bA a b c d e f g h i j).2.2.2.2.2.2.2.1
def L5 a b c d e f g h i j:=(bA a b c d e f g h i j).2.2.2.2.2.2.2.2.1
def F1 a b c d e f g h i j:=(bA a b c d e f g h i j).2.2.2.2.2.2.2.2.2.1
def F2 a b c d e f g h i j:=(bA a b c d e f g h i j).2.2.2.2.2.2.2.2.2.2.1
def F3 a b c d e f g h i j:=(bA a b c d e f g h i j).2.2.2.2.2.2.2.2.2.2.2.1
def vn a b c d e f g h i j:=(bA a b c d e f g h i j).2.2.2.2.2.2.2.2.2.2.2.2.1
def vo a b c d e f g h i j:=(bA a b c d e f g h i j).2.2.2.2.2.2.2.2.2.2.2.2.2.1
def F4 a b c d e f g h i j:=(bA a b c d e f g h i j).2.2.2.2.2.2.2.2.2.2.2.2.2.2
theorem CL(L:List Fl)(t:Fl)(vl vv kv av:Value)(w:World)(hN:NF w w.heap.size vl L)(hT:FV w w.heap.size t vv kv av)(hA: ∀a∈t.args,0≤a∧a<(L.length:Int)):Calls prog 254 #[vl, .agg (cG t vv kv av).toArray] w fun e w'=>e= .returned (.bool (bK L t))∧Below w.heap.size w w':=by
 rcases(by omega:(t.k<1∨14<t.k)∨t.k=1∨t.k=2∨t.k=3∨t.k=4∨t.k=5∨t.k=6∨t.k=7∨t.k=8∨t.k=9∨t.k=10∨t.k=11∨t.k=12∨t.k=13∨t.k=14)with h|h|h|h|h|h|h|h|h|h|h|h|h|h|h
 ·exact F4 L t vl vv kv av w hN hT hA h
 ·exact LY L t vl vv kv av w hN hT hA h
 ·exact LZ L t vl vv kv av w hN hT hA h
 ·exact L0 L t vl vv kv av w hN hT hA h
 ·exact L1 L t vl vv kv av w hN hT hA h
 ·exact L3 L t vl vv kv av w hN hT hA h
 ·exact AY L t vl vv kv av w hN hT hA h
 ·exact AZ L t vl vv kv av w hN hT hA h
 ·exact L4 L t vl vv kv av w hN hT hA h
 ·exact L5 L t vl vv kv av w hN hT hA h
 ·exact F1 L t vl vv kv av w hN hT hA h
 ·exact F2 L t vl vv kv av w hN hT hA h
 ·exact F3 L t vl vv kv av w hN hT hA h
 ·exact vn L t vl vv kv av w hN hT hA h
 ·exact vo L t vl vv kv av w hN hT hA h
end Go.Proofs.YtcpmiplofbfmfaaGreatDoor
