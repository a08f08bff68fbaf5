/- Shrink: what a primitive of constants is: the program's way, -/
import Derived.Test.YtcpmiplofbfmfaaGreatDoorA36
import Derived.Test.YtcpmiplofbfmfaaGreatDoorA11
set_option linter.all false
set_option maxRecDepth 100000
set_option maxHeartbeats 10000000
namespace Go.Proofs.YtcpmiplofbfmfaaGreatDoor
open Go.Proofs.Tryz
open Go.Lib renaming hid→J
open Go.RowKit LamM CpsM FloM ShrM
abbrev acZ(r:eo):Array Value:= #[.int .i64 (rk r), .int .i64 0, .int .i64 0, .int .i64 (ri r), .int .u64 (rb r), .string ⟨(rt r).toArray⟩, .slice none 0 0, .slice none 0 0, .slice none 0 0]
abbrev jN(r:eo):Value:= .tuple #[.agg (acZ r), .int .i64 (rc r), .bool (ro r)]
abbrev vq:Array Value:= #[.int .i64 0, .int .i64 0, .int .i64 0, .int .i64 0, .int .u64 0, .string ⟨#[]⟩, .slice none 0 0, .slice none 0 0, .slice none 0 0]
def bO(r:eo)(w:World)(e:Ending)(w':World):Prop:=e= .returned (jN r)∧Below w.heap.size w w'
def ql(w:World)(g:Nat)(r:eo):World:=((((((((w.setCell ⟨g,0,none⟩ (.int .i64 (rk r))).setCell ⟨g,1,none⟩ (.int .i64 0)).setCell ⟨g,2,none⟩ (.int .i64 0)).setCell ⟨g,3,none⟩ (.int .i64 (ri r))).setCell ⟨g,4,none⟩ (.int .u64 (rb r))).setCell ⟨g,5,none⟩ (.string ⟨(rt r).toArray⟩)).setCell ⟨g,6,none⟩ (.slice none 0 0)).setCell ⟨g,7,none⟩ (.slice none 0 0)).setCell ⟨g,8,none⟩ (.slice none 0 0)
section
variable {w w0:World} {g:Nat} {t:TypeId}
theorem aS{v0 v1 v2 v3 v4 v5 v6 v7 v8:Value}(h:ai w g t #[v0,v1,v2,v3,v4,v5,v6,v7,v8]):w.cell? ⟨g,0,none⟩=some v0∧w.cell? ⟨g,1,none⟩=some v1∧w.cell? ⟨g,2,none⟩=some v2∧w.cell? ⟨g,3,none⟩=some v3∧w.cell? ⟨g,4,none⟩=some v4∧w.cell? ⟨g,5,none⟩=some v5∧w.cell? ⟨g,6,none⟩=some v6∧w.cell? ⟨g,7,none⟩=some v7∧w.cell? ⟨g,8,none⟩=some v8:=
 ⟨h.cell 0,h.cell 1,h.cell 2,h.cell 3,h.cell 4,h.cell 5,h.cell 6,h.cell 7,h.cell 8⟩
theorem cO{cs:Array Value}(h:ai w g t cs):w.frozen? ⟨g,0,none⟩=false∧w.frozen? ⟨g,1,none⟩=false∧w.frozen? ⟨g,2,none⟩=false∧w.frozen? ⟨g,3,none⟩=false∧w.frozen? ⟨g,4,none⟩=false∧w.frozen? ⟨g,5,none⟩=false∧w.frozen? ⟨g,6,none⟩=false∧w.frozen? ⟨g,7,none⟩=false∧w.frozen? ⟨g,8,none⟩=false:=
 ⟨h.frozen 0,h.frozen 1,h.frozen 2,h.frozen 3,h.frozen 4,h.frozen 5,h.frozen 6,h.frozen 7,h.frozen 8⟩
theorem d_{r:eo}{v0 v1 v2 v3 v4 v5 v6 v7 v8:Value}(h:ai w g t #[v0,v1,v2,v3,v4,v5,v6,v7,v8]):ai (ql w g r) g t (acZ r):=by
 have h1:=(((((((((h.set_ 0 (.int .i64 (rk r))).set_ 1 (.int .i64 0)).set_ 2 (.int .i64 0)).set_ 3 (.int .i64 (ri r))).set_ 4 (.int .u64 (rb r))).set_ 5 (.string ⟨(rt r).toArray⟩)).set_ 6 (.slice none 0 0)).set_ 7 (.slice none 0 0)).set_ 8 (.slice none 0 0));simp only [List.setIfInBounds_toArray,List.set_cons_zero,List.set_cons_succ]at h1;exact h1
theorem cI{r:eo}(h:Below w0.heap.size w0 w)(hg:w0.heap.size≤g):Below w0.heap.size w0 (ql w g r):=
 (((((((((h.setCell (p:=⟨g,0,none⟩) hg _).setCell (p:=⟨g,1,none⟩) hg _).setCell (p:=⟨g,2,none⟩) hg _).setCell (p:=⟨g,3,none⟩) hg _).setCell (p:=⟨g,4,none⟩) hg _).setCell (p:=⟨g,5,none⟩) hg _).setCell (p:=⟨g,6,none⟩) hg _).setCell (p:=⟨g,7,none⟩) hg _).setCell (p:=⟨g,8,none⟩) hg _)
end
theorem ma:(∀(fG:Int) (hp:fG<0) (L:List Fl) (v:Value) (w:World) (hN:NF w w.heap.size v L),Calls prog 4 #[.int .i64 fG,v] w (bO .no w))∧(∀(fG:Int) (hp:61≤fG) (L:List Fl) (v:Value) (w:World) (hN:NF w w.heap.size v L),Calls prog 4 #[.int .i64 fG,v] w (bO .no w))∧(∀(y:Nat) (p:Pr) (hpt:ao[y]? =some p) (L:List Fl) (hl:(L.length:Int)≠p.args) (v:Value) (w:World) (hN:NF w w.heap.size v L),Calls prog 4 #[.int .i64 (y:Int),v] w (bO .no w)):=by
 refine⟨?_,?_,?_⟩;intro fG hp L v w hN;have aj:=J (rfl:0=0)
 rotate_left;intro fG hp L v w hN;have aG:=J (rfl:0=0)
 rotate_left;intro y p hpt L hl v w hN;have aP:=J (rfl:0=0)
 all_goals
  obtain⟨NA,nc,rfl,_,_⟩:=hN.len;have HP:=J (fun w=>gc w)
  first
   |replace aj:=aj
    have r0:=zc hp
   |replace aG:=aG
    have r0:decide (fG<0)=false:=zb (by omega)
    have r1:=zc hp
   |have hy:y<61:=by have:=(zq.1 hpt).1;rw [aN]at this;exact this
    have r0:decide ((y:Int)<0)=false:=zb (by omega)
    have r1:decide (61≤(y:Int))=false:=zb (by omega)
    have JJ:(y:Int)<61:=by omega
    have Fw:(0:Int)≤(y:Int):=by omega
    have hq:=ag hl
  unfold bO at *
  first
   |replace aP:=aP
    clear hN
   |clear hN hp
  go_enter func4,ntmps4;go_wp2_with (go_at_call 7;(with_reducible refine(HP.out _).mono ?_);rintro e w2 ⟨pv,rfl,a9,cB⟩;obtain⟨PA,qE,vf,iJ,iK⟩:=a9.len;rw [aN]at vf;subst vf;have BF:=J ((ai.new w 28 vq).below cB (by simp));have HB:=J (((zg w.heap.size w).alloc (za _) (.cells vq 28)).trans (cB.mono (by simp)));obtain⟨m0,m1,m2,m3,m4,m5,m6,m7,m8⟩:=aS BF.out;obtain⟨q0,q1,q2,q3,q4,q5,q6,q7,q8⟩:=cO BF.out;(first|replace aP:=aP;obtain⟨ty,rv,_,ol,tb,lT,kX,qe,qf⟩:=a9.at_ hpt;replace lT:=bc (j:=0) lT;replace kX:=bc (j:=1) kX;replace qe:=bc (j:=2) qe;replace qf:=bc (j:=3) qf;obtain⟨RA,lu,rfl,Ca,hr2⟩:=ol.len;clear ol;clear a9 cB hpt hl|(first|replace aj:=aj|replace aG:=aG);clear a9 cB iJ iK))
  obtain⟨z0,z1,z2,z3,z4,z5,z6,z7,z8⟩:=aS (d_ (r:= .no) BF.out);unfold ql at z0 z1 z2 z3 z4 z5 z6 z7 z8;simp only [rk,ri,rb,rt]at z0 z1 z2 z3 z4 z5 z6 z7 z8;refine zi (v:=jN .no) (by simp [results,results4,go_sem,rk,ri,rb,rt,rc,ro,z0,z1,z2,z3,z4,z5,z6,z7,z8]) rfl ⟨rfl,cI (r:= .no) HB.out (za _)⟩
def Nt:=ma.1
def GO:=ma.2.1
def Nu:=ma.2.2
theorem gy:(∀(y:Nat) (p:Pr) (hpt:ao[y]? =some p) (hc:p.con=0) (L:List Fl) (hl:(L.length:Int)=p.args) (v:Value) (w:World) (hN:NF w w.heap.size v L),Calls prog 4 #[.int .i64 (y:Int),v] w (bO (jr p.nm L) w))∧(∀(y:Nat) (p:Pr) (hpt:ao[y]? =some p) (hc:p.con=1) (L:List Fl) (hl:(L.length:Int)=p.args) (v:Value) (w:World) (hE:gV w) (hb: ∀t∈L,0≤t.b∧t.b<2^64) (hN:NF w w.heap.size v L),Calls prog 4 #[.int .i64 (y:Int),v] w (bO (dm p.nm L) w))∧(∀(y:Nat) (p:Pr) (hpt:ao[y]? =some p) (hc:p.con≠0∧p.con≠1∧p.con≠2∧p.con≠3) (L:List Fl) (hl:(L.length:Int)=p.args) (v:Value) (w:World) (hE:gV w) (hb: ∀t∈L,0≤t.b∧t.b<2^64) (hN:NF w w.heap.size v L),Calls prog 4 #[.int .i64 (y:Int),v] w (bO (lK p.nm L) w))∧(∀(j:Nat) (p:Pr) (hpt:ao[j]? =some p) (hc:p.con=2) (L:List Fl) (h1:aW L [2,2]=false) (hl:((L:List Fl).length:Int)=p.args) (v:Value) (w:World) (hN:NF w w.heap.size v L),Calls prog 4 #[.int .i64 (j:Int),v] w (bO (.no) w))∧(∀(j:Nat) (p:Pr) (hpt:ao[j]? =some p) (hc:p.con=3) (L:List Fl) (h1:aW L [4,4]=false) (hl:((L:List Fl).length:Int)=p.args) (v:Value) (w:World) (hN:NF w w.heap.size v L),Calls prog 4 #[.int .i64 (j:Int),v] w (bO (.no) w)):=by
 refine⟨?_,?_,?_,?_,?_⟩;intro y p hpt hc L hl v w hN;have aj:=J (rfl:0=0)
 rotate_left;intro y p hpt hc L hl v w hE hb hN;have aG:=J (rfl:0=0)
 rotate_left;intro y p hpt hc L hl v w hE hb hN;have aP:=J (rfl:0=0)
 rotate_left;intro j p hpt hc L h1 hl v w hN;have bk:=J (rfl:0=0)
 rotate_left;intro j p hpt hc L h1 hl v w hN;have bz:=J (rfl:0=0)
 all_goals
  obtain⟨NA,nc,rfl,_,_⟩:=hN.len;have HP:=J (fun w=>gc w)
  first
   |(first|replace bk:=bk|replace bz:=bz)
    have hy:j<61:=by have:=(zq.1 hpt).1;rw [aN]at this;exact this
    have r0:decide ((j:Int)<0)=false:=zb (by omega)
    have r1:decide (61≤(j:Int))=false:=zb (by omega)
    have JJ:(j:Int)<61:=by omega
    have Fw:(0:Int)≤(j:Int):=by omega
   |have hy:y<61:=by have:=(zq.1 hpt).1;rw [aN]at this;exact this
    have r0:decide ((y:Int)<0)=false:=zb (by omega)
    have r1:decide (61≤(y:Int))=false:=zb (by omega)
    have JJ:(y:Int)<61:=by omega
    have Fw:(0:Int)≤(y:Int):=by omega
  have hq:=be hl
  first
   |replace aj:=aj
    have HF:=J (fun w1 (hb:Below w.heap.size w w1)=>mL p.nm L (.slice NA L.length nc) w1 (hN.below hb))
    generalize jr p.nm L=q at *;unfold bO aq at *;clear hN
   |replace aG:=aG
    have HF:=J (fun w1 (qB:Below w.heap.size w w1)=>e_ p.nm L (.slice NA L.length nc) w1 (hE.below qB (za _)) hb (hN.below qB))
    generalize dm p.nm L=q at *;unfold bO aq at *;clear hN hE hb
   |replace aP:=aP
    have k0:=ag hc.1;have k1:=ag hc.2.1;have k2:=ag hc.2.2.1;have k3:=ag hc.2.2.2;have HF:=J (fun w1 (qB:Below w.heap.size w w1)=>El p.nm L (.slice NA L.length nc) w1 (hE.below qB (za _)) hb (hN.below qB))
    generalize lK p.nm L=q at *;unfold bO aq at *;clear hN hE hb hc
   |replace bk:=bk
    have HA:=J (fun w1 (hb:Below w.heap.size w w1)=>mb L [2,2] _ w w1 2 23 #[.int .i64 2, .int .i64 2] hN hb rfl rfl (by decide))
    rw [h1]at HA;unfold bO at *;clear hN h1
   |have HA:=J (fun w1 (hb:Below w.heap.size w w1)=>mb L [4,4] _ w w1 2 23 #[.int .i64 4, .int .i64 4] hN hb rfl rfl (by decide))
    rw [h1]at HA;unfold bO at *;clear hN h1
  go_enter func4,ntmps4;go_upto_region 4 with(go_at_call 7;(with_reducible refine(HP.out _).mono ?_);rintro e w2 ⟨pv,rfl,a9,cB⟩;obtain⟨PA,qE,vf,iJ,iK⟩:=a9.len;rw [aN]at vf;subst vf;have BF:=J ((ai.new w 28 vq).below cB (by simp));have HB:=J (((zg w.heap.size w).alloc (za _) (.cells vq 28)).trans (cB.mono (by simp)));obtain⟨m0,m1,m2,m3,m4,m5,m6,m7,m8⟩:=aS BF.out;obtain⟨q0,q1,q2,q3,q4,q5,q6,q7,q8⟩:=cO BF.out;obtain⟨ty,rv,_,ol,tb,lT,kX,qe,qf⟩:=a9.at_ hpt;replace lT:=bc (j:=0) lT;replace kX:=bc (j:=1) kX;replace qe:=bc (j:=2) qe;replace qf:=bc (j:=3) qf;obtain⟨RA,lu,rfl,Ca,hr2⟩:=ol.len;clear ol;(first|replace aj:=aj;rw [hc]at lT;obtain⟨W,hW⟩: ∃W,(w2.alloc (.cells #[.string ⟨p.nm.toArray⟩, .int .i64 0, .int .i64 p.args, .string ty, .slice RA p.raises.length lu] 36)).alloc (.cells bC 38)=W:=⟨_,rfl⟩|replace aG:=aG;rw [hc]at lT;obtain⟨W,hW⟩: ∃W,(w2.alloc (.cells #[.string ⟨p.nm.toArray⟩, .int .i64 1, .int .i64 p.args, .string ty, .slice RA p.raises.length lu] 36)).alloc (.cells bC 38)=W:=⟨_,rfl⟩|replace aP:=aP;obtain⟨W,hW⟩: ∃W,(w2.alloc (.cells #[.string ⟨p.nm.toArray⟩, .int .i64 p.con, .int .i64 p.args, .string ty, .slice RA p.raises.length lu] 36)).alloc (.cells bC 38)=W:=⟨_,rfl⟩|replace bk:=bk;rw [hc]at lT;obtain⟨W,hW⟩: ∃W,(w2.alloc (.cells #[.string ⟨p.nm.toArray⟩, .int .i64 2, .int .i64 p.args, .string ty, .slice RA p.raises.length lu] 36)).alloc (.cells bC 38)=W:=⟨_,rfl⟩|replace bz:=bz;rw [hc]at lT;obtain⟨W,hW⟩: ∃W,(w2.alloc (.cells #[.string ⟨p.nm.toArray⟩, .int .i64 3, .int .i64 p.args, .string ty, .slice RA p.raises.length lu] 36)).alloc (.cells bC 38)=W:=⟨_,rfl⟩);have H2:=J (show Below w2.heap.size w2 W by rw [←hW];exact aA _ _ _);have HZ:=J (show ai W (w2.heap.size+1) 38 bC by rw [←hW];exact am (by simp) _ _);(first|replace aj:=aj;have vy:=J (show ai W w2.heap.size 36 #[.string ⟨p.nm.toArray⟩, .int .i64 0, .int .i64 p.args, .string ty, .slice RA p.raises.length lu]by rw [←hW];exact(ai.new _ _ _).alloc _)|replace aG:=aG;have vy:=J (show ai W w2.heap.size 36 #[.string ⟨p.nm.toArray⟩, .int .i64 1, .int .i64 p.args, .string ty, .slice RA p.raises.length lu]by rw [←hW];exact(ai.new _ _ _).alloc _)|replace aP:=aP;have vy:=J (show ai W w2.heap.size 36 #[.string ⟨p.nm.toArray⟩, .int .i64 p.con, .int .i64 p.args, .string ty, .slice RA p.raises.length lu]by rw [←hW];exact(ai.new _ _ _).alloc _)|replace bk:=bk;have vy:=J (show ai W w2.heap.size 36 #[.string ⟨p.nm.toArray⟩, .int .i64 2, .int .i64 p.args, .string ty, .slice RA p.raises.length lu]by rw [←hW];exact(ai.new _ _ _).alloc _)|replace bz:=bz;have vy:=J (show ai W w2.heap.size 36 #[.string ⟨p.nm.toArray⟩, .int .i64 3, .int .i64 p.args, .string ty, .slice RA p.raises.length lu]by rw [←hW];exact(ai.new _ _ _).alloc _));have dD:=J (HB.out.trans (H2.out.mono HB.out.size));have p0:=vy.out.c0;have p1:=vy.out.c1;(first|(first|replace bk:=bk|replace bz:=bz);clear a9 cB hpt|(first|replace aj:=aj|replace aG:=aG|replace aP:=aP);clear a9 cB hpt hl))
  go_upto_region 18 with((first|replace aj:=aj;go_at_call 8|replace aG:=aG;go_at_call 9|replace aP:=aP;go_at_call 14|(first|replace bk:=bk|replace bz:=bz);go_at_call 10);(first|(first|replace bk:=bk|replace bz:=bz);((with_reducible refine(HA.out W dD.out).mono ?_);rintro e w3 ⟨rfl,hb⟩;have H3:=J (H2.out.trans (hb.mono H2.out.size));have YX:=J (HZ.out.below hb HZ.out.lt);have vt:=J (vy.out.below hb vy.out.lt);clear hb;clear p0 p1)|(first|replace aj:=aj|replace aG:=aG|replace aP:=aP);(with_reducible refine(HF.out _ dD.out).mono ?_);rintro e w3 ⟨rfl,hb⟩;have H3:=J (H2.out.trans (hb.mono H2.out.size));have BX:=J (HZ.out.below hb HZ.out.lt);obtain⟨c0,c1,c2,c3,c4,c5,c6,c7,c8,c9,c10⟩:=ah BX.out;obtain⟨f0,f1,f2,f3,f4,f5,f6,f7,f8,f9,ox⟩:=aO BX.out;clear hb))
  first
   |(first|replace bk:=bk|replace bz:=bz)
    have c10:=YX.out.c10;have VD:=J (BF.out.below H3.out BF.out.lt);have ce:=J (HB.out.trans (H3.out.mono HB.out.size));clear m0 m1 m2 m3 m4 m5 m6 m7 m8 q0 q1 q2 q3 q4 q5 q6 q7 q8
   |have H4:=J (au (r:=q) H3.out (zl w2.heap.size 1))
    have jC:=J (aK (r:=q) BX.out);clear c0 c1 c2 c3 c4 c5 c6 c7 c8 c9 c10 f0 f1 f2 f3 f4 f5 f6 f7 f8 f9 ox m0 m1 m2 m3 m4 m5 m6 m7 m8 q0 q1 q2 q3 q4 q5 q6 q7 q8 BX H3;obtain⟨w4,Fi⟩: ∃w4,cD w3 (w2.heap.size+1) q=w4:=⟨_,rfl⟩;rw [Fi]at H4 jC;unfold cD at Fi;simp only [Fi];clear Fi;have VD:=J (BF.out.below H4.out BF.out.lt);have ce:=J (HB.out.trans (H4.out.mono HB.out.size));obtain⟨c0,c1,c2,c3,c4,c5,c6,c7,c8,c9,c10⟩:=ah jC.out
  obtain⟨m0,m1,m2,m3,m4,m5,m6,m7,m8⟩:=aS VD.out;obtain⟨q0,q1,q2,q3,q4,q5,q6,q7,q8⟩:=cO VD.out
  first
   |(first|replace bk:=bk|replace bz:=bz)
    go_wp2_with fail
    obtain⟨z0,z1,z2,z3,z4,z5,z6,z7,z8⟩:=aS (d_ (r:= .no) VD.out);unfold ql at z0 z1 z2 z3 z4 z5 z6 z7 z8;simp only [rk,ri,rb,rt]at z0 z1 z2 z3 z4 z5 z6 z7 z8;refine zi (v:=jN .no) (by simp [results,results4,go_sem,rk,ri,rb,rt,rc,ro,z0,z1,z2,z3,z4,z5,z6,z7,z8]) rfl ⟨rfl,cI (r:= .no) ce.out (za _)⟩
   |cases hro:ro q with
    |false=>
     obtain rfl:q= .no:=by cases q<;>first|rfl|cases hro
     rw [hro]at c10;go_wp2_with fail;obtain⟨z0,z1,z2,z3,z4,z5,z6,z7,z8⟩:=aS (d_ (r:= .no) VD.out);unfold ql at z0 z1 z2 z3 z4 z5 z6 z7 z8;simp only [rk,ri,rb,rt]at z0 z1 z2 z3 z4 z5 z6 z7 z8;refine zi (v:=jN .no) (by simp [results,results4,go_sem,rk,ri,rb,rt,rc,ro,z0,z1,z2,z3,z4,z5,z6,z7,z8]) rfl ⟨rfl,cI (r:= .no) ce.out (za _)⟩
    |true=>
     rw [hro]at c10;go_upto_region 20 with fail
     go_region
     go_wp2_with fail
     obtain⟨z0,z1,z2,z3,z4,z5,z6,z7,z8⟩:=aS (d_ (r:=q) VD.out);unfold ql at z0 z1 z2 z3 z4 z5 z6 z7 z8;refine zi (v:=jN q) (by simp [results,results4,go_sem,hro,z0,z1,z2,z3,z4,z5,z6,z7,z8]) rfl ⟨rfl,below_drewN (cI (r:=q) ce.out (za _)) 1⟩
def Nv:=gy.1
def GP:=gy.2.1
def Nw:=gy.2.2.1
def D3:=gy.2.2.2.1
def yy:=gy.2.2.2.2
set_option maxHeartbeats 4000000
theorem oV(j:Nat)(p:Pr)(hpt:ao[j]? =some p):(∀(hc:p.con=2) (x y:Fl) (h1:aW [x,y] [2,2]=true) (hl:(([x,y]:List Fl).length:Int)=p.args) (v:Value) (w:World) (hN:NF w w.heap.size v [x,y]),Calls prog 4 #[.int .i64 (j:Int),v] w (bO (aE (ck p.nm (yB x.i y.i))) w))∧(∀(hc:p.con=3) (x y:Fl) (h1:aW [x,y] [4,4]=true) (hl:(([x,y]:List Fl).length:Int)=p.args) (v:Value) (w:World) (hN:NF w w.heap.size v [x,y]),Calls prog 4 #[.int .i64 (j:Int),v] w (bO (aE (ck p.nm (kR x.t y.t))) w)):=by
 refine⟨?_,?_⟩
 all_goals intro hc x y h1 hl v w hN
 have aj:=J (rfl:0=0)
 rotate_left;have aG:=J (rfl:0=0)
 all_goals
  obtain⟨ad,nc,rfl,hA,tc⟩:=ud hN;have HP:=J (fun w=>gc w)
  have hy:j<61:=by have:=(zq.1 hpt).1;rw [aN]at this;exact this
  have r0:decide ((j:Int)<0)=false:=zb (by omega)
  have r1:decide (61≤(j:Int))=false:=zb (by omega)
  have JJ:(j:Int)<61:=by omega
  have Fw:(0:Int)≤(j:Int):=by omega
  have hq:=be hl
  first
   |replace aj:=aj
    have HA:=J (fun w1 (hb:Below w.heap.size w w1)=>mb [x,y] [2,2] _ w w1 2 23 #[.int .i64 2, .int .i64 2] hN hb rfl rfl (by decide))
   |have HA:=J (fun w1 (hb:Below w.heap.size w w1)=>mb [x,y] [4,4] _ w w1 2 23 #[.int .i64 4, .int .i64 4] hN hb rfl rfl (by decide))
  rw [h1]at HA
  first
   |replace aj:=aj
    have HC:=J (fun w=>Em x.i y.i w)
    generalize yB x.i y.i=c at *
   |have HC:=J (fun w=>Uu x.t y.t w)
    generalize kR x.t y.t=c at *
  have HT:=J (fun w=>ul p.nm c w)
  generalize aE (ck p.nm c)=q at *;unfold bO aq at *;clear hN h1;have ha:=J (show p.args=2 from hl.symm)
  clear hl hq;go_enter func4,ntmps4;go_upto_region 4 with(go_at_call 7;(with_reducible refine(HP.out _).mono ?_);rintro e w2 ⟨pv,rfl,a9,cB⟩;obtain⟨PA,qE,vf,iJ,iK⟩:=a9.len;rw [aN]at vf;subst vf;have BF:=J ((ai.new w 28 vq).below cB (by simp));have HB:=J (((zg w.heap.size w).alloc (za _) (.cells vq 28)).trans (cB.mono (by simp)));obtain⟨m0,m1,m2,m3,m4,m5,m6,m7,m8⟩:=aS BF.out;obtain⟨q0,q1,q2,q3,q4,q5,q6,q7,q8⟩:=cO BF.out;obtain⟨ty,rv,_,ol,tb,lT,kX,qe,qf⟩:=a9.at_ hpt;replace lT:=bc (j:=0) lT;replace kX:=bc (j:=1) kX;replace qe:=bc (j:=2) qe;replace qf:=bc (j:=3) qf;obtain⟨RA,lu,rfl,Ca,hr2⟩:=ol.len;clear ol;rw [hc]at lT;rw [ha.out]at kX;(first|replace aj:=aj;obtain⟨W,hW⟩: ∃W,(w2.alloc (.cells #[.string ⟨p.nm.toArray⟩, .int .i64 2, .int .i64 2, .string ty, .slice RA p.raises.length lu] 36)).alloc (.cells bC 38)=W:=⟨_,rfl⟩|replace aG:=aG;obtain⟨W,hW⟩: ∃W,(w2.alloc (.cells #[.string ⟨p.nm.toArray⟩, .int .i64 3, .int .i64 2, .string ty, .slice RA p.raises.length lu] 36)).alloc (.cells bC 38)=W:=⟨_,rfl⟩);have H2:=J (show Below w2.heap.size w2 W by rw [←hW];exact aA _ _ _);have HZ:=J (show ai W (w2.heap.size+1) 38 bC by rw [←hW];exact am (by simp) _ _);(first|replace aj:=aj;have vy:=J (show ai W w2.heap.size 36 #[.string ⟨p.nm.toArray⟩, .int .i64 2, .int .i64 2, .string ty, .slice RA p.raises.length lu]by rw [←hW];exact(ai.new _ _ _).alloc _)|replace aG:=aG;have vy:=J (show ai W w2.heap.size 36 #[.string ⟨p.nm.toArray⟩, .int .i64 3, .int .i64 2, .string ty, .slice RA p.raises.length lu]by rw [←hW];exact(ai.new _ _ _).alloc _));have dD:=J (HB.out.trans (H2.out.mono HB.out.size));have p0:=vy.out.c0;have p1:=vy.out.c1;clear a9 cB hpt)
  first
   |replace aj:=aj
    go_upto_region 14 with(go_at_call 10;(with_reducible refine(HA.out W dD.out).mono ?_);rintro e w3 ⟨rfl,hb⟩;have H3:=J (H2.out.trans (hb.mono H2.out.size));have YX:=J (HZ.out.below hb HZ.out.lt);have vt:=J (vy.out.below hb vy.out.lt);clear hb;clear p0 p1)
    have K0:=J (show w3.drew.cell? ⟨w2.heap.size,0,none⟩=some (.string ⟨p.nm.toArray⟩)∧w3.drew.cell? ⟨ad.block,ad.off+3,none⟩=some (.int .i64 x.i)∧w3.drew.cell? ⟨ad.block,ad.off+9+3,none⟩=some (.int .i64 y.i)from⟨vt.out.cell 0,(hA.below (HB.out.trans (H3.out.mono HB.out.size))).1,(tc.below (HB.out.trans (H3.out.mono HB.out.size))).1⟩)
    go_region_held3 (fun w'=>w'.cell? ⟨w2.heap.size,0,none⟩=some (.string ⟨p.nm.toArray⟩)∧w'.cell? ⟨ad.block,ad.off+3,none⟩=some (.int .i64 x.i)∧w'.cell? ⟨ad.block,ad.off+9+3,none⟩=some (.int .i64 y.i)) (first|with_reducible exact K0.out|with_reducible exact K5.out|(refine⟨?_,?_,?_⟩<;>first|with_reducible exact K6.out|with_reducible exact K7.out|go_keep))
     (first
      |(go_at_call 12;(with_reducible refine(HC.out _).q ?_))
      |(go_at_call 11;(with_reducible refine(HT.out _).mono ?_);rintro e w4 ⟨rfl,hb⟩;have H4:=J ((below_drewN H3.out 1).trans (hb.mono (below_drewN H3.out 1).size));have BX:=J (YX.out.drew.below hb YX.out.drew.lt);have K5:=J (show w4.cell? ⟨w2.heap.size,0,none⟩=some (.string ⟨p.nm.toArray⟩)∧w4.cell? ⟨ad.block,ad.off+3,none⟩=some (.int .i64 x.i)∧w4.cell? ⟨ad.block,ad.off+9+3,none⟩=some (.int .i64 y.i)from⟨(vt.out.drew.below hb vt.out.drew.lt).cell 0,(hA.below (HB.out.trans (H4.out.mono HB.out.size))).1,(tc.below (HB.out.trans (H4.out.mono HB.out.size))).1⟩);have H5:=J (au (r:=q) H4.out (zl w2.heap.size 1));have K6:=J (show(cD w4 (w2.heap.size+1) q).cell? ⟨ad.block,ad.off+3,none⟩=some (.int .i64 x.i)from(hA.below (HB.out.trans (H5.out.mono HB.out.size))).1);have K7:=J (show(cD w4 (w2.heap.size+1) q).cell? ⟨ad.block,ad.off+9+3,none⟩=some (.int .i64 y.i)from(tc.below (HB.out.trans (H5.out.mono HB.out.size))).1);unfold cD at K6 K7;obtain⟨c0,c1,c2,c3,c4,c5,c6,c7,c8,c9,c10⟩:=ah BX.out;obtain⟨f0,f1,f2,f3,f4,f5,f6,f7,f8,f9,ox⟩:=aO BX.out;clear hb H5))
   |go_upto_region 17 with(go_at_call 10;(with_reducible refine(HA.out W dD.out).mono ?_);rintro e w3 ⟨rfl,hb⟩;have H3:=J (H2.out.trans (hb.mono H2.out.size));have YX:=J (HZ.out.below hb HZ.out.lt);have vt:=J (vy.out.below hb vy.out.lt);clear hb;clear p0 p1)
    have K0:=J (show w3.drew.cell? ⟨w2.heap.size,0,none⟩=some (.string ⟨p.nm.toArray⟩)∧w3.drew.cell? ⟨ad.block,ad.off+5,none⟩=some (.string ⟨x.t.toArray⟩)∧w3.drew.cell? ⟨ad.block,ad.off+9+5,none⟩=some (.string ⟨y.t.toArray⟩)from⟨vt.out.cell 0,(hA.below (HB.out.trans (H3.out.mono HB.out.size))).2.2,(tc.below (HB.out.trans (H3.out.mono HB.out.size))).2.2⟩)
    go_region_held3 (fun w'=>w'.cell? ⟨w2.heap.size,0,none⟩=some (.string ⟨p.nm.toArray⟩)∧w'.cell? ⟨ad.block,ad.off+5,none⟩=some (.string ⟨x.t.toArray⟩)∧w'.cell? ⟨ad.block,ad.off+9+5,none⟩=some (.string ⟨y.t.toArray⟩)) (first|with_reducible exact K0.out|with_reducible exact K5.out|(refine⟨?_,?_,?_⟩<;>first|with_reducible exact K6.out|with_reducible exact K7.out|go_keep))
     (first
      |(go_at_call 13;(with_reducible refine(HC.out _).q ?_))
      |(go_at_call 11;(with_reducible refine(HT.out _).mono ?_);rintro e w4 ⟨rfl,hb⟩;have H4:=J ((below_drewN H3.out 1).trans (hb.mono (below_drewN H3.out 1).size));have BX:=J (YX.out.drew.below hb YX.out.drew.lt);have K5:=J (show w4.cell? ⟨w2.heap.size,0,none⟩=some (.string ⟨p.nm.toArray⟩)∧w4.cell? ⟨ad.block,ad.off+5,none⟩=some (.string ⟨x.t.toArray⟩)∧w4.cell? ⟨ad.block,ad.off+9+5,none⟩=some (.string ⟨y.t.toArray⟩)from⟨(vt.out.drew.below hb vt.out.drew.lt).cell 0,(hA.below (HB.out.trans (H4.out.mono HB.out.size))).2.2,(tc.below (HB.out.trans (H4.out.mono HB.out.size))).2.2⟩);have H5:=J (au (r:=q) H4.out (zl w2.heap.size 1));have K6:=J (show(cD w4 (w2.heap.size+1) q).cell? ⟨ad.block,ad.off+5,none⟩=some (.string ⟨x.t.toArray⟩)from(hA.below (HB.out.trans (H5.out.mono HB.out.size))).2.2);have K7:=J (show(cD w4 (w2.heap.size+1) q).cell? ⟨ad.block,ad.off+9+5,none⟩=some (.string ⟨y.t.toArray⟩)from(tc.below (HB.out.trans (H5.out.mono HB.out.size))).2.2);unfold cD at K6 K7;obtain⟨c0,c1,c2,c3,c4,c5,c6,c7,c8,c9,c10⟩:=ah BX.out;obtain⟨f0,f1,f2,f3,f4,f5,f6,f7,f8,f9,ox⟩:=aO BX.out;clear hb H5))
  have H5:=J (au (r:=q) H4.out (zl w2.heap.size 1));have jC:=J (aK (r:=q) BX.out);clear c0 c1 c2 c3 c4 c5 c6 c7 c8 c9 c10 f0 f1 f2 f3 f4 f5 f6 f7 f8 f9 ox m0 m1 m2 m3 m4 m5 m6 m7 m8 q0 q1 q2 q3 q4 q5 q6 q7 q8 BX H4;obtain⟨w5,hw5⟩: ∃w5,cD w4 (w2.heap.size+1) q=w5:=⟨_,rfl⟩;rw [hw5]at H5 jC;unfold cD at hw5;simp only [hw5];clear hw5;have VD:=J (BF.out.below H5.out BF.out.lt);have ce:=J (HB.out.trans (H5.out.mono HB.out.size));obtain⟨c0,c1,c2,c3,c4,c5,c6,c7,c8,c9,c10⟩:=ah jC.out;obtain⟨m0,m1,m2,m3,m4,m5,m6,m7,m8⟩:=aS VD.out;obtain⟨q0,q1,q2,q3,q4,q5,q6,q7,q8⟩:=cO VD.out
  cases hro:ro q with
  |false=>
   obtain rfl:q= .no:=by cases q<;>first|rfl|cases hro
   rw [hro]at c10;go_wp2_with fail;obtain⟨z0,z1,z2,z3,z4,z5,z6,z7,z8⟩:=aS (d_ (r:= .no) VD.out);unfold ql at z0 z1 z2 z3 z4 z5 z6 z7 z8;simp only [rk,ri,rb,rt]at z0 z1 z2 z3 z4 z5 z6 z7 z8;refine zi (v:=jN .no) (by simp [results,results4,go_sem,rk,ri,rb,rt,rc,ro,z0,z1,z2,z3,z4,z5,z6,z7,z8]) rfl ⟨rfl,cI (r:= .no) ce.out (za _)⟩
  |true=>
   rw [hro]at c10;go_upto_region 20 with fail
   go_region
   go_wp2_with fail
   obtain⟨z0,z1,z2,z3,z4,z5,z6,z7,z8⟩:=aS (d_ (r:=q) VD.out);unfold ql at z0 z1 z2 z3 z4 z5 z6 z7 z8;refine zi (v:=jN q) (by simp [results,results4,go_sem,hro,z0,z1,z2,z3,z4,z5,z6,z7,z8]) rfl ⟨rfl,below_drewN (cI (r:=q) ce.out (za _)) 1⟩
def GQ a b c:=(oV a b c).1
def BJ a b c:=(oV a b c).2
def Ap(fG:Int)(L:List Fl):eo:=if fG<0 then .no else match ao[fG.toNat]?with|none=> .no|some p=>mK p L
theorem Aq(fG:Int)(L:List Fl)(v:Value)(w:World)(hE:gV w)(hb: ∀t∈L,0≤t.b∧t.b<2^64)(hN:NF w w.heap.size v L):Calls prog 4 #[.int .i64 fG,v] w (bO (Ap fG L) w):=by
 unfold Ap
 by_cases h0:fG<0
 ·rw [zh h0];exact Nt fG h0 L v w hN
 rw [ze h0];obtain⟨y,rfl⟩: ∃y:Nat,fG=(y:Int):=⟨fG.toNat,by omega⟩
 rw [zv]
 cases hpt:ao[y]?with
 |none=>
  have hy:61≤y:=by have:=List.getElem?_eq_none_iff.1 hpt;rw [aN]at this;exact this
  exact GO y (by omega) L v w hN
 |some p=>
  show Calls _ _ _ _ (bO (mK p L) w);unfold mK
  by_cases hl:(L.length:Int)=p.args
  ·rw [ze (fun h=>h hl)]
   by_cases c0:p.con=0
   ·rw [zh c0];exact Nv y p hpt c0 L hl v w hN
   rw [ze c0]
   by_cases c1:p.con=1
   ·rw [zh c1];exact GP y p hpt c1 L hl v w hE hb hN
   rw [ze c1]
   by_cases c2:p.con=2
   ·rw [zh c2]
    cases h1:aW L [2,2]with
    |true=>
     obtain⟨x,z,rfl,_⟩:=eG h1;rw [zh rfl];exact GQ y p hpt c2 x z h1 hl v w hN
    |false=>rw [ze (by decide)];exact D3 y p hpt c2 L h1 hl v w hN
   rw [ze c2]
   by_cases c3:p.con=3
   ·rw [zh c3]
    cases h1:aW L [4,4]with
    |true=>
     obtain⟨x,z,rfl,_⟩:=eG h1;rw [zh rfl];exact BJ y p hpt c3 x z h1 hl v w hN
    |false=>rw [ze (by decide)];exact yy y p hpt c3 L h1 hl v w hN
   rw [ze c3];exact Nw y p hpt ⟨c0,c1,c2,c3⟩ L hl v w hE hb hN
  ·rw [zh hl];exact Nu y p hpt L hl v w hN
set_option maxHeartbeats 8000000
open Go.RowKit LamM CpsM FloM ShrM Go.Maps
theorem NQ:Ap 0 [bV 2,bV 3]= .int 5:=by rfl
def Lc:List Fq:=[(bV 2,vN,vN,vN),(bV 3,vN,vN,vN)]
theorem Yw{w:World}{g:Nat}(h:ai w g 28 (dH Lc).toArray):NF w w.heap.size (.slice (some ⟨g,0,none⟩) 2 2) [bV 2,bV 3]:=by
 have hn:=J9 (w:=w) (g:=g) (c:=2) (l:=Lc) (fun k u hk=>by rw [h.cell k];simpa using hk) h.lt (show 2≤2 from za _) (show 2≤1300000000000 by decide) (fun x hx=>by
  simp only [Lc,zx,List.mem_nil_iff,Zo]at hx
  rcases hx with rfl|rfl
  ·exact hJ rfl (bm _ _) (bm _ _)
  ·exact hJ rfl (bm _ _) (bm _ _))
 exact hn
theorem NR{w w0:World}(hE:gV w0)(hb:Below w0.heap.size w0 w){g:Nat}(h:ai w g 28 (dH Lc).toArray):Calls prog 4 #[.int .i64 0, .slice (some ⟨g,0,none⟩) 2 2] w fun e w'=>
 e= .returned (.tuple #[.agg #[.int .i64 2, .int .i64 0, .int .i64 0, .int .i64 5, .int .u64 0, .string ⟨#[]⟩, .slice none 0 0, .slice none 0 0, .slice none 0 0], .int .i64 0, .bool true])∧Below w.heap.size w w':=by
 have h5:=Aq 0 [bV 2,bV 3] _ w (hE.below hb (za _)) (by decide) (Yw h)
 rw [NQ]at h5;exact h5
theorem NS(w:World)(hE:gV w):Calls prog 6 #[] w (iq w):=by
 have HE:=J hE;have HTU:=J (fun w=>NN w)
 clear hE;unfold iq;go_enter func6,ntmps6
 go_upto_region 2 with(first
  |(go_at_call 19;(with_reducible refine(HTU.out w).mono ?_);rintro e w1 ⟨g1,rfl,lj,cT⟩;have bp:=J cT;have HOP:=J (Yt _ w1 lj);clear lj cT)
  |(go_at_call 18;(with_reducible refine(HOP.out).mono ?_);rintro e w2 ⟨v2,rfl,gW,cB⟩;have Qe:=J gW;have bM:=J (bp.out.trans (cB.mono bp.out.size));obtain⟨A2,c2,hv2,_,_⟩:=gW.len;rw [show gp.length=2 from rfl]at hv2;subst hv2;clear gW cB))
 obtain⟨W,hW⟩: ∃W,w2.alloc (.cells #[.slice A2 2 c2, .int .i64 1] 63)=W:=⟨_,rfl⟩;have hbW:Below w2.heap.size w2 W:=by rw [←hW];exact(zg _ _).alloc (za _) _
 have HP:=J (show ai W w2.heap.size 63 #[.slice A2 2 c2, .int .i64 1]by rw [←hW];exact ai.new _ _ _)
 have HNW:=J (Qe.out.below hbW);have hb:=bM.out.trans (hbW.mono bM.out.size);have dD:=J hb;have HBO:=J (fun o=>show Below w.heap.size w (W.alloc o)from hb.trans (((zg _ _).alloc (za _) o).mono hb.size))
 have tu:=J (fun o=>show Below W.heap.size W (W.alloc o)from(zg _ _).alloc (za _) o)
 rw [hW];clear hW hbW hb;go_upto_region 3 with(go_at_call 4;((refine(NR HE.out (HBO.out _) (pV (by rfl) _ _)).mono ?_);rintro e w3 ⟨rfl,kZ⟩;have dF:=J ((HBO.out _).trans (kZ.mono (HBO.out _).size));have xZ:=J ((tu.out _).trans (kZ.mono (tu.out _).size));clear kZ))
 obtain⟨W3,vC⟩: ∃W3,w3.alloc (.cells #[.int .i64 2, .int .i64 0, .int .i64 0, .int .i64 5, .int .u64 0, .string ⟨#[]⟩, .slice none 0 0, .slice none 0 0, .slice none 0 0] 28)=W3:=⟨_,rfl⟩;have kZ:Below w3.heap.size w3 W3:=by rw [←vC];exact(zg _ _).alloc (za _) _
 have HQ:=J (show ai W3 w3.heap.size 28 #[.int .i64 2, .int .i64 0, .int .i64 0, .int .i64 5, .int .u64 0, .string ⟨#[]⟩, .slice none 0 0, .slice none 0 0, .slice none 0 0]by rw [←vC];exact ai.new _ _ _)
 have hw3:=xZ.out.trans (kZ.mono xZ.out.size);have vt:=J (HP.out.below hw3 HP.out.lt);have HN3:=J (HNW.out.below hw3);have ah2:=J (dF.out.trans (kZ.mono dF.out.size));rw [vC];clear vC kZ hw3;obtain⟨ad,_,_,_,rfl,_,_,_,_,_,d3,_⟩:=HN3.out.at9 (i:=0) rfl;obtain⟨QQ,_,_,_,e',_,_,f0,_⟩:=HN3.out.at9 (i:=1) rfl;obtain rfl:=zz e';rw [Zk,ZV]at d3;rw [zP,aB ad (by decide)]at f0
 have x3:W3.cell? ⟨ad.block,ad.off+3,none⟩=some (.int .i64 5):=d3;have y0:W3.cell? ⟨ad.block,ad.off+9,none⟩=some (.int .i64 13):=f0;have p0:=vt.out.c0;have p1:=vt.out.c1;have q3:=HQ.out.c3;have Wq:=J (G3 _ W3 HN3.out);have HNT:=J (fun v w=>G1 v w)
 have HTW:=J HTU.out;clear e' d3 f0
 go_wp2_with (first
  |(go_at_call 19;(with_reducible refine(HTW.out _).mono ?_);rintro e w5 ⟨g5,rfl,hn5,lq⟩;have fE:=J (ce.out.trans (lq.mono ce.out.size));have HN5:=J (HNT.out _ _ hn5);clear hn5 lq)
  |(go_at_call 20;(with_reducible refine(Wq.out).mono ?_);rintro e w4 ⟨rfl,k6⟩;have ce:=J (ah2.out.trans (k6.mono ah2.out.size));clear k6)
  |(go_at_call 20;(with_reducible refine(HN5.out).mono ?_);rintro e w6 ⟨rfl,JV⟩;have lS:=J (fE.out.trans (JV.mono fE.out.size));clear JV))
 go_ret;exact⟨rfl,lS.out⟩
end Go.Proofs.YtcpmiplofbfmfaaGreatDoor
set_option maxHeartbeats 2000000
namespace ShrM
def eP:eo→Int| .no=>0| .raise _=>0| .int _=>1| .real _=>2| .str _=>3
end ShrM
namespace Go.Proofs.YtcpmiplofbfmfaaGreatDoor
open Go.Proofs.Tryz
open Go.Lib renaming hid→J
open Go.RowKit LamM CpsM FloM ShrM
abbrev gz(r:eo):Array Value:= #[.int .i64 (eP r), .int .i64 (ri r), .int .u64 (rb r), .string ⟨(rt r).toArray⟩, .slice none 0 0, .int .i64 0, .pointer none]
abbrev aY(r:eo):Value:= .agg (gz r)
abbrev aL:Array Value:= #[.int .i64 0, .int .i64 0, .int .u64 0, .string ⟨#[]⟩, .slice none 0 0, .int .i64 0, .pointer none]
def b_(r:eo)(w:World)(e:Ending)(w':World):Prop:=e= .returned (aY r)∧Below w.heap.size w w'
def aD(r:eo)(w:World)(e:Ending)(w':World):Prop:=e= .returned (.tuple #[aY r, .int .i64 (rc r)])∧Below w.heap.size w w'
def aR(w:World)(g:Nat)(r:eo):World:=((((((w.setCell ⟨g,0,none⟩ (.int .i64 (eP r))).setCell ⟨g,1,none⟩ (.int .i64 (ri r))).setCell ⟨g,2,none⟩ (.int .u64 (rb r))).setCell ⟨g,3,none⟩ (.string ⟨(rt r).toArray⟩)).setCell ⟨g,4,none⟩ (.slice none 0 0)).setCell ⟨g,5,none⟩ (.int .i64 0)).setCell ⟨g,6,none⟩ (.pointer none)
section
variable {w w0:World} {g:Nat} {t:TypeId}
theorem ae{v0 v1 v2 v3 v4 v5 v6:Value}(h:ai w g t #[v0,v1,v2,v3,v4,v5,v6]):w.cell? ⟨g,0,none⟩=some v0∧w.cell? ⟨g,1,none⟩=some v1∧w.cell? ⟨g,2,none⟩=some v2∧w.cell? ⟨g,3,none⟩=some v3∧w.cell? ⟨g,4,none⟩=some v4∧w.cell? ⟨g,5,none⟩=some v5∧w.cell? ⟨g,6,none⟩=some v6:=
 ⟨h.cell 0,h.cell 1,h.cell 2,h.cell 3,h.cell 4,h.cell 5,h.cell 6⟩
theorem ar{cs:Array Value}(h:ai w g t cs):w.frozen? ⟨g,0,none⟩=false∧w.frozen? ⟨g,1,none⟩=false∧w.frozen? ⟨g,2,none⟩=false∧w.frozen? ⟨g,3,none⟩=false∧w.frozen? ⟨g,4,none⟩=false∧w.frozen? ⟨g,5,none⟩=false∧w.frozen? ⟨g,6,none⟩=false:=
 ⟨h.frozen 0,h.frozen 1,h.frozen 2,h.frozen 3,h.frozen 4,h.frozen 5,h.frozen 6⟩
theorem aF{r:eo}{v0 v1 v2 v3 v4 v5 v6:Value}(h:ai w g t #[v0,v1,v2,v3,v4,v5,v6]):ai (aR w g r) g t (gz r):=by
 have h1:=(((((((h.set_ 0 (.int .i64 (eP r))).set_ 1 (.int .i64 (ri r))).set_ 2 (.int .u64 (rb r))).set_ 3 (.string ⟨(rt r).toArray⟩)).set_ 4 (.slice none 0 0)).set_ 5 (.int .i64 0)).set_ 6 (.pointer none));simp only [List.setIfInBounds_toArray,List.set_cons_zero,List.set_cons_succ]at h1;exact h1
theorem az{r:eo}(h:Below w0.heap.size w0 w)(hg:w0.heap.size≤g):Below w0.heap.size w0 (aR w g r):=
 (((((((h.setCell (p:=⟨g,0,none⟩) hg _).setCell (p:=⟨g,1,none⟩) hg _).setCell (p:=⟨g,2,none⟩) hg _).setCell (p:=⟨g,3,none⟩) hg _).setCell (p:=⟨g,4,none⟩) hg _).setCell (p:=⟨g,5,none⟩) hg _).setCell (p:=⟨g,6,none⟩) hg _)
end
theorem vS(n:Int)(w:World):Calls prog 115 #[.int .i64 n] w (b_ (.int n) w):=by
 unfold b_;go_enter func115,ntmps115;go_wp2_with fail;refine zi (v:= .agg #[.int .i64 1, .int .i64 n, .int .u64 0, .string ⟨#[]⟩, .slice none 0 0, .int .i64 0, .pointer none]) (by simp [results,results115,go_sem]) rfl ⟨rfl,?_⟩
 repeat (first|exact(zg _ _).alloc (za _) _|refine Z8 ?_ (by simp) _)
theorem mP(s:List UInt8)(w:World):Calls prog 110 #[.string ⟨s.toArray⟩] w (b_ (.str s) w):=by
 unfold b_;go_enter func110,ntmps110;go_wp2_with fail;refine zi (v:= .agg #[.int .i64 3, .int .i64 0, .int .u64 0, .string ⟨s.toArray⟩, .slice none 0 0, .int .i64 0, .pointer none]) (by simp [results,results110,go_sem]) rfl ⟨rfl,?_⟩
 repeat (first|exact(zg _ _).alloc (za _) _|refine Z8 ?_ (by simp) _)
theorem mQ(u:Nat)(hu:u<2^64)(w:World):Calls prog 55 #[.int .u64 u] w (b_ (.real (aw u)) w):=by
 have HC:=J (fun w=>wW u hu w)
 generalize aw u=q at *;unfold b_;clear hu;go_enter func55,ntmps55;go_wp2_with (go_at_call 99;(with_reducible refine(HC.out _).q ?_));refine zi (v:= .agg #[.int .i64 2, .int .i64 0, .int .u64 (q:Int), .string ⟨#[]⟩, .slice none 0 0, .int .i64 0, .pointer none]) (by simp [results,results55,go_sem]) rfl ⟨rfl,?_⟩
 repeat (first|exact(zg _ _).alloc (za _) _|refine Z8 ?_ (by simp) _)
theorem iZ(b:Bool)(w:World):Calls prog 63 #[.bool b] w (b_ (aE b) w):=by
 have HN:=J (fun n w=>vS n w)
 unfold b_ aE at *
 cases b
 have fD:=J (rfl:0=0)
 rotate_left;have Vk:=J (rfl:0=0)
 all_goals
  go_enter func63,ntmps63;go_wp2_with (go_at_call 115;(((first|replace fD:=fD;with_reducible refine(HN.out 0 _).mono ?_|replace Vk:=Vk;with_reducible refine(HN.out 1 _).mono ?_));rintro e w1 ⟨rfl,hb⟩;have BX:=J ((ai.new w 49 aL).below hb (by simp));have HB:=J (((zg w.heap.size w).alloc (za _) (.cells aL 49)).trans (hb.mono (by simp)));obtain⟨c0,c1,c2,c3,c4,c5,c6⟩:=ae BX.out;obtain⟨f0,f1,f2,f3,f4,f5,f6⟩:=ar BX.out;clear hb))
  first
   |replace fD:=fD
    obtain⟨z0,z1,z2,z3,z4,z5,z6⟩:=ae (aF (r:= .int 0) BX.out)
   |obtain⟨z0,z1,z2,z3,z4,z5,z6⟩:=ae (aF (r:= .int 1) BX.out)
  unfold aR at z0 z1 z2 z3 z4 z5 z6
  first
   |replace fD:=fD
    refine zi (v:=aY (.int 0)) (by simp [results,results63,go_sem,z0,z1,z2,z3,z4,z5,z6]) rfl ⟨rfl,az (r:= .int 0) HB.out (za _)⟩
   |refine zi (v:=aY (.int 1)) (by simp [results,results63,go_sem,z0,z1,z2,z3,z4,z5,z6]) rfl ⟨rfl,az (r:= .int 1) HB.out (za _)⟩
theorem um(n e:Int)(w:World):Calls prog 102 #[.int .i64 n, .int .i64 e] w (aD (aX (n,e)) w):=by
 have HN:=J (fun n w=>vS n w)
 unfold aD b_ aX at *;dsimp only
 by_cases h0:e=0
 ·subst h0
  rw [zh rfl];go_enter func102,ntmps102;go_wp2_with (go_at_call 115;(with_reducible refine(HN.out n _).mono ?_);rintro e w1 ⟨rfl,hb⟩;have BX:=J ((ai.new w 49 aL).below hb (by simp));have HB:=J (((zg w.heap.size w).alloc (za _) (.cells aL 49)).trans (hb.mono (by simp)));obtain⟨c0,c1,c2,c3,c4,c5,c6⟩:=ae BX.out;obtain⟨f0,f1,f2,f3,f4,f5,f6⟩:=ar BX.out;clear hb)
  obtain⟨z0,z1,z2,z3,z4,z5,z6⟩:=ae (aF (r:= .int n) BX.out);unfold aR at z0 z1 z2 z3 z4 z5 z6;refine zi (v:= .tuple #[aY (.int n), .int .i64 0]) (by simp [results,results102,go_sem,z0,z1,z2,z3,z4,z5,z6]) rfl ⟨rfl,az (r:= .int n) HB.out (za _)⟩
 rw [ze h0];have k0:=ag h0
 by_cases h1:e=11
 ·subst h1
  rw [zh rfl];go_enter func102,ntmps102;go_wp2_with fail;refine zi (v:= .tuple #[.agg #[.int .i64 0, .int .i64 0, .int .u64 0, .string ⟨#[]⟩, .slice none 0 0, .int .i64 0, .pointer none], .int .i64 3]) (by simp [results,results102,go_sem]) rfl ⟨rfl,?_⟩
  repeat (first|exact(zg _ _).alloc (za _) _|refine Z8 ?_ (by simp) _)
 rw [ze h1];have k1:=ag h1
 by_cases h2:e=20
 ·subst h2
  rw [zh rfl];go_enter func102,ntmps102;go_wp2_with fail;refine zi (v:= .tuple #[.agg #[.int .i64 0, .int .i64 0, .int .u64 0, .string ⟨#[]⟩, .slice none 0 0, .int .i64 0, .pointer none], .int .i64 4]) (by simp [results,results102,go_sem]) rfl ⟨rfl,?_⟩
  repeat (first|exact(zg _ _).alloc (za _) _|refine Z8 ?_ (by simp) _)
 rw [ze h2];have k2:=ag h2;go_enter func102,ntmps102;go_wp2_with fail;refine zi (v:= .tuple #[.agg #[.int .i64 0, .int .i64 0, .int .u64 0, .string ⟨#[]⟩, .slice none 0 0, .int .i64 0, .pointer none], .int .i64 6]) (by simp [results,results102,go_sem]) rfl ⟨rfl,?_⟩
 repeat (first|exact(zg _ _).alloc (za _) _|refine Z8 ?_ (by simp) _)
end Go.Proofs.YtcpmiplofbfmfaaGreatDoor
