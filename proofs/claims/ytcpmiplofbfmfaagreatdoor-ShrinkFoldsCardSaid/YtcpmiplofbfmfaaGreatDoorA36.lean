/- Shrink: what a primitive of texts is; Fold: the program's wa -/
import Derived.Test.YtcpmiplofbfmfaaGreatDoorA35
set_option linter.all false
set_option maxRecDepth 100000
set_option maxHeartbeats 8000000
namespace Go.Proofs.YtcpmiplofbfmfaaGreatDoor
open Go.Proofs.Tryz
open Go.Lib renaming hid→J
open Go.RowKit LamM CpsM FloM ShrM
theorem xv{L:List Fl}{k l m:Int}(h:aW L [k,l,m]=true): ∃x y z,L=[x,y,z]∧qr x k=true∧qr y l=true∧qr z m=true:=by
 match L,h with
 |[x,y,z],h=>exact⟨x,y,z,rfl,by simpa [aW]using h⟩
 |[],h=>cases h
 |[_],h=>simp [aW]at h
 |[_,_],h=>simp [aW]at h
 |_::_::_::_::_,h=>simp [aW]at h
theorem vP{x:Fl}(h:qr x 4=true):x.t.length≤65536:=by
 unfold qr at h;simp at h;obtain⟨⟨h1,_⟩,h2⟩:=h;exact h2.resolve_left (fun h=>h h1)
theorem Ug{x:Fl}(h:qr x 2=true):x.i≤4611686018427387903:=by
 have:=nG h;unfold ax at this;simp at this;exact this.2
theorem NT(x:Fl)(v:Value)(w:World)(hN:NF w w.heap.size v [x])(h1:aW [x] [4]=true):Calls prog 53 #[.string ⟨#[115,105,122,101]⟩,v] w (aq (.int (x.t.length:Int)) w):=by
 obtain⟨ad,nc,rfl,hA⟩:=BK hN;obtain⟨W,hW⟩: ∃W,(w.alloc (.cells bC 38)).alloc (.cells #[.int .i64 4] 23)=W:=⟨_,rfl⟩;have dD:=J (show Below w.heap.size w W by rw [←hW];exact aA _ _ _)
 have HZ:=J (show ai W w.heap.size 38 bC by rw [←hW];exact(ai.new _ _ _).alloc _)
 have HA:=J (ip [x] [4] _ w W (w.heap.size+1) 1 23 #[.int .i64 4] hN dD.out (by rw [←hW];exact am (by simp) _ _) rfl rfl (by decide))
 rw [h1]at HA;obtain⟨x',yb,hx⟩:=kP h1;obtain rfl:x=x':=by injection yb
 have dq:=eA x.t;have HT:=J (fun x w=>kS x w)
 clear hN h1 hx yb;unfold aq at *;go_enter func53,ntmps53;go_upto_region 2 with(go_at_call 10;(with_reducible refine(HA.out).mono ?_);rintro e w1 ⟨rfl,hb⟩;have bp:=J (dD.out.trans (hb.mono dD.out.size));have rJ:=J (HZ.out.below hb HZ.out.lt);have a5:=(hA.below bp.out).2.2;clear hb)
 clear hW hA;go_wp2_with (go_at_call 73;(with_reducible refine(HT.out (x.t.length:Int) _).mono ?_);rintro e w5 ⟨rfl,hb⟩;have BX:=J (rJ.out.below hb rJ.out.lt);have HB:=J (bp.out.trans (hb.mono bp.out.size));obtain⟨c0,c1,c2,c3,c4,c5,c6,c7,c8,c9,c10⟩:=ah BX.out;obtain⟨f0,f1,f2,f3,f4,f5,f6,f7,f8,f9,ox⟩:=aO BX.out;clear hb);obtain⟨z0,z1,z2,z3,z4,z5,z6,z7,z8,z9,cF⟩:=ah (aK (r:= .int (x.t.length:Int)) BX.out);unfold cD at z0 z1 z2 z3 z4 z5 z6 z7 z8 z9 cF;refine zi (v:=eM (.int (x.t.length:Int))) (by simp [results,results53,go_sem,z0,z1,z2,z3,z4,z5,z6,z7,z8,z9,cF]) rfl ⟨rfl,au HB.out (za _)⟩
theorem sG(x y:Fl)(v:Value)(w:World)(hN:NF w w.heap.size v [x,y]):(∀(hc:0≤y.i∧y.i<(x.t.length:Int)) (h1:aW [x,y] [4,2]=true),Calls prog 53 #[.string ⟨#[115,117,98]⟩,v] w (aq (.int ((x.t.getD y.i.toNat 0).toNat:Int)) w))∧(∀(hc: ¬(0≤y.i∧y.i<(x.t.length:Int))) (h1:aW [x,y] [4,2]=true),Calls prog 53 #[.string ⟨#[115,117,98]⟩,v] w (aq (.raise 8) w)):=by
 refine⟨?_,?_⟩
 all_goals intro hc h1
 have aj:=J (rfl:0=0)
 all_goals
  obtain⟨ad,nc,rfl,hA,tc⟩:=ud hN;obtain⟨W,hW⟩: ∃W,(w.alloc (.cells bC 38)).alloc (.cells #[.int .i64 4, .int .i64 2] 23)=W:=⟨_,rfl⟩;have dD:=J (show Below w.heap.size w W by rw [←hW];exact aA _ _ _)
  have HZ:=J (show ai W w.heap.size 38 bC by rw [←hW];exact(ai.new _ _ _).alloc _)
  have HA:=J (ip [x,y] [4,2] _ w W (w.heap.size+1) 2 23 #[.int .i64 4, .int .i64 2] hN dD.out (by rw [←hW];exact am (by simp) _ _) rfl rfl (by decide))
  rw [h1]at HA;obtain⟨x',y',yb,hx,hy⟩:=eG h1;obtain⟨rfl,rfl⟩:x=x'∧y=y':=by injection yb with h2 h3;injection h3 with h3;exact⟨h2,h3⟩
  have HF:=J (fun w=>adl x.t (vP hx) y.i w)
  first
   |replace aj:=aj
    rw [zh hc]at HF
   |rw [ze hc]at HF
  unfold R2 at HF;have HT:=J (fun x w=>kS x w)
  clear hN h1 hx yb hy hc
  first
   |replace aj:=aj
    generalize((x.t.getD y.i.toNat 0).toNat:Int)=q at *
   |skip
  unfold aq at *;go_enter func53,ntmps53;go_upto_region 9 with(go_at_call 10;(with_reducible refine(HA.out).mono ?_);rintro e w1 ⟨rfl,hb⟩;have bp:=J (dD.out.trans (hb.mono dD.out.size));have rJ:=J (HZ.out.below hb HZ.out.lt);have a5:=(hA.below bp.out).2.2;have b3:=(tc.below bp.out).1;clear hb)
  clear hW hA tc;go_quiet ((go_at_call 97;exact Zp ((HF.out _).mono fun _ _ hh=>⟨hh.1,hh.2.symm⟩)))
  first
   |replace aj:=aj
    go_wp2_with (go_at_call 73;(with_reducible refine(HT.out q _).mono ?_);rintro e w5 ⟨rfl,hb⟩;have BX:=J ((rJ.out.drewN _).below hb rJ.out.lt);have HB:=J ((below_drewN bp.out _).trans (hb.mono bp.out.size));obtain⟨c0,c1,c2,c3,c4,c5,c6,c7,c8,c9,c10⟩:=ah BX.out;obtain⟨f0,f1,f2,f3,f4,f5,f6,f7,f8,f9,ox⟩:=aO BX.out;clear hb)
    obtain⟨z0,z1,z2,z3,z4,z5,z6,z7,z8,z9,cF⟩:=ah (aK (r:= .int q) BX.out)
   |have BX:=J (rJ.out.drewN nq)
    have HB:=J (below_drewN bp.out nq);obtain⟨c0,c1,c2,c3,c4,c5,c6,c7,c8,c9,c10⟩:=ah BX.out;obtain⟨f0,f1,f2,f3,f4,f5,f6,f7,f8,f9,ox⟩:=aO BX.out;go_wp2_with fail;obtain⟨z0,z1,z2,z3,z4,z5,z6,z7,z8,z9,cF⟩:=ah (aK (r:= .raise 8) BX.out)
  unfold cD at z0 z1 z2 z3 z4 z5 z6 z7 z8 z9 cF
  first
   |replace aj:=aj
    refine zi (v:=eM (.int q)) (by simp [results,results53,go_sem,z0,z1,z2,z3,z4,z5,z6,z7,z8,z9,cF]) rfl ⟨rfl,au HB.out (za _)⟩
   |simp only [rk,ri,rb,rt,rc,ro]at z0 z1 z2 z3 z4 z5 z6 z7 z8 z9 cF
    refine zi (v:=eM (.raise 8)) (by simp [results,results53,go_sem,rk,ri,rb,rt,rc,ro,z0,z1,z2,z3,z4,z5,z6,z7,z8,z9,cF]) rfl ⟨rfl,au (r:= .raise 8) HB.out (za _)⟩
def Uh a b c d e:=(sG a b c d e).1
def NU a b c d e:=(sG a b c d e).2
theorem sH(x y:Fl)(v:Value)(w:World)(hN:NF w w.heap.size v [x,y]):(∀(hc:x.t.length+y.t.length≤65536) (h1:aW [x,y] [4,4]=true),Calls prog 53 #[.string ⟨#[94]⟩,v] w (aq (.str (x.t++y.t)) w))∧(∀(hc: ¬x.t.length+y.t.length≤65536) (h1:aW [x,y] [4,4]=true),Calls prog 53 #[.string ⟨#[94]⟩,v] w (aq (.raise 7) w)):=by
 refine⟨?_,?_⟩
 all_goals intro hc h1
 have aj:=J (rfl:0=0)
 all_goals
  obtain⟨ad,nc,rfl,hA,tc⟩:=ud hN;obtain⟨W,hW⟩: ∃W,(w.alloc (.cells bC 38)).alloc (.cells #[.int .i64 4, .int .i64 4] 23)=W:=⟨_,rfl⟩;have dD:=J (show Below w.heap.size w W by rw [←hW];exact aA _ _ _)
  have HZ:=J (show ai W w.heap.size 38 bC by rw [←hW];exact(ai.new _ _ _).alloc _)
  have HA:=J (ip [x,y] [4,4] _ w W (w.heap.size+1) 2 23 #[.int .i64 4, .int .i64 4] hN dD.out (by rw [←hW];exact am (by simp) _ _) rfl rfl (by decide))
  rw [h1]at HA;obtain⟨x',y',yb,hx,hy⟩:=eG h1;obtain⟨rfl,rfl⟩:x=x'∧y=y':=by injection yb with h2 h3;injection h3 with h3;exact⟨h2,h3⟩
  have HF:=J (fun(W:World)=>TH W.heap.size 2 x.t y.t (vP hx) (vP hy) (za _) (W.alloc (.cells #[.string ⟨x.t.toArray⟩, .string ⟨y.t.toArray⟩] 9)).drew ((ai.new W 9 #[.string ⟨x.t.toArray⟩, .string ⟨y.t.toArray⟩]).cell 0) ((ai.new W 9 #[.string ⟨x.t.toArray⟩, .string ⟨y.t.toArray⟩]).cell 1))
  first
   |replace aj:=aj
    simp only [zh hc]at HF
   |simp only [ze hc]at HF
  unfold ju at HF;have HT:=J (fun x w=>mO x w)
  clear hN h1 hx yb hy hc
  first
   |replace aj:=aj
    generalize x.t++y.t=q at *
   |skip
  unfold aq at *;go_enter func53,ntmps53;go_upto_region 4 with(go_at_call 10;(with_reducible refine(HA.out).mono ?_);rintro e w1 ⟨rfl,hb⟩;have bp:=J (dD.out.trans (hb.mono dD.out.size));have rJ:=J (HZ.out.below hb HZ.out.lt);have a5:=(hA.below bp.out).2.2;have b5:=(tc.below bp.out).2.2;clear hb)
  have HHA:=J hA;have aeL:=J tc;clear hW hA tc;have K0:=J (show w1.drew.cell? ⟨ad.block,ad.off+5,none⟩=some (.string ⟨x.t.toArray⟩)∧w1.drew.cell? ⟨ad.block,ad.off+9+5,none⟩=some (.string ⟨y.t.toArray⟩)from⟨a5,b5⟩)
  have K1:=J (fun o=>show(w1.alloc o).drew.cell? ⟨ad.block,ad.off+5,none⟩=some (.string ⟨x.t.toArray⟩)∧(w1.alloc o).drew.cell? ⟨ad.block,ad.off+9+5,none⟩=some (.string ⟨y.t.toArray⟩)from⟨Lib.cell?_alloc_some o a5,Lib.cell?_alloc_some o b5⟩)
  have BXd:=J (fun o=>(rJ.out.alloc o).drew)
  have HBd:=J (fun o=>below_drewN (bp.out.alloc bp.out.size o) 1)
  replace HF:=J (show Calls prog 96 #[.slice (some ⟨w1.heap.size,0,none⟩) 2 2] (w1.alloc (.cells #[.string ⟨x.t.toArray⟩, .string ⟨y.t.toArray⟩] 9)).drew _ from HF.out w1)
  go_region_held3 (fun w'=>w'.cell? ⟨ad.block,ad.off+5,none⟩=some (.string ⟨x.t.toArray⟩)∧w'.cell? ⟨ad.block,ad.off+9+5,none⟩=some (.string ⟨y.t.toArray⟩)) (first|with_reducible exact K0.out|with_reducible exact K1.out _|with_reducible exact K4.out)
   (first|(go_at_call 96;(with_reducible refine(HF.out).mono ?_);rintro e w4 ⟨rfl,hb⟩;have ce:=J ((HBd.out _).trans (hb.mono (HBd.out _).size));have Y0:=J ((BXd.out _).below hb (BXd.out _).lt);have K4:=J (show w4.cell? ⟨ad.block,ad.off+5,none⟩=some (.string ⟨x.t.toArray⟩)∧w4.cell? ⟨ad.block,ad.off+9+5,none⟩=some (.string ⟨y.t.toArray⟩)from⟨(HHA.out.below ce.out).2.2,(aeL.out.below ce.out).2.2⟩);clear hb))
  first
   |replace aj:=aj
    go_wp2_with (go_at_call 42;(with_reducible refine(HT.out q _).mono ?_);rintro e w5 ⟨rfl,hb⟩;have BX:=J (Y0.out.below hb Y0.out.lt);have HB:=J (ce.out.trans (hb.mono ce.out.size));obtain⟨c0,c1,c2,c3,c4,c5,c6,c7,c8,c9,c10⟩:=ah BX.out;obtain⟨f0,f1,f2,f3,f4,f5,f6,f7,f8,f9,ox⟩:=aO BX.out;clear hb)
    obtain⟨z0,z1,z2,z3,z4,z5,z6,z7,z8,z9,cF⟩:=ah (aK (r:= .str q) BX.out)
   |have BX:=J Y0.out
    have HB:=J ce.out;obtain⟨c0,c1,c2,c3,c4,c5,c6,c7,c8,c9,c10⟩:=ah BX.out;obtain⟨f0,f1,f2,f3,f4,f5,f6,f7,f8,f9,ox⟩:=aO BX.out;go_wp2_with fail;obtain⟨z0,z1,z2,z3,z4,z5,z6,z7,z8,z9,cF⟩:=ah (aK (r:= .raise 7) BX.out)
  unfold cD at z0 z1 z2 z3 z4 z5 z6 z7 z8 z9 cF
  first
   |replace aj:=aj
    refine zi (v:=eM (.str q)) (by simp [results,results53,go_sem,z0,z1,z2,z3,z4,z5,z6,z7,z8,z9,cF]) rfl ⟨rfl,au HB.out (za _)⟩
   |simp only [rk,ri,rb,rt,rc,ro]at z0 z1 z2 z3 z4 z5 z6 z7 z8 z9 cF
    refine zi (v:=eM (.raise 7)) (by simp [results,results53,go_sem,rk,ri,rb,rt,rc,ro,z0,z1,z2,z3,z4,z5,z6,z7,z8,z9,cF]) rfl ⟨rfl,au (r:= .raise 7) HB.out (za _)⟩
def Ui a b c d e:=(sH a b c d e).1
def NW a b c d e:=(sH a b c d e).2
theorem sJ(x y z:Fl)(v:Value)(w:World)(hN:NF w w.heap.size v [x,y,z]):(∀(hc:(0≤y.i∧0≤z.i∧y.i≤(x.t.length:Int)∧z.i≤(x.t.length:Int)-y.i)) (h1:aW [x,y,z] [4,2,2]=true),Calls prog 53 #[.string ⟨#[115,117,98,115,116,114,105,110,103]⟩,v] w (aq (.str ((x.t.drop y.i.toNat).take z.i.toNat)) w))∧(∀(hc: ¬(0≤y.i∧0≤z.i∧y.i≤(x.t.length:Int)∧z.i≤(x.t.length:Int)-y.i)) (h1:aW [x,y,z] [4,2,2]=true),Calls prog 53 #[.string ⟨#[115,117,98,115,116,114,105,110,103]⟩,v] w (aq (.raise 8) w)):=by
 refine⟨?_,?_⟩
 all_goals intro hc h1
 have aj:=J (rfl:0=0)
 all_goals
  obtain⟨ad,nc,rfl,hA,tc,hA3⟩:=TR hN;obtain⟨W,hW⟩: ∃W,(w.alloc (.cells bC 38)).alloc (.cells #[.int .i64 4, .int .i64 2, .int .i64 2] 23)=W:=⟨_,rfl⟩;have dD:=J (show Below w.heap.size w W by rw [←hW];exact aA _ _ _)
  have HZ:=J (show ai W w.heap.size 38 bC by rw [←hW];exact(ai.new _ _ _).alloc _)
  have HA:=J (ip [x,y,z] [4,2,2] _ w W (w.heap.size+1) 3 23 #[.int .i64 4, .int .i64 2, .int .i64 2] hN dD.out (by rw [←hW];exact am (by simp) _ _) rfl rfl (by decide))
  rw [h1]at HA;obtain⟨x',y',z',yb,hx,hy,hz⟩:=xv h1;obtain⟨rfl,rfl,rfl⟩:x=x'∧y=y'∧z=z':=by injection yb with h2 h3;injection h3 with h3 h4;injection h4 with h4;exact⟨h2,h3,h4⟩
  have HF:=J (fun w=>adn x.t (vP hx) y.i z.i (Ug hy) (Ug hz) w)
  first
   |replace aj:=aj
    simp only [zh hc]at HF
   |simp only [ze hc]at HF
  unfold ju at HF;have HT:=J (fun x w=>mO x w)
  clear hN h1 hx yb hy hz hc
  first
   |replace aj:=aj
    generalize(x.t.drop y.i.toNat).take z.i.toNat=q at *
   |skip
  unfold aq at *;go_enter func53,ntmps53;go_upto_region 14 with(go_at_call 10;(with_reducible refine(HA.out).mono ?_);rintro e w1 ⟨rfl,hb⟩;have bp:=J (dD.out.trans (hb.mono dD.out.size));have rJ:=J (HZ.out.below hb HZ.out.lt);have a5:=(hA.below bp.out).2.2;have b3:=(tc.below bp.out).1;have c3:=(hA3.below bp.out).1;clear hb)
  have HHA:=J hA;have aeL:=J tc;have ame:=J hA3;clear hW hA tc hA3;have K0:=J (show w1.drew.cell? ⟨ad.block,ad.off+5,none⟩=some (.string ⟨x.t.toArray⟩)∧w1.drew.cell? ⟨ad.block,ad.off+9+3,none⟩=some (.int .i64 y.i)∧w1.drew.cell? ⟨ad.block,ad.off+18+3,none⟩=some (.int .i64 z.i)from⟨a5,b3,c3⟩)
  go_region_held3 (fun w'=>w'.cell? ⟨ad.block,ad.off+5,none⟩=some (.string ⟨x.t.toArray⟩)∧w'.cell? ⟨ad.block,ad.off+9+3,none⟩=some (.int .i64 y.i)∧w'.cell? ⟨ad.block,ad.off+18+3,none⟩=some (.int .i64 z.i)) (first|with_reducible exact K0.out|with_reducible exact K4.out)
   (first|(go_at_call 98;(with_reducible refine(HF.out _).mono ?_);rintro e w4 ⟨rfl,hb⟩;have ce:=J ((below_drewN bp.out 1).trans (hb.mono (below_drewN bp.out 1).size));have Y0:=J (rJ.out.drew.below hb rJ.out.drew.lt);have K4:=J (show w4.cell? ⟨ad.block,ad.off+5,none⟩=some (.string ⟨x.t.toArray⟩)∧w4.cell? ⟨ad.block,ad.off+9+3,none⟩=some (.int .i64 y.i)∧w4.cell? ⟨ad.block,ad.off+18+3,none⟩=some (.int .i64 z.i)from⟨(HHA.out.below ce.out).2.2,(aeL.out.below ce.out).1,(ame.out.below ce.out).1⟩);clear hb))
  first
   |replace aj:=aj
    go_wp2_with (go_at_call 42;(with_reducible refine(HT.out q _).mono ?_);rintro e w5 ⟨rfl,hb⟩;have BX:=J (Y0.out.below hb Y0.out.lt);have HB:=J (ce.out.trans (hb.mono ce.out.size));obtain⟨c0,c1,c2,c3,c4,c5,c6,c7,c8,c9,c10⟩:=ah BX.out;obtain⟨f0,f1,f2,f3,f4,f5,f6,f7,f8,f9,ox⟩:=aO BX.out;clear hb)
    obtain⟨z0,z1,z2,z3,z4,z5,z6,z7,z8,z9,cF⟩:=ah (aK (r:= .str q) BX.out)
   |have BX:=J Y0.out
    have HB:=J ce.out;obtain⟨c0,c1,c2,c3,c4,c5,c6,c7,c8,c9,c10⟩:=ah BX.out;obtain⟨f0,f1,f2,f3,f4,f5,f6,f7,f8,f9,ox⟩:=aO BX.out;go_wp2_with fail;obtain⟨z0,z1,z2,z3,z4,z5,z6,z7,z8,z9,cF⟩:=ah (aK (r:= .raise 8) BX.out)
  unfold cD at z0 z1 z2 z3 z4 z5 z6 z7 z8 z9 cF
  first
   |replace aj:=aj
    refine zi (v:=eM (.str q)) (by simp [results,results53,go_sem,z0,z1,z2,z3,z4,z5,z6,z7,z8,z9,cF]) rfl ⟨rfl,au HB.out (za _)⟩
   |simp only [rk,ri,rb,rt,rc,ro]at z0 z1 z2 z3 z4 z5 z6 z7 z8 z9 cF
    refine zi (v:=eM (.raise 8)) (by simp [results,results53,go_sem,rk,ri,rb,rt,rc,ro,z0,z1,z2,z3,z4,z5,z6,z7,z8,z9,cF]) rfl ⟨rfl,au (r:= .raise 8) HB.out (za _)⟩
def Uj a b c d e f:=(sJ a b c d e f).1
def NX a b c d e f:=(sJ a b c d e f).2
theorem gD(L:List Fl)(v:Value)(w:World)(hN:NF w w.heap.size v L):(∀(h1:aW L [4]=false),Calls prog 53 #[.string ⟨#[115,105,122,101]⟩,v] w (aq .no w))∧(∀(h1:aW L [4,4]=false),Calls prog 53 #[.string ⟨#[94]⟩,v] w (aq .no w))∧(∀(h1:aW L [4,2]=false),Calls prog 53 #[.string ⟨#[115,117,98]⟩,v] w (aq .no w))∧(∀(h1:aW L [4,2,2]=false),Calls prog 53 #[.string ⟨#[115,117,98,115,116,114,105,110,103]⟩,v] w (aq .no w)):=by
 refine⟨?_,?_,?_,?_⟩
 all_goals intro h1
 have aj:=J (rfl:0=0)
 rotate_left;have aG:=J (rfl:0=0)
 rotate_left;have aP:=J (rfl:0=0)
 all_goals
  first
   |replace aj:=aj
    obtain⟨W,hW⟩: ∃W,(w.alloc (.cells bC 38)).alloc (.cells #[.int .i64 4] 23)=W:=⟨_,rfl⟩
   |replace aG:=aG
    obtain⟨W,hW⟩: ∃W,(w.alloc (.cells bC 38)).alloc (.cells #[.int .i64 4, .int .i64 4] 23)=W:=⟨_,rfl⟩
   |replace aP:=aP
    obtain⟨W,hW⟩: ∃W,(w.alloc (.cells bC 38)).alloc (.cells #[.int .i64 4, .int .i64 2] 23)=W:=⟨_,rfl⟩
   |obtain⟨W,hW⟩: ∃W,(w.alloc (.cells bC 38)).alloc (.cells #[.int .i64 4, .int .i64 2, .int .i64 2] 23)=W:=⟨_,rfl⟩
  have dD:=J (show Below w.heap.size w W by rw [←hW];exact aA _ _ _)
  have HZ:=J (show ai W w.heap.size 38 bC by rw [←hW];exact(ai.new _ _ _).alloc _)
  first
   |replace aj:=aj
    have HA:=J (ip L [4] _ w W (w.heap.size+1) 1 23 #[.int .i64 4] hN dD.out (by rw [←hW];exact am (by simp) _ _) rfl rfl (by decide))
   |replace aG:=aG
    have HA:=J (ip L [4,4] _ w W (w.heap.size+1) 2 23 #[.int .i64 4, .int .i64 4] hN dD.out (by rw [←hW];exact am (by simp) _ _) rfl rfl (by decide))
   |replace aP:=aP
    have HA:=J (ip L [4,2] _ w W (w.heap.size+1) 2 23 #[.int .i64 4, .int .i64 2] hN dD.out (by rw [←hW];exact am (by simp) _ _) rfl rfl (by decide))
   |have HA:=J (ip L [4,2,2] _ w W (w.heap.size+1) 3 23 #[.int .i64 4, .int .i64 2, .int .i64 2] hN dD.out (by rw [←hW];exact am (by simp) _ _) rfl rfl (by decide))
  rw [h1]at HA;obtain⟨NA,nc,rfl,_,_⟩:=hN.len;unfold aq at *;clear hN h1;go_enter func53,ntmps53;go_upto_region 18 with(go_at_call 10;(with_reducible refine(HA.out).mono ?_);rintro e w1 ⟨rfl,hb⟩;have bp:=J (dD.out.trans (hb.mono dD.out.size));have rJ:=J (HZ.out.below hb HZ.out.lt);have BX:=J rJ.out;have HB:=J bp.out;obtain⟨c0,c1,c2,c3,c4,c5,c6,c7,c8,c9,c10⟩:=ah BX.out;obtain⟨f0,f1,f2,f3,f4,f5,f6,f7,f8,f9,ox⟩:=aO BX.out;clear hb)
  clear hW;go_wp2_with fail;obtain⟨z0,z1,z2,z3,z4,z5,z6,z7,z8,z9,cF⟩:=ah (aK (r:= .no) BX.out);unfold cD at z0 z1 z2 z3 z4 z5 z6 z7 z8 z9 cF;simp only [rk,ri,rb,rt,rc,ro]at z0 z1 z2 z3 z4 z5 z6 z7 z8 z9 cF;refine zi (v:= .agg bC) (by simp [results,results53,go_sem,z0,z1,z2,z3,z4,z5,z6,z7,z8,z9,cF]) rfl ⟨rfl,au (r:= .no) HB.out (za _)⟩
def Ek a b c d:=(gD a b c d).1
def G8 a b c d:=(gD a b c d).2.1
def G9 a b c d:=(gD a b c d).2.2.1
def G_ a b c d:=(gD a b c d).2.2.2
theorem NY(S:List UInt8)(hS:S≠[115,105,122,101]∧S≠[94]∧S≠[115,117,98]∧S≠[115,117,98,115,116,114,105,110,103])(L:List Fl)(v:Value)(w:World)(hN:NF w w.heap.size v L):Calls prog 53 #[.string ⟨S.toArray⟩,v] w (aq .no w):=by
 have s0:(S==[115,105,122,101])=false:=zf.2 hS.1;have s1:(S==[94])=false:=zf.2 hS.2.1;have s2:(S==[115,117,98])=false:=zf.2 hS.2.2.1;have s3:(S==[115,117,98,115,116,114,105,110,103])=false:=zf.2 hS.2.2.2;obtain⟨NA,nc,rfl,_,_⟩:=hN.len;unfold aq at *;clear hN hS;go_enter func53,ntmps53;go_wp2_with fail;refine zi (v:= .agg bC) (by simp [results,results53,go_sem]) rfl ⟨rfl,?_⟩
 repeat (first|exact(zg _ _).alloc (za _) _|refine Z8 ?_ (by simp) _)
theorem Uk(S:List UInt8)(L:List Fl)(v:Value)(w:World)(hN:NF w w.heap.size v L):Calls prog 53 #[.string ⟨S.toArray⟩,v] w (aq (lJ S L) w):=by
 unfold lJ
 by_cases s0:S=[115,105,122,101]
 ·subst s0
  cases h1:aW L [4]with
  |true=>obtain⟨x,rfl,_⟩:=kP h1;exact NT x v w hN h1
  |false=>exact Ek L v w hN h1
 by_cases s1:S=[94]
 ·subst s1
  cases h1:aW L [4,4]with
  |true=>
   obtain⟨x,y,rfl,_⟩:=eG h1
   by_cases hc:x.t.length+y.t.length≤65536
   ·have h:=Ui x y v w hN hc h1
    simpa [GJ,a0,a1,hc]using h
   ·have h:=NW x y v w hN hc h1
    simpa [GJ,a0,a1,hc]using h
  |false=>exact G8 L v w hN h1
 by_cases s2:S=[115,117,98]
 ·subst s2
  cases h1:aW L [4,2]with
  |true=>
   obtain⟨x,y,rfl,_⟩:=eG h1
   by_cases hc:0≤y.i∧y.i<(x.t.length:Int)
   ·have h:=Uh x y v w hN hc h1
    simpa [GK,a0,a1,hc]using h
   ·have h:=NU x y v w hN hc h1
    simpa [GK,a0,a1,hc]using h
  |false=>exact G9 L v w hN h1
 by_cases s3:S=[115,117,98,115,116,114,105,110,103]
 ·subst s3
  cases h1:aW L [4,2,2]with
  |true=>
   obtain⟨x,y,z,rfl,_⟩:=xv h1
   by_cases hc:0≤y.i∧0≤z.i∧y.i≤(x.t.length:Int)∧z.i≤(x.t.length:Int)-y.i
   ·have h:=Uj x y z v w hN hc h1
    simpa [GL,a0,a1,a2,hc]using h
   ·have h:=NX x y z v w hN hc h1
    simpa [GL,a0,a1,a2,hc]using h
  |false=>exact G_ L v w hN h1
 rw [ze (fun h=>s0 h.1),ze (fun h=>s1 h.1),ze (fun h=>s2 h.1),ze (fun h=>s3 h.1)]
 exact NY S ⟨s0,s1,s2,s3⟩ L v w hN
set_option maxHeartbeats 24000000
theorem bU(L:List Fl)(v:Value)(w:World):(∀(hN:NF w w.heap.size v L),Calls prog 14 #[.string ⟨#[100,105,118]⟩,v] w (aq (jr [100,105,118] L) w))∧(∀(hN:NF w w.heap.size v L),Calls prog 14 #[.string ⟨#[109,111,100]⟩,v] w (aq (jr [109,111,100] L) w))∧(∀(hN:NF w w.heap.size v L),Calls prog 14 #[.string ⟨#[113,117,111,116]⟩,v] w (aq (jr [113,117,111,116] L) w))∧(∀(hN:NF w w.heap.size v L),Calls prog 14 #[.string ⟨#[114,101,109]⟩,v] w (aq (jr [114,101,109] L) w))∧(∀(hE:gV w) (hb: ∀t∈L,0≤t.b∧t.b<2^64) (hN:NF w w.heap.size v L),Calls prog 14 #[.string ⟨#[47]⟩,v] w (aq (dm [47] L) w))∧(∀(hE:gV w) (hb: ∀t∈L,0≤t.b∧t.b<2^64) (hN:NF w w.heap.size v L),Calls prog 14 #[.string ⟨#[115,97,109,101]⟩,v] w (aq (dm [115,97,109,101] L) w))∧(∀(hE:gV w) (hb: ∀t∈L,0≤t.b∧t.b<2^64) (hN:NF w w.heap.size v L),Calls prog 14 #[.string ⟨#[102,108,111,111,114]⟩,v] w (aq (dm [102,108,111,111,114] L) w))∧(∀(hE:gV w) (hb: ∀t∈L,0≤t.b∧t.b<2^64) (hN:NF w w.heap.size v L),Calls prog 14 #[.string ⟨#[99,101,105,108]⟩,v] w (aq (dm [99,101,105,108] L) w))∧(∀(hE:gV w) (hb: ∀t∈L,0≤t.b∧t.b<2^64) (hN:NF w w.heap.size v L),Calls prog 14 #[.string ⟨#[116,114,117,110,99]⟩,v] w (aq (dm [116,114,117,110,99] L) w))∧(∀(hE:gV w) (hb: ∀t∈L,0≤t.b∧t.b<2^64) (hN:NF w w.heap.size v L),Calls prog 14 #[.string ⟨#[114,111,117,110,100]⟩,v] w (aq (dm [114,111,117,110,100] L) w))∧(∀(hE:gV w) (hb: ∀t∈L,0≤t.b∧t.b<2^64) (hN:NF w w.heap.size v L),Calls prog 14 #[.string ⟨#[105,115,78,97,110]⟩,v] w (aq (dm [105,115,78,97,110] L) w))∧(∀(hE:gV w) (hb: ∀t∈L,0≤t.b∧t.b<2^64) (hN:NF w w.heap.size v L),Calls prog 14 #[.string ⟨#[114,101,97,108,84,101,120,116]⟩,v] w (aq (dm [114,101,97,108,84,101,120,116] L) w)):=by
 refine⟨?_,?_,?_,?_,?_,?_,?_,?_,?_,?_,?_,?_⟩;intro hN;have aj:=J (rfl:0=0)
 rotate_left;intro hN;have aG:=J (rfl:0=0)
 rotate_left;intro hN;have aP:=J (rfl:0=0)
 rotate_left;intro hN;have bk:=J (rfl:0=0)
 rotate_left;intro hE hb hN;have bz:=J (rfl:0=0)
 rotate_left;intro hE hb hN;have cE:=J (rfl:0=0)
 rotate_left;intro hE hb hN;have dU:=J (rfl:0=0)
 rotate_left;intro hE hb hN;have gu:=J (rfl:0=0)
 rotate_left;intro hE hb hN;have E8:=J (rfl:0=0)
 rotate_left;intro hE hb hN;have E7:=J (rfl:0=0)
 rotate_left;intro hE hb hN;have Cb:=J (rfl:0=0)
 rotate_left;intro hE hb hN;have UY:=J (rfl:0=0)
 all_goals
  first
   |replace aj:=aj
    have HF:=J (mL [100,105,118] L v (w.alloc (.cells bC 38)) (hN.below ((zg _ _).alloc (za _) _)))
   |replace aG:=aG
    have HF:=J (mL [109,111,100] L v (w.alloc (.cells bC 38)) (hN.below ((zg _ _).alloc (za _) _)))
   |replace aP:=aP
    have HF:=J (mL [113,117,111,116] L v (w.alloc (.cells bC 38)) (hN.below ((zg _ _).alloc (za _) _)))
   |replace bk:=bk
    have HF:=J (mL [114,101,109] L v (w.alloc (.cells bC 38)) (hN.below ((zg _ _).alloc (za _) _)))
   |replace bz:=bz
    have HF:=J (e_ [47] L v (w.alloc (.cells bC 38)) (hE.alloc _) hb (hN.below ((zg _ _).alloc (za _) _)))
   |replace cE:=cE
    have HF:=J (e_ [115,97,109,101] L v (w.alloc (.cells bC 38)) (hE.alloc _) hb (hN.below ((zg _ _).alloc (za _) _)))
   |replace dU:=dU
    have HF:=J (e_ [102,108,111,111,114] L v (w.alloc (.cells bC 38)) (hE.alloc _) hb (hN.below ((zg _ _).alloc (za _) _)))
   |replace gu:=gu
    have HF:=J (e_ [99,101,105,108] L v (w.alloc (.cells bC 38)) (hE.alloc _) hb (hN.below ((zg _ _).alloc (za _) _)))
   |replace E8:=E8
    have HF:=J (e_ [116,114,117,110,99] L v (w.alloc (.cells bC 38)) (hE.alloc _) hb (hN.below ((zg _ _).alloc (za _) _)))
   |replace E7:=E7
    have HF:=J (e_ [114,111,117,110,100] L v (w.alloc (.cells bC 38)) (hE.alloc _) hb (hN.below ((zg _ _).alloc (za _) _)))
   |replace Cb:=Cb
    have HF:=J (e_ [105,115,78,97,110] L v (w.alloc (.cells bC 38)) (hE.alloc _) hb (hN.below ((zg _ _).alloc (za _) _)))
   |have HF:=J (e_ [114,101,97,108,84,101,120,116] L v (w.alloc (.cells bC 38)) (hE.alloc _) hb (hN.below ((zg _ _).alloc (za _) _)))
  obtain⟨NA,nc,rfl,_,_⟩:=hN.len
  first
   |replace aj:=aj
    generalize jr [100,105,118] L=q at *
   |replace aG:=aG
    generalize jr [109,111,100] L=q at *
   |replace aP:=aP
    generalize jr [113,117,111,116] L=q at *
   |replace bk:=bk
    generalize jr [114,101,109] L=q at *
   |replace bz:=bz
    generalize dm [47] L=q at *
   |replace cE:=cE
    generalize dm [115,97,109,101] L=q at *
   |replace dU:=dU
    generalize dm [102,108,111,111,114] L=q at *
   |replace gu:=gu
    generalize dm [99,101,105,108] L=q at *
   |replace E8:=E8
    generalize dm [116,114,117,110,99] L=q at *
   |replace E7:=E7
    generalize dm [114,111,117,110,100] L=q at *
   |replace Cb:=Cb
    generalize dm [105,115,78,97,110] L=q at *
   |generalize dm [114,101,97,108,84,101,120,116] L=q at *
  unfold aq at *
  first
   |(first|replace aj:=aj|replace aG:=aG|replace aP:=aP|replace bk:=bk)
    clear hN
   |clear hN hE hb
  go_enter func14,ntmps14;go_wp2_with ((first|(first|replace aj:=aj|replace aG:=aG|replace aP:=aP|replace bk:=bk);go_at_call 8|(first|replace bz:=bz|replace cE:=cE|replace dU:=dU|replace gu:=gu|replace E8:=E8|replace E7:=E7|replace Cb:=Cb|replace UY:=UY);go_at_call 9);(with_reducible refine(HF.out).mono ?_);rintro e w1 ⟨rfl,hb⟩;have BX:=J ((ai.new w 38 bC).below hb (by simp));have HB:=J (((zg w.heap.size w).alloc (za _) (.cells bC 38)).trans (hb.mono (by simp)));obtain⟨c0,c1,c2,c3,c4,c5,c6,c7,c8,c9,c10⟩:=ah BX.out;obtain⟨f0,f1,f2,f3,f4,f5,f6,f7,f8,f9,ox⟩:=aO BX.out;clear hb)
  obtain⟨z0,z1,z2,z3,z4,z5,z6,z7,z8,z9,cF⟩:=ah (aK (r:=q) BX.out);unfold cD at z0 z1 z2 z3 z4 z5 z6 z7 z8 z9 cF;refine zi (v:=eM (q)) (by simp [results,results14,go_sem,z0,z1,z2,z3,z4,z5,z6,z7,z8,z9,cF]) rfl ⟨rfl,au HB.out (za _)⟩
def N7 a b c:=(bU a b c).1
def N8 a b c:=(bU a b c).2.1
def N9 a b c:=(bU a b c).2.2.1
def N_ a b c:=(bU a b c).2.2.2.1
def Ha a b c:=(bU a b c).2.2.2.2.1
def Hb a b c:=(bU a b c).2.2.2.2.2.1
def Hc a b c:=(bU a b c).2.2.2.2.2.2.1
def Hd a b c:=(bU a b c).2.2.2.2.2.2.2.1
def He a b c:=(bU a b c).2.2.2.2.2.2.2.2.1
def Hf a b c:=(bU a b c).2.2.2.2.2.2.2.2.2.1
def Hg a b c:=(bU a b c).2.2.2.2.2.2.2.2.2.2.1
def Hh a b c:=(bU a b c).2.2.2.2.2.2.2.2.2.2.2
theorem jl(x y:Fl)(v:Value)(w:World)(hN:NF w w.heap.size v [x,y]):(∀(h1:aW [x,y] [2,2]=true),Calls prog 14 #[.string ⟨#[61]⟩,v] w (aq (aE (x.i==y.i)) w))∧(∀(h0:aW [x,y] [2,2]=false) (h1:aW [x,y] [4,4]=true),Calls prog 14 #[.string ⟨#[61]⟩,v] w (aq (aE (decide (x.t=y.t))) w))∧(∀(h1:aW [x,y] [2,2]=true),Calls prog 14 #[.string ⟨#[60,62]⟩,v] w (aq (aE (!(x.i==y.i))) w))∧(∀(h0:aW [x,y] [2,2]=false) (h1:aW [x,y] [4,4]=true),Calls prog 14 #[.string ⟨#[60,62]⟩,v] w (aq (aE (!decide (x.t=y.t))) w)):=by
 refine⟨?_,?_,?_,?_⟩;intro h1;have aj:=J (rfl:0=0)
 rotate_left;intro h0 h1;have aG:=J (rfl:0=0)
 rotate_left;intro h1;have aP:=J (rfl:0=0)
 rotate_left;intro h0 h1;have bk:=J (rfl:0=0)
 all_goals
  obtain⟨W,hW⟩: ∃W,(w.alloc (.cells bC 38)).alloc (.cells #[.int .i64 2, .int .i64 2] 23)=W:=⟨_,rfl⟩;have dD:=J (show Below w.heap.size w W by rw [←hW];exact aA _ _ _)
  have HZ:=J (show ai W w.heap.size 38 bC by rw [←hW];exact(ai.new _ _ _).alloc _)
  have HA:=J (ip [x,y] [2,2] _ w W (w.heap.size+1) 2 23 #[.int .i64 2, .int .i64 2] hN dD.out (by rw [←hW];exact am (by simp) _ _) rfl rfl (by decide))
  first
   |(first|replace aj:=aj|replace aP:=aP)
    rw [h1]at HA
   |have tq:=J (fun w1 (hb:Below w.heap.size w w1)=>mb [x,y] [4,4] _ w w1 2 23 #[.int .i64 4, .int .i64 4] hN hb rfl rfl (by decide))
    rw [h0]at HA;rw [h1]at tq
  obtain⟨ad,nc,rfl,hA,tc⟩:=ud hN;have HT:=J (fun b w=>pY b w)
  first
   |(first|replace aj:=aj|replace aP:=aP)
    obtain⟨q,hq⟩: ∃q,(x.i==y.i)=q:=⟨_,rfl⟩
   |obtain⟨q,hq⟩: ∃q,decide (x.t=y.t)=q:=⟨_,rfl⟩
    have vw:(x.t==y.t)=q:=by rw [←hq];by_cases h:x.t=y.t<;>simp [h]
  rw [hq];unfold aq at *
  first
   |(first|replace aj:=aj|replace aP:=aP)
    clear hN h1
   |clear hN h1 h0 hq
  go_enter func14,ntmps14
  first
   |(first|replace aj:=aj|replace aP:=aP)
    go_upto_region 21 with(go_at_call 10;(with_reducible refine(HA.out).mono ?_);rintro e w1 ⟨rfl,hb⟩;have jB:=J (dD.out.trans (hb.mono dD.out.size));have pG:=J (HZ.out.below hb HZ.out.lt);have a3:=(hA.below jB.out).1;have b3:=(tc.below jB.out).1;clear hb)
    clear hW hA tc
   |go_upto_region 20 with fail
    go_upto_region 22 with(go_at_call 10;(with_reducible refine(HA.out).mono ?_);rintro e w1 ⟨rfl,hb⟩;have jB:=J (dD.out.trans (hb.mono dD.out.size));have pG:=J (HZ.out.below hb HZ.out.lt);skip;clear hb)
    clear hW;go_upto_region 23 with(go_at_call 10;(with_reducible refine(tq.out _ jB.out).mono ?_);rintro e w2 ⟨rfl,hb⟩;have Fp:=J (jB.out.trans (hb.mono jB.out.size));have VR:=J (pG.out.below hb pG.out.lt);have a5:=(hA.below Fp.out).2.2;have b5:=(tc.below Fp.out).2.2;clear hb)
    clear hA tc
  go_quiet (fail)
  first
   |(first|replace aj:=aj|replace aP:=aP)
    have bp:=J (below_drewN jB.out nq);have rJ:=J (pG.out.drewN nq)
   |have bp:=J (below_drewN Fp.out nq)
    have rJ:=J (VR.out.drewN nq)
  go_wp2_with (go_at_call 40;(((first|(first|replace aj:=aj|replace aG:=aG);with_reducible refine(HT.out q _).mono ?_|(first|replace aP:=aP|replace bk:=bk);with_reducible refine(HT.out (!q) _).mono ?_));rintro e w5 ⟨rfl,hb⟩;have BX:=J (rJ.out.below hb rJ.out.lt);have HB:=J (bp.out.trans (hb.mono bp.out.size));obtain⟨c0,c1,c2,c3,c4,c5,c6,c7,c8,c9,c10⟩:=ah BX.out;obtain⟨f0,f1,f2,f3,f4,f5,f6,f7,f8,f9,ox⟩:=aO BX.out;clear hb))
  first
   |(first|replace aj:=aj|replace aG:=aG)
    obtain⟨z0,z1,z2,z3,z4,z5,z6,z7,z8,z9,cF⟩:=ah (aK (r:=aE q) BX.out)
   |obtain⟨z0,z1,z2,z3,z4,z5,z6,z7,z8,z9,cF⟩:=ah (aK (r:=aE (!q)) BX.out)
  unfold cD at z0 z1 z2 z3 z4 z5 z6 z7 z8 z9 cF
  first
   |(first|replace aj:=aj|replace aG:=aG)
    refine zi (v:=eM (aE q)) (by simp [results,results14,go_sem,z0,z1,z2,z3,z4,z5,z6,z7,z8,z9,cF]) rfl ⟨rfl,au HB.out (za _)⟩
   |refine zi (v:=eM (aE (!q))) (by simp [results,results14,go_sem,z0,z1,z2,z3,z4,z5,z6,z7,z8,z9,cF]) rfl ⟨rfl,au HB.out (za _)⟩
def Pa a b c d e:=(jl a b c d e).1
def Pb a b c d e:=(jl a b c d e).2.1
def Pc a b c d e:=(jl a b c d e).2.2.1
def Pd a b c d e:=(jl a b c d e).2.2.2
theorem qP(L:List Fl)(v:Value)(w:World)(hN:NF w w.heap.size v L)(h0:aW L [2,2]=false)(h1:aW L [4,4]=false):(Calls prog 14 #[.string ⟨#[61]⟩,v] w (aq .no w))∧(Calls prog 14 #[.string ⟨#[60,62]⟩,v] w (aq .no w)):=by
 refine⟨?_,?_⟩
 all_goals
  obtain⟨W,hW⟩: ∃W,(w.alloc (.cells bC 38)).alloc (.cells #[.int .i64 2, .int .i64 2] 23)=W:=⟨_,rfl⟩;have dD:=J (show Below w.heap.size w W by rw [←hW];exact aA _ _ _)
  have HZ:=J (show ai W w.heap.size 38 bC by rw [←hW];exact(ai.new _ _ _).alloc _)
  have HA:=J (ip L [2,2] _ w W (w.heap.size+1) 2 23 #[.int .i64 2, .int .i64 2] hN dD.out (by rw [←hW];exact am (by simp) _ _) rfl rfl (by decide))
  have tq:=J (fun w1 (hb:Below w.heap.size w w1)=>mb L [4,4] _ w w1 2 23 #[.int .i64 4, .int .i64 4] hN hb rfl rfl (by decide))
  rw [h0]at HA;rw [h1]at tq;obtain⟨NA,nc,rfl,_,_⟩:=hN.len;unfold aq at *;clear hN h1 h0;go_enter func14,ntmps14;go_upto_region 20 with fail
  go_upto_region 22 with(go_at_call 10;(with_reducible refine(HA.out).mono ?_);rintro e w1 ⟨rfl,hb⟩;have jB:=J (dD.out.trans (hb.mono dD.out.size));have pG:=J (HZ.out.below hb HZ.out.lt);skip;clear hb)
  clear hW;go_upto_region 19 with(go_at_call 10;(with_reducible refine(tq.out _ jB.out).mono ?_);rintro e w2 ⟨rfl,hb⟩;have Fp:=J (jB.out.trans (hb.mono jB.out.size));have VR:=J (pG.out.below hb pG.out.lt);have BX:=J VR.out;have HB:=J Fp.out;obtain⟨c0,c1,c2,c3,c4,c5,c6,c7,c8,c9,c10⟩:=ah BX.out;obtain⟨f0,f1,f2,f3,f4,f5,f6,f7,f8,f9,ox⟩:=aO BX.out;clear hb)
  go_wp2_with fail
  obtain⟨z0,z1,z2,z3,z4,z5,z6,z7,z8,z9,cF⟩:=ah (aK (r:= .no) BX.out);unfold cD at z0 z1 z2 z3 z4 z5 z6 z7 z8 z9 cF;simp only [rk,ri,rb,rt,rc,ro]at z0 z1 z2 z3 z4 z5 z6 z7 z8 z9 cF;refine zi (v:= .agg bC) (by simp [results,results14,go_sem,z0,z1,z2,z3,z4,z5,z6,z7,z8,z9,cF]) rfl ⟨rfl,au (r:= .no) HB.out (za _)⟩
def Pe a b c d e f:=(qP a b c d e f).1
def Pf a b c d e f:=(qP a b c d e f).2
theorem sL(S:List UInt8)(hS:S≠[100,105,118]∧S≠[109,111,100]∧S≠[113,117,111,116]∧S≠[114,101,109]∧S≠[47]∧S≠[115,97,109,101]∧S≠[102,108,111,111,114]∧S≠[99,101,105,108]∧S≠[116,114,117,110,99]∧S≠[114,111,117,110,100]∧S≠[105,115,78,97,110]∧S≠[114,101,97,108,84,101,120,116]∧S≠[61]∧S≠[60,62]):(∀(x:Fl) (v:Value) (w:World) (hE:gV w) (hN:NF w w.heap.size v [x]) (h1:aW [x] [2]=true),Calls prog 14 #[.string ⟨S.toArray⟩,v] w (aq (oU S x.i) w))∧(∀(L:List Fl) (v:Value) (w:World) (hN:NF w w.heap.size v L) (h1:aW L [2]=false),Calls prog 14 #[.string ⟨S.toArray⟩,v] w (aq (lJ S L) w)):=by
 refine⟨?_,?_⟩;intro x v w hE hN h1;have aj:=J (rfl:0=0)
 rotate_left;intro L v w hN h1;have aG:=J (rfl:0=0)
 all_goals
  have s0:(S==[100,105,118])=false:=zf.2 hS.1;have s1:(S==[109,111,100])=false:=zf.2 hS.2.1;have s2:(S==[113,117,111,116])=false:=zf.2 hS.2.2.1;have s3:(S==[114,101,109])=false:=zf.2 hS.2.2.2.1;have s4:(S==[47])=false:=zf.2 hS.2.2.2.2.1;have s5:(S==[115,97,109,101])=false:=zf.2 hS.2.2.2.2.2.1;have s6:(S==[102,108,111,111,114])=false:=zf.2 hS.2.2.2.2.2.2.1;have s7:(S==[99,101,105,108])=false:=zf.2 hS.2.2.2.2.2.2.2.1;have s8:(S==[116,114,117,110,99])=false:=zf.2 hS.2.2.2.2.2.2.2.2.1;have s9:(S==[114,111,117,110,100])=false:=zf.2 hS.2.2.2.2.2.2.2.2.2.1;have s10:(S==[105,115,78,97,110])=false:=zf.2 hS.2.2.2.2.2.2.2.2.2.2.1;have s11:(S==[114,101,97,108,84,101,120,116])=false:=zf.2 hS.2.2.2.2.2.2.2.2.2.2.2.1;have s12:(S==[61])=false:=zf.2 hS.2.2.2.2.2.2.2.2.2.2.2.2.1;have s13:(S==[60,62])=false:=zf.2 hS.2.2.2.2.2.2.2.2.2.2.2.2.2;obtain⟨W,hW⟩: ∃W,(w.alloc (.cells bC 38)).alloc (.cells #[.int .i64 2] 23)=W:=⟨_,rfl⟩;have dD:=J (show Below w.heap.size w W by rw [←hW];exact aA _ _ _)
  have HZ:=J (show ai W w.heap.size 38 bC by rw [←hW];exact(ai.new _ _ _).alloc _)
  first
   |replace aj:=aj
    have HA:=J (ip [x] [2] _ w W (w.heap.size+1) 1 23 #[.int .i64 2] hN dD.out (by rw [←hW];exact am (by simp) _ _) rfl rfl (by decide))
   |have HA:=J (ip L [2] _ w W (w.heap.size+1) 1 23 #[.int .i64 2] hN dD.out (by rw [←hW];exact am (by simp) _ _) rfl rfl (by decide))
  rw [h1]at HA
  first
   |replace aj:=aj
    obtain⟨x',yb,hx⟩:=kP h1;obtain rfl:x=x':=by injection yb
    have HF:=J (fun w1 (hb:Below w.heap.size w w1)=>Uo S x.i (nG hx) w1 (hE.below hb (za _)))
    obtain⟨ad,nc,rfl,hA⟩:=BK hN;generalize oU S x.i=q at *
   |have HF:=J (fun w1 (hb:Below w.heap.size w w1)=>Uk S L v w1 (hN.below hb))
    obtain⟨NA,nc,rfl,_,_⟩:=hN.len;generalize lJ S L=q at *
  unfold aq at *
  first
   |replace aj:=aj
    clear hN h1 hx yb hE hS
   |clear hN h1 hS
  go_enter func14,ntmps14;go_upto_region 25 with fail
  first
   |replace aj:=aj
    go_upto_region 26 with(go_at_call 10;(with_reducible refine(HA.out).mono ?_);rintro e w1 ⟨rfl,hb⟩;have jB:=J (dD.out.trans (hb.mono dD.out.size));have pG:=J (HZ.out.below hb HZ.out.lt);have a3:=(hA.below jB.out).1;clear hb)
    clear hW hA
   |go_upto_region 27 with(go_at_call 10;(with_reducible refine(HA.out).mono ?_);rintro e w1 ⟨rfl,hb⟩;have jB:=J (dD.out.trans (hb.mono dD.out.size));have pG:=J (HZ.out.below hb HZ.out.lt);skip;clear hb)
    clear hW
  go_wp2_with ((first|replace aj:=aj;go_at_call 52|replace aG:=aG;go_at_call 53);(with_reducible refine(HF.out _ jB.out).mono ?_);rintro e w5 ⟨rfl,hb⟩;have BX:=J (pG.out.below hb pG.out.lt);have HB:=J (jB.out.trans (hb.mono jB.out.size));obtain⟨c0,c1,c2,c3,c4,c5,c6,c7,c8,c9,c10⟩:=ah BX.out;obtain⟨f0,f1,f2,f3,f4,f5,f6,f7,f8,f9,ox⟩:=aO BX.out;clear hb)
  obtain⟨z0,z1,z2,z3,z4,z5,z6,z7,z8,z9,cF⟩:=ah (aK (r:=q) BX.out);unfold cD at z0 z1 z2 z3 z4 z5 z6 z7 z8 z9 cF;refine zi (v:=eM (q)) (by simp [results,results14,go_sem,z0,z1,z2,z3,z4,z5,z6,z7,z8,z9,cF]) rfl ⟨rfl,au HB.out (za _)⟩
def Up a b:=(sL a b).1
def Uq a b:=(sL a b).2
theorem El(S:List UInt8)(L:List Fl)(v:Value)(w:World)(hE:gV w)(hb: ∀t∈L,0≤t.b∧t.b<2^64)(hN:NF w w.heap.size v L):Calls prog 14 #[.string ⟨S.toArray⟩,v] w (aq (lK S L) w):=by
 unfold lK
 by_cases i0:S=[100,105,118]
 ·subst i0;rw [zh (by simp)];exact N7 L v w hN
 by_cases i1:S=[109,111,100]
 ·subst i1;rw [zh (by simp)];exact N8 L v w hN
 by_cases i2:S=[113,117,111,116]
 ·subst i2;rw [zh (by simp)];exact N9 L v w hN
 by_cases i3:S=[114,101,109]
 ·subst i3;rw [zh (by simp)];exact N_ L v w hN
 rw [ze (by simp [i0,i1,i2,i3])]
 by_cases r0:S=[47]
 ·subst r0;rw [zh (by simp)];exact Ha L v w hE hb hN
 by_cases r1:S=[115,97,109,101]
 ·subst r1;rw [zh (by simp)];exact Hb L v w hE hb hN
 by_cases r2:S=[102,108,111,111,114]
 ·subst r2;rw [zh (by simp)];exact Hc L v w hE hb hN
 by_cases r3:S=[99,101,105,108]
 ·subst r3;rw [zh (by simp)];exact Hd L v w hE hb hN
 by_cases r4:S=[116,114,117,110,99]
 ·subst r4;rw [zh (by simp)];exact He L v w hE hb hN
 by_cases r5:S=[114,111,117,110,100]
 ·subst r5;rw [zh (by simp)];exact Hf L v w hE hb hN
 by_cases r6:S=[105,115,78,97,110]
 ·subst r6;rw [zh (by simp)];exact Hg L v w hE hb hN
 by_cases r7:S=[114,101,97,108,84,101,120,116]
 ·subst r7;rw [zh (by simp)];exact Hh L v w hE hb hN
 rw [ze (by simp [r0,r1,r2,r3,r4,r5,r6,r7])]
 by_cases e0:S=[61]
 ·subst e0
  rw [zh (by simp)]
  cases h1:aW L [2,2]with
  |true=>
   obtain⟨x,y,rfl,_⟩:=eG h1;have h:=Pa x y v w hN h1
   simpa [a0,a1]using h
  |false=>
   cases h2:aW L [4,4]with
   |true=>
    obtain⟨x,y,rfl,_⟩:=eG h2;have h:=Pb x y v w hN h1 h2
    simpa [a0,a1]using h
   |false=>simpa using Pe L v w hN h1 h2
 by_cases e1:S=[60,62]
 ·subst e1
  rw [zh (by simp)]
  cases h1:aW L [2,2]with
  |true=>
   obtain⟨x,y,rfl,_⟩:=eG h1;have h:=Pc x y v w hN h1
   simpa [a0,a1]using h
  |false=>
   cases h2:aW L [4,4]with
   |true=>
    obtain⟨x,y,rfl,_⟩:=eG h2;have h:=Pd x y v w hN h1 h2
    simpa [a0,a1]using h
   |false=>simpa using Pf L v w hN h1 h2
 rw [ze (by simp [e0,e1])]
 cases h1:aW L [2]with
 |true=>
  obtain⟨x,rfl,_⟩:=kP h1;have h:=Up S ⟨i0,i1,i2,i3,r0,r1,r2,r3,r4,r5,r6,r7,e0,e1⟩ x v w hE hN h1
  simpa [a0]using h
 |false=>simpa using Uq S ⟨i0,i1,i2,i3,r0,r1,r2,r3,r4,r5,r6,r7,e0,e1⟩ L v w hN h1
end Go.Proofs.YtcpmiplofbfmfaaGreatDoor
