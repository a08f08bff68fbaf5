/- Shrink: the reference's primitives of texts: of texts. -/
import Derived.Test.YtcpmiplofbfmfaaGreatDoorA40
set_option linter.all false
set_option maxRecDepth 100000
set_option maxHeartbeats 4000000
namespace Go.Proofs.YtcpmiplofbfmfaaGreatDoor
open Go.Proofs.Tryz
open Go.Lib renaming hid→J
open Go.RowKit LamM CpsM FloM ShrM
theorem EI{w:World}{B:Nat}{v:Value}{x y z:At}(h:VL w B v [x,y,z]): ∃ad c,v= .slice (some ad) 3 c∧ad.block<B∧qQ w ad (dT x)∧qQ w ⟨ad.block,ad.off+7,none⟩ (dT y)∧qQ w ⟨ad.block,ad.off+14,none⟩ (dT z):=by
 obtain⟨A,c,rfl,_,_⟩:=h.len;obtain⟨ad,rfl,hb,h0⟩:=h.at_ (i:=0) rfl;obtain⟨QQ,e,_,h1⟩:=h.at_ (i:=1) rfl;injection e with e
 subst e;obtain⟨QQ,e,_,h2⟩:=h.at_ (i:=2) rfl;injection e with e
 subst e;rw [Zk,ZV]at h0;rw [zP,aB ad (by decide)]at h1
 rw [aB ad (by decide)]at h2
 exact⟨ad,c,rfl,hb,h0,h1,h2⟩
theorem EJ(mv:Value)(con ab:Int)(ty rv v:Value)(s:List UInt8)(hs:s.length≤65536)(w:World)(hV:VL w w.heap.size v [.str s]):Calls prog 64 #[mv, .agg #[.string ⟨#[115,105,122,101]⟩, .int .i64 con, .int .i64 ab,ty,rv],v] w (aD (.int (s.length:Int)) w):=by
 obtain⟨ad,c,rfl,bJ,hX⟩:=mf hV;obtain⟨W,hW⟩: ∃W,((w.alloc (.cells #[.string ⟨#[115,105,122,101]⟩, .int .i64 con, .int .i64 ab,ty,rv] 36)).alloc (.cells aL 49)).alloc (.cells #[.int .i64 3] 3)=W:=⟨_,rfl⟩;have bi:=J (show Below w.heap.size w W by rw [←hW];exact cA _ _ _ _)
 have HP:=J (show ai W w.heap.size 36 #[.string ⟨#[115,105,122,101]⟩, .int .i64 con, .int .i64 ab,ty,rv]by rw [←hW];exact((ai.new _ _ _).alloc _).alloc _)
 have HZ:=J (show ai W (w.heap.size+1) 49 aL by rw [←hW];exact(am (by simp) _ _).alloc _)
 have p0:=HP.out.c0;have p9:((w.alloc (.cells #[.string ⟨#[115,105,122,101]⟩, .int .i64 con, .int .i64 ab,ty,rv] 36)).alloc (.cells aL 49)).cell? ⟨w.heap.size,0,none⟩=some (.string ⟨#[115,105,122,101]⟩):=((ai.new _ _ _).alloc _).cell 0;have HK:=J (bG [.str s] [3] _ w W (w.heap.size+2) 1 3 #[.int .i64 3] hV (za _) (by decide) bi.out (by rw [←hW];exact am (by simp) _ _) rfl rfl (by decide))
 rw [show aQ [.str s] [3]=true from rfl]at HK
 have x3:W.cell? ⟨ad.block,ad.off+3,none⟩=some (.string ⟨s.toArray⟩):=(hX.below bJ bi.out).2.2.2;have dq:=eA s;have hw:IntKind.i64.wrap (s.length:Int)=(s.length:Int):=Zs _ (by omega)
 have HT:=J (fun w=>vS (s.length:Int) w)
 unfold aD b_ at *;clear hV hX hs;go_enter func64,ntmps64;go_wp2_with (first|(go_at_call 57;(with_reducible refine(HK.out).mono ?_);rintro e w1 ⟨rfl,dn,rfl⟩)|(go_at_call 115;(with_reducible refine(HT.out _).mono ?_);rintro e w5 ⟨rfl,hb⟩;have BX:=J ((HZ.out.drewN dn).below hb HZ.out.lt);have HB:=J ((below_drewN bi.out dn).trans (hb.mono bi.out.size));obtain⟨c0,c1,c2,c3,c4,c5,c6⟩:=ae BX.out;obtain⟨f0,f1,f2,f3,f4,f5,f6⟩:=ar BX.out;clear hb))
 obtain⟨z0,z1,z2,z3,z4,z5,z6⟩:=ae (aF (r:= .int (s.length:Int)) BX.out);unfold aR at z0 z1 z2 z3 z4 z5 z6;refine zi (v:= .tuple #[aY (.int (s.length:Int)), .int .i64 0]) (by simp [results,results64,go_sem,z0,z1,z2,z3,z4,z5,z6]) rfl ⟨rfl,az (r:= .int (s.length:Int)) HB.out (zl _ 1)⟩
theorem pi(mv:Value)(con ab:Int)(ty rv v:Value)(s t:List UInt8)(hs:s.length≤65536)(ht:t.length≤65536):(∀(h:s.length+t.length≤65536) (w:World) (hV:VL w w.heap.size v [.str s, .str t]),Calls prog 64 #[mv, .agg #[.string ⟨#[94]⟩, .int .i64 con, .int .i64 ab,ty,rv],v] w (aD (.str (s++t)) w))∧(∀(h: ¬s.length+t.length≤65536) (w:World) (hV:VL w w.heap.size v [.str s, .str t]),Calls prog 64 #[mv, .agg #[.string ⟨#[94]⟩, .int .i64 con, .int .i64 ab,ty,rv],v] w (aD (.raise 7) w)):=by
 refine⟨?_,?_⟩
 all_goals intro h w hV
 have aj:=J (rfl:0=0)
 all_goals
  obtain⟨ad,c,rfl,bJ,hX,hY⟩:=jH hV;obtain⟨W,hW⟩: ∃W,((w.alloc (.cells #[.string ⟨#[94]⟩, .int .i64 con, .int .i64 ab,ty,rv] 36)).alloc (.cells aL 49)).alloc (.cells #[.int .i64 3, .int .i64 3] 3)=W:=⟨_,rfl⟩;have bi:=J (show Below w.heap.size w W by rw [←hW];exact cA _ _ _ _)
  have HP:=J (show ai W w.heap.size 36 #[.string ⟨#[94]⟩, .int .i64 con, .int .i64 ab,ty,rv]by rw [←hW];exact((ai.new _ _ _).alloc _).alloc _)
  have HZ:=J (show ai W (w.heap.size+1) 49 aL by rw [←hW];exact(am (by simp) _ _).alloc _)
  have p0:=HP.out.c0;have p9:((w.alloc (.cells #[.string ⟨#[94]⟩, .int .i64 con, .int .i64 ab,ty,rv] 36)).alloc (.cells aL 49)).cell? ⟨w.heap.size,0,none⟩=some (.string ⟨#[94]⟩):=((ai.new _ _ _).alloc _).cell 0;have HK:=J (bG [.str s, .str t] [3,3] _ w W (w.heap.size+2) 2 3 #[.int .i64 3, .int .i64 3] hV (za _) (by decide) bi.out (by rw [←hW];exact am (by simp) _ _) rfl rfl (by decide))
  rw [show aQ [.str s, .str t] [3,3]=true from rfl]at HK
  have hZs:W.heap.size=w.heap.size+3:=by rw [←hW];simp
  have HF:=J (fun dn=>TJ (w.heap.size+3) 2 s t hs ht ((W.drewN (dn+1)).alloc (.cells #[.string ⟨s.toArray⟩, .string ⟨t.toArray⟩] 9)) ((am (W:=W.drewN (dn+1)) hZs _ _).cell 0) ((am (W:=W.drewN (dn+1)) hZs _ _).cell 1))
  have Ci:=J (fun dn=>show Below w.heap.size w ((W.drewN (dn+1)).alloc (.cells #[.string ⟨s.toArray⟩, .string ⟨t.toArray⟩] 9))from(below_drewN bi.out (dn+1)).alloc bi.out.size _)
  have HZA:=J (fun dn=>show ai ((W.drewN (dn+1)).alloc (.cells #[.string ⟨s.toArray⟩, .string ⟨t.toArray⟩] 9)) (w.heap.size+1) 49 aL from(HZ.out.drewN (dn+1)).alloc _)
  first
   |replace aj:=aj
    simp only [zh h]at HF;have HT:=J (fun w=>mP (s++t) w)
    generalize s++t=q at *;unfold ju aD b_ at *
   |simp only [ze h]at HF
    unfold ju aD at *
  have QV:=J (fun dn=>show(W.drewN dn).drew.cell? ⟨ad.block,ad.off+3,none⟩=some (.string ⟨s.toArray⟩)∧(W.drewN dn).drew.cell? ⟨ad.block,ad.off+7+3,none⟩=some (.string ⟨t.toArray⟩)from⟨(hX.below bJ bi.out).2.2.2,(hY.below (p:=⟨ad.block,ad.off+7,none⟩) bJ bi.out).2.2.2⟩)
  have HK9:=J (fun dn=>show(W.drewN (dn+1)).cell? ⟨ad.block,ad.off+3,none⟩=some (.string ⟨s.toArray⟩)∧(W.drewN (dn+1)).cell? ⟨ad.block,ad.off+7+3,none⟩=some (.string ⟨t.toArray⟩)from⟨(hX.below bJ bi.out).2.2.2,(hY.below (p:=⟨ad.block,ad.off+7,none⟩) bJ bi.out).2.2.2⟩)
  have HXW:=J (fun w5 (hb:Below w.heap.size w w5)=>show w5.cell? ⟨ad.block,ad.off+3,none⟩=some (.string ⟨s.toArray⟩)∧w5.cell? ⟨ad.block,ad.off+7+3,none⟩=some (.string ⟨t.toArray⟩)from⟨(hX.below bJ hb).2.2.2,(hY.below (p:=⟨ad.block,ad.off+7,none⟩) bJ hb).2.2.2⟩)
  clear hV hX hY hs ht h;go_enter func64,ntmps64;go_upto_region 24 with(go_at_call 57;(with_reducible refine(HK.out).mono ?_);rintro e w1 ⟨rfl,dn,rfl⟩;have K0:=J (QV.out dn);have K9:=J (HK9.out dn);have K1:=J (HXW.out _ (Ci.out dn)))
  go_region_held3 (fun w'=>w'.cell? ⟨ad.block,ad.off+3,none⟩=some (.string ⟨s.toArray⟩)∧w'.cell? ⟨ad.block,ad.off+7+3,none⟩=some (.string ⟨t.toArray⟩)) (first|with_reducible exact K0.out|with_reducible exact K9.out|with_reducible exact K1.out|with_reducible exact K5.out|go_keep)
   (first|(go_at_call 122;(with_reducible refine(HF.out dn).mono ?_);rintro e w4 ⟨rfl,hb⟩;have ce:=J ((Ci.out dn).trans (hb.mono (Ci.out dn).size));have tv:=J ((HZA.out dn).below hb (HZA.out dn).lt);have K5:=J (HXW.out w4 ce.out);clear hb))
  have HB:=J ce.out;have BX:=J tv.out;obtain⟨c0,c1,c2,c3,c4,c5,c6⟩:=ae BX.out;obtain⟨f0,f1,f2,f3,f4,f5,f6⟩:=ar BX.out
  first
   |replace aj:=aj
    go_wp2_with (go_at_call 110;(with_reducible refine(HT.out _).mono ?_);rintro e w5 ⟨rfl,hb⟩;have BX:=J (tv.out.below hb tv.out.lt);have HB:=J (ce.out.trans (hb.mono ce.out.size));obtain⟨c0,c1,c2,c3,c4,c5,c6⟩:=ae BX.out;obtain⟨f0,f1,f2,f3,f4,f5,f6⟩:=ar BX.out;clear hb)
    obtain⟨z0,z1,z2,z3,z4,z5,z6⟩:=ae (aF (r:= .str q) BX.out)
   |go_wp2_with fail
    obtain⟨z0,z1,z2,z3,z4,z5,z6⟩:=ae (aF (r:= .raise 7) BX.out)
  unfold aR at z0 z1 z2 z3 z4 z5 z6
  first
   |replace aj:=aj
    refine zi (v:= .tuple #[aY (.str q), .int .i64 0]) (by simp [results,results64,go_sem,z0,z1,z2,z3,z4,z5,z6]) rfl ⟨rfl,az (r:= .str q) HB.out (zl _ 1)⟩
   |simp only [eP,ri,rb,rt]at z0 z1 z2 z3 z4 z5 z6
    refine zi (v:= .tuple #[aY (.raise 7), .int .i64 7]) (by simp [results,results64,go_sem,eP,ri,rb,rt,z0,z1,z2,z3,z4,z5,z6]) rfl ⟨rfl,az (r:= .raise 7) HB.out (zl _ 1)⟩
def Jr a b c d e f g h i j:=(pi a b c d e f g h i j).1
def BZ a b c d e f g h i j:=(pi a b c d e f g h i j).2
theorem pj(mv:Value)(con ab:Int)(ty rv v:Value)(s:List UInt8)(i:Int)(hs:s.length≤65536):(∀(h:(0≤i∧i<(s.length:Int))) (w:World) (hV:VL w w.heap.size v [.str s, .int i]),Calls prog 64 #[mv, .agg #[.string ⟨#[115,117,98]⟩, .int .i64 con, .int .i64 ab,ty,rv],v] w (aD (.int ((s.getD i.toNat 0).toNat:Int)) w))∧(∀(h: ¬(0≤i∧i<(s.length:Int))) (w:World) (hV:VL w w.heap.size v [.str s, .int i]),Calls prog 64 #[mv, .agg #[.string ⟨#[115,117,98]⟩, .int .i64 con, .int .i64 ab,ty,rv],v] w (aD (.raise 8) w)):=by
 refine⟨?_,?_⟩
 all_goals intro h w hV
 have aj:=J (rfl:0=0)
 all_goals
  obtain⟨ad,c,rfl,bJ,hX,hY⟩:=jH hV;obtain⟨W,hW⟩: ∃W,((w.alloc (.cells #[.string ⟨#[115,117,98]⟩, .int .i64 con, .int .i64 ab,ty,rv] 36)).alloc (.cells aL 49)).alloc (.cells #[.int .i64 3, .int .i64 1] 3)=W:=⟨_,rfl⟩;have bi:=J (show Below w.heap.size w W by rw [←hW];exact cA _ _ _ _)
  have HP:=J (show ai W w.heap.size 36 #[.string ⟨#[115,117,98]⟩, .int .i64 con, .int .i64 ab,ty,rv]by rw [←hW];exact((ai.new _ _ _).alloc _).alloc _)
  have HZ:=J (show ai W (w.heap.size+1) 49 aL by rw [←hW];exact(am (by simp) _ _).alloc _)
  have p0:=HP.out.c0;have p9:((w.alloc (.cells #[.string ⟨#[115,117,98]⟩, .int .i64 con, .int .i64 ab,ty,rv] 36)).alloc (.cells aL 49)).cell? ⟨w.heap.size,0,none⟩=some (.string ⟨#[115,117,98]⟩):=((ai.new _ _ _).alloc _).cell 0;have HK:=J (bG [.str s, .int i] [3,1] _ w W (w.heap.size+2) 2 3 #[.int .i64 3, .int .i64 1] hV (za _) (by decide) bi.out (by rw [←hW];exact am (by simp) _ _) rfl rfl (by decide))
  rw [show aQ [.str s, .int i] [3,1]=true from rfl]at HK
  have HF:=J (fun w=>adm s hs i w)
  first
   |replace aj:=aj
    simp only [zh h]at HF;have HT:=J (fun w=>vS ((s.getD i.toNat 0).toNat:Int) w)
    generalize((s.getD i.toNat 0).toNat:Int)=q at *;unfold R2 aD b_ at *
   |simp only [ze h]at HF
    unfold R2 aD at *
  dsimp only at HF;have QV:=J (fun dn=>show(W.drewN dn).drew.cell? ⟨ad.block,ad.off+3,none⟩=some (.string ⟨s.toArray⟩)∧(W.drewN dn).drew.cell? ⟨ad.block,ad.off+7+1,none⟩=some (.int .i64 i)from⟨(hX.below bJ bi.out).2.2.2,(hY.below (p:=⟨ad.block,ad.off+7,none⟩) bJ bi.out).2.1⟩)
  have HK9:=J (fun dn=>show(W.drewN (dn+1)).cell? ⟨ad.block,ad.off+3,none⟩=some (.string ⟨s.toArray⟩)∧(W.drewN (dn+1)).cell? ⟨ad.block,ad.off+7+1,none⟩=some (.int .i64 i)from⟨(hX.below bJ bi.out).2.2.2,(hY.below (p:=⟨ad.block,ad.off+7,none⟩) bJ bi.out).2.1⟩)
  clear hV hX hY hs h;go_enter func64,ntmps64;go_upto_region 31 with(go_at_call 57;(with_reducible refine(HK.out).mono ?_);rintro e w1 ⟨rfl,dn,rfl⟩;have K0:=J (QV.out dn);have K9:=J (HK9.out dn))
  go_region_held3 (fun w'=>w'.cell? ⟨ad.block,ad.off+3,none⟩=some (.string ⟨s.toArray⟩)∧w'.cell? ⟨ad.block,ad.off+7+1,none⟩=some (.int .i64 i)) (first|with_reducible exact K0.out|with_reducible exact K9.out|go_keep)
   (first|(go_at_call 123;(with_reducible refine(HF.out _).q ?_)))
  have ce:=J (below_drewN bi.out (dn+1));have tv:=J (HZ.out.drewN (dn+1));have HB:=J ce.out;have BX:=J tv.out;obtain⟨c0,c1,c2,c3,c4,c5,c6⟩:=ae HZ.out;obtain⟨f0,f1,f2,f3,f4,f5,f6⟩:=ar HZ.out
  first
   |replace aj:=aj
    go_wp2_with (go_at_call 115;(with_reducible refine(HT.out _).mono ?_);rintro e w5 ⟨rfl,hb⟩;have BX:=J (tv.out.below hb tv.out.lt);have HB:=J (ce.out.trans (hb.mono ce.out.size));obtain⟨c0,c1,c2,c3,c4,c5,c6⟩:=ae BX.out;obtain⟨f0,f1,f2,f3,f4,f5,f6⟩:=ar BX.out;clear hb)
    obtain⟨z0,z1,z2,z3,z4,z5,z6⟩:=ae (aF (r:= .int q) BX.out)
   |go_wp2_with fail
    obtain⟨z0,z1,z2,z3,z4,z5,z6⟩:=ae (aF (r:= .raise 8) BX.out)
  unfold aR at z0 z1 z2 z3 z4 z5 z6
  first
   |replace aj:=aj
    refine zi (v:= .tuple #[aY (.int q), .int .i64 0]) (by simp [results,results64,go_sem,z0,z1,z2,z3,z4,z5,z6]) rfl ⟨rfl,az (r:= .int q) HB.out (zl _ 1)⟩
   |simp only [eP,ri,rb,rt]at z0 z1 z2 z3 z4 z5 z6
    refine zi (v:= .tuple #[aY (.raise 8), .int .i64 8]) (by simp [results,results64,go_sem,eP,ri,rb,rt,z0,z1,z2,z3,z4,z5,z6]) rfl ⟨rfl,az (r:= .raise 8) HB.out (zl _ 1)⟩
def Js a b c d e f g h i:=(pj a b c d e f g h i).1
def B2 a b c d e f g h i:=(pj a b c d e f g h i).2
theorem pl(mv:Value)(con ab:Int)(ty rv v:Value)(s:List UInt8)(i m:Int)(hs:s.length≤65536)(hi:ax i=true)(hm:ax m=true):(∀(h:(0≤i∧0≤m∧i≤(s.length:Int)∧m≤(s.length:Int)-i)) (w:World) (hV:VL w w.heap.size v [.str s, .int i, .int m]),Calls prog 64 #[mv, .agg #[.string ⟨#[115,117,98,115,116,114,105,110,103]⟩, .int .i64 con, .int .i64 ab,ty,rv],v] w (aD (.str ((s.drop i.toNat).take m.toNat)) w))∧(∀(h: ¬(0≤i∧0≤m∧i≤(s.length:Int)∧m≤(s.length:Int)-i)) (w:World) (hV:VL w w.heap.size v [.str s, .int i, .int m]),Calls prog 64 #[mv, .agg #[.string ⟨#[115,117,98,115,116,114,105,110,103]⟩, .int .i64 con, .int .i64 ab,ty,rv],v] w (aD (.raise 8) w)):=by
 refine⟨?_,?_⟩
 all_goals intro h w hV
 have aj:=J (rfl:0=0)
 all_goals
  obtain⟨ad,c,rfl,bJ,hX,hY,hZZ⟩:=EI hV;obtain⟨W,hW⟩: ∃W,((w.alloc (.cells #[.string ⟨#[115,117,98,115,116,114,105,110,103]⟩, .int .i64 con, .int .i64 ab,ty,rv] 36)).alloc (.cells aL 49)).alloc (.cells #[.int .i64 3, .int .i64 1, .int .i64 1] 3)=W:=⟨_,rfl⟩;have bi:=J (show Below w.heap.size w W by rw [←hW];exact cA _ _ _ _)
  have HP:=J (show ai W w.heap.size 36 #[.string ⟨#[115,117,98,115,116,114,105,110,103]⟩, .int .i64 con, .int .i64 ab,ty,rv]by rw [←hW];exact((ai.new _ _ _).alloc _).alloc _)
  have HZ:=J (show ai W (w.heap.size+1) 49 aL by rw [←hW];exact(am (by simp) _ _).alloc _)
  have p0:=HP.out.c0;have p9:((w.alloc (.cells #[.string ⟨#[115,117,98,115,116,114,105,110,103]⟩, .int .i64 con, .int .i64 ab,ty,rv] 36)).alloc (.cells aL 49)).cell? ⟨w.heap.size,0,none⟩=some (.string ⟨#[115,117,98,115,116,114,105,110,103]⟩):=((ai.new _ _ _).alloc _).cell 0;have HK:=J (bG [.str s, .int i, .int m] [3,1,1] _ w W (w.heap.size+2) 3 3 #[.int .i64 3, .int .i64 1, .int .i64 1] hV (za _) (by decide) bi.out (by rw [←hW];exact am (by simp) _ _) rfl rfl (by decide))
  rw [show aQ [.str s, .int i, .int m] [3,1,1]=true from rfl]at HK
  have HF:=J (fun w=>ado s hs i m (bF hi).2 (bF hm).2 w)
  first
   |replace aj:=aj
    simp only [zh h]at HF;have HT:=J (fun w=>mP ((s.drop i.toNat).take m.toNat) w)
    generalize(s.drop i.toNat).take m.toNat=q at *;unfold ju aD b_ at *
   |simp only [ze h]at HF
    unfold ju aD at *
  have HXW:=J (fun w5 (hb:Below w.heap.size w w5)=>show w5.cell? ⟨ad.block,ad.off+3,none⟩=some (.string ⟨s.toArray⟩)∧w5.cell? ⟨ad.block,ad.off+7+1,none⟩=some (.int .i64 i)∧w5.cell? ⟨ad.block,ad.off+14+1,none⟩=some (.int .i64 m)from⟨(hX.below bJ hb).2.2.2,(hY.below (p:=⟨ad.block,ad.off+7,none⟩) bJ hb).2.1,(hZZ.below (p:=⟨ad.block,ad.off+14,none⟩) bJ hb).2.1⟩)
  clear hV hX hY hZZ hs h hi hm;go_enter func64,ntmps64;go_upto_region 36 with(go_at_call 57;(with_reducible refine(HK.out).mono ?_);rintro e w1 ⟨rfl,dn,rfl⟩;have bp:=J (below_drewN (below_drewN bi.out dn) 1);have K0:=J (show(W.drewN dn).drew.cell? ⟨ad.block,ad.off+3,none⟩=some (.string ⟨s.toArray⟩)∧(W.drewN dn).drew.cell? ⟨ad.block,ad.off+7+1,none⟩=some (.int .i64 i)∧(W.drewN dn).drew.cell? ⟨ad.block,ad.off+14+1,none⟩=some (.int .i64 m)from HXW.out _ bp.out))
  go_region_held3 (fun w'=>w'.cell? ⟨ad.block,ad.off+3,none⟩=some (.string ⟨s.toArray⟩)∧w'.cell? ⟨ad.block,ad.off+7+1,none⟩=some (.int .i64 i)∧w'.cell? ⟨ad.block,ad.off+14+1,none⟩=some (.int .i64 m)) (first|with_reducible exact K0.out|with_reducible exact K5.out|go_keep)
   (first|(go_at_call 124;(with_reducible refine(HF.out _).mono ?_);rintro e w4 ⟨rfl,hb⟩;have ce:=J (bp.out.trans (hb.mono bp.out.size));have tv:=J ((HZ.out.drewN dn).drew.below hb (HZ.out.drewN dn).drew.lt);have K5:=J (HXW.out w4 ce.out);clear hb))
  have HB:=J ce.out;have BX:=J tv.out;obtain⟨c0,c1,c2,c3,c4,c5,c6⟩:=ae BX.out;obtain⟨f0,f1,f2,f3,f4,f5,f6⟩:=ar BX.out
  first
   |replace aj:=aj
    go_wp2_with (go_at_call 110;(with_reducible refine(HT.out _).mono ?_);rintro e w5 ⟨rfl,hb⟩;have BX:=J (tv.out.below hb tv.out.lt);have HB:=J (ce.out.trans (hb.mono ce.out.size));obtain⟨c0,c1,c2,c3,c4,c5,c6⟩:=ae BX.out;obtain⟨f0,f1,f2,f3,f4,f5,f6⟩:=ar BX.out;clear hb)
    obtain⟨z0,z1,z2,z3,z4,z5,z6⟩:=ae (aF (r:= .str q) BX.out)
   |go_wp2_with fail
    obtain⟨z0,z1,z2,z3,z4,z5,z6⟩:=ae (aF (r:= .raise 8) BX.out)
  unfold aR at z0 z1 z2 z3 z4 z5 z6
  first
   |replace aj:=aj
    refine zi (v:= .tuple #[aY (.str q), .int .i64 0]) (by simp [results,results64,go_sem,z0,z1,z2,z3,z4,z5,z6]) rfl ⟨rfl,az (r:= .str q) HB.out (zl _ 1)⟩
   |simp only [eP,ri,rb,rt]at z0 z1 z2 z3 z4 z5 z6
    refine zi (v:= .tuple #[aY (.raise 8), .int .i64 8]) (by simp [results,results64,go_sem,eP,ri,rb,rt,z0,z1,z2,z3,z4,z5,z6]) rfl ⟨rfl,az (r:= .raise 8) HB.out (zl _ 1)⟩
def Jt a b c d e f g h i j k l:=(pl a b c d e f g h i j k l).1
def B3 a b c d e f g h i j k l:=(pl a b c d e f g h i j k l).2
set_option maxHeartbeats 14000000
theorem UE(x:At)(w:World):Calls prog 120 #[aY (dT x)] w fun e w'=>e= .returned (.bool (fT x))∧Below w.heap.size w w':=by
 cases x with
 |int n=>exact Ey n w
 |real b=>exact xy _ rfl w
 |str s=>exact xy _ rfl w
abbrev bQ(M:Nat)(v0 v1 v2 v3 v4 v5 v6 v7 v8:Value)(w:World):Prop:=ai w M 59 #[v0,v1,v2,v3,v4,v5,v6,v7,v8]
theorem cJ(M:Nat)(v0 v1 v2 v3 v4 v5 v6 v7 v8:Value)(con ab:Int)(ty rv v:Value):(∀(x:At) (h:aQ [x] [1]=false) (w:World) (hM:bQ M v0 v1 v2 v3 v4 v5 v6 v7 v8 w) (hV:VL w w.heap.size v [x]),Calls prog 64 #[.pointer (some ⟨M,0,none⟩), .agg #[.string ⟨#[114,101,97,108]⟩, .int .i64 con, .int .i64 ab,ty,rv],v] w (fun e w'=>e= .returned (.tuple #[aY .no, .int .i64 0])∧ai w' M 59 #[v0,v1,v2,v3,v4,v5,v6,v7, .int .i64 5]∧ap [M] w w'))∧(∀(x:At) (h:aQ [x] [1]=false) (w:World) (hM:bQ M v0 v1 v2 v3 v4 v5 v6 v7 v8 w) (hV:VL w w.heap.size v [x]),Calls prog 64 #[.pointer (some ⟨M,0,none⟩), .agg #[.string ⟨#[105,110,116,84,101,120,116]⟩, .int .i64 con, .int .i64 ab,ty,rv],v] w (fun e w'=>e= .returned (.tuple #[aY .no, .int .i64 0])∧ai w' M 59 #[v0,v1,v2,v3,v4,v5,v6,v7, .int .i64 5]∧ap [M] w w'))∧(∀(x:At) (h:aQ [x] [1]=false) (w:World) (hM:bQ M v0 v1 v2 v3 v4 v5 v6 v7 v8 w) (hV:VL w w.heap.size v [x]),Calls prog 64 #[.pointer (some ⟨M,0,none⟩), .agg #[.string ⟨#[99,104,114]⟩, .int .i64 con, .int .i64 ab,ty,rv],v] w (fun e w'=>e= .returned (.tuple #[aY .no, .int .i64 0])∧ai w' M 59 #[v0,v1,v2,v3,v4,v5,v6,v7, .int .i64 5]∧ap [M] w w'))∧(∀(x y:At) (h:aQ [x,y] [3,3]=false) (w:World) (hM:bQ M v0 v1 v2 v3 v4 v5 v6 v7 v8 w) (hV:VL w w.heap.size v [x,y]),Calls prog 64 #[.pointer (some ⟨M,0,none⟩), .agg #[.string ⟨#[94]⟩, .int .i64 con, .int .i64 ab,ty,rv],v] w (fun e w'=>e= .returned (.tuple #[aY .no, .int .i64 0])∧ai w' M 59 #[v0,v1,v2,v3,v4,v5,v6,v7, .int .i64 5]∧ap [M] w w'))∧(∀(x:At) (h:aQ [x] [3]=false) (w:World) (hM:bQ M v0 v1 v2 v3 v4 v5 v6 v7 v8 w) (hV:VL w w.heap.size v [x]),Calls prog 64 #[.pointer (some ⟨M,0,none⟩), .agg #[.string ⟨#[115,105,122,101]⟩, .int .i64 con, .int .i64 ab,ty,rv],v] w (fun e w'=>e= .returned (.tuple #[aY .no, .int .i64 0])∧ai w' M 59 #[v0,v1,v2,v3,v4,v5,v6,v7, .int .i64 5]∧ap [M] w w'))∧(∀(x y:At) (h:aQ [x,y] [3,1]=false) (w:World) (hM:bQ M v0 v1 v2 v3 v4 v5 v6 v7 v8 w) (hV:VL w w.heap.size v [x,y]),Calls prog 64 #[.pointer (some ⟨M,0,none⟩), .agg #[.string ⟨#[115,117,98]⟩, .int .i64 con, .int .i64 ab,ty,rv],v] w (fun e w'=>e= .returned (.tuple #[aY .no, .int .i64 0])∧ai w' M 59 #[v0,v1,v2,v3,v4,v5,v6,v7, .int .i64 5]∧ap [M] w w'))∧(∀(x y z:At) (h:aQ [x,y,z] [3,1,1]=false) (w:World) (hM:bQ M v0 v1 v2 v3 v4 v5 v6 v7 v8 w) (hV:VL w w.heap.size v [x,y,z]),Calls prog 64 #[.pointer (some ⟨M,0,none⟩), .agg #[.string ⟨#[115,117,98,115,116,114,105,110,103]⟩, .int .i64 con, .int .i64 ab,ty,rv],v] w (fun e w'=>e= .returned (.tuple #[aY .no, .int .i64 0])∧ai w' M 59 #[v0,v1,v2,v3,v4,v5,v6,v7, .int .i64 5]∧ap [M] w w')):=by
 unfold bQ;refine⟨?_,?_,?_,?_,?_,?_,?_⟩;intro x h w hM hV;have aj:=J (rfl:0=0)
 rotate_left;intro x h w hM hV;have aG:=J (rfl:0=0)
 rotate_left;intro x h w hM hV;have aP:=J (rfl:0=0)
 rotate_left;intro x y h w hM hV;have bk:=J (rfl:0=0)
 rotate_left;intro x h w hM hV;have bz:=J (rfl:0=0)
 rotate_left;intro x y h w hM hV;have cE:=J (rfl:0=0)
 rotate_left;intro x y z h w hM hV;have dU:=J (rfl:0=0)
 all_goals
  first
   |replace aj:=aj
    obtain⟨ad,c,rfl,bJ,hX⟩:=mf hV;obtain⟨W,hW⟩: ∃W,((w.alloc (.cells #[.string ⟨#[114,101,97,108]⟩, .int .i64 con, .int .i64 ab,ty,rv] 36)).alloc (.cells aL 49)).alloc (.cells #[.int .i64 1] 3)=W:=⟨_,rfl⟩
   |replace aG:=aG
    obtain⟨ad,c,rfl,bJ,hX⟩:=mf hV;obtain⟨W,hW⟩: ∃W,((w.alloc (.cells #[.string ⟨#[105,110,116,84,101,120,116]⟩, .int .i64 con, .int .i64 ab,ty,rv] 36)).alloc (.cells aL 49)).alloc (.cells #[.int .i64 1] 3)=W:=⟨_,rfl⟩
   |replace aP:=aP
    obtain⟨ad,c,rfl,bJ,hX⟩:=mf hV;obtain⟨W,hW⟩: ∃W,((w.alloc (.cells #[.string ⟨#[99,104,114]⟩, .int .i64 con, .int .i64 ab,ty,rv] 36)).alloc (.cells aL 49)).alloc (.cells #[.int .i64 1] 3)=W:=⟨_,rfl⟩
   |replace bk:=bk
    obtain⟨ad,c,rfl,bJ,hX,hY⟩:=jH hV;obtain⟨W,hW⟩: ∃W,((w.alloc (.cells #[.string ⟨#[94]⟩, .int .i64 con, .int .i64 ab,ty,rv] 36)).alloc (.cells aL 49)).alloc (.cells #[.int .i64 3, .int .i64 3] 3)=W:=⟨_,rfl⟩
   |replace bz:=bz
    obtain⟨ad,c,rfl,bJ,hX⟩:=mf hV;obtain⟨W,hW⟩: ∃W,((w.alloc (.cells #[.string ⟨#[115,105,122,101]⟩, .int .i64 con, .int .i64 ab,ty,rv] 36)).alloc (.cells aL 49)).alloc (.cells #[.int .i64 3] 3)=W:=⟨_,rfl⟩
   |replace cE:=cE
    obtain⟨ad,c,rfl,bJ,hX,hY⟩:=jH hV;obtain⟨W,hW⟩: ∃W,((w.alloc (.cells #[.string ⟨#[115,117,98]⟩, .int .i64 con, .int .i64 ab,ty,rv] 36)).alloc (.cells aL 49)).alloc (.cells #[.int .i64 3, .int .i64 1] 3)=W:=⟨_,rfl⟩
   |obtain⟨ad,c,rfl,bJ,hX,hY,hZZ⟩:=EI hV
    obtain⟨W,hW⟩: ∃W,((w.alloc (.cells #[.string ⟨#[115,117,98,115,116,114,105,110,103]⟩, .int .i64 con, .int .i64 ab,ty,rv] 36)).alloc (.cells aL 49)).alloc (.cells #[.int .i64 3, .int .i64 1, .int .i64 1] 3)=W:=⟨_,rfl⟩
  have bi:=J (show Below w.heap.size w W by rw [←hW];exact cA _ _ _ _)
  first
   |replace aj:=aj
    have HP:=J (show ai W w.heap.size 36 #[.string ⟨#[114,101,97,108]⟩, .int .i64 con, .int .i64 ab,ty,rv]by rw [←hW];exact((ai.new _ _ _).alloc _).alloc _)
   |replace aG:=aG
    have HP:=J (show ai W w.heap.size 36 #[.string ⟨#[105,110,116,84,101,120,116]⟩, .int .i64 con, .int .i64 ab,ty,rv]by rw [←hW];exact((ai.new _ _ _).alloc _).alloc _)
   |replace aP:=aP
    have HP:=J (show ai W w.heap.size 36 #[.string ⟨#[99,104,114]⟩, .int .i64 con, .int .i64 ab,ty,rv]by rw [←hW];exact((ai.new _ _ _).alloc _).alloc _)
   |replace bk:=bk
    have HP:=J (show ai W w.heap.size 36 #[.string ⟨#[94]⟩, .int .i64 con, .int .i64 ab,ty,rv]by rw [←hW];exact((ai.new _ _ _).alloc _).alloc _)
   |replace bz:=bz
    have HP:=J (show ai W w.heap.size 36 #[.string ⟨#[115,105,122,101]⟩, .int .i64 con, .int .i64 ab,ty,rv]by rw [←hW];exact((ai.new _ _ _).alloc _).alloc _)
   |replace cE:=cE
    have HP:=J (show ai W w.heap.size 36 #[.string ⟨#[115,117,98]⟩, .int .i64 con, .int .i64 ab,ty,rv]by rw [←hW];exact((ai.new _ _ _).alloc _).alloc _)
   |have HP:=J (show ai W w.heap.size 36 #[.string ⟨#[115,117,98,115,116,114,105,110,103]⟩, .int .i64 con, .int .i64 ab,ty,rv]by rw [←hW];exact((ai.new _ _ _).alloc _).alloc _)
  have HZ:=J (show ai W (w.heap.size+1) 49 aL by rw [←hW];exact(am (by simp) _ _).alloc _)
  have p0:=HP.out.c0
  first
   |replace aG:=aG
    have p9:((w.alloc (.cells #[.string ⟨#[105,110,116,84,101,120,116]⟩, .int .i64 con, .int .i64 ab,ty,rv] 36)).alloc (.cells aL 49)).cell? ⟨w.heap.size,0,none⟩=some (.string ⟨#[105,110,116,84,101,120,116]⟩):=((ai.new _ _ _).alloc _).cell 0;have HK:=J (bG [x] [1] _ w W (w.heap.size+2) 1 3 #[.int .i64 1] hV (za _) (by decide) bi.out (by rw [←hW];exact am (by simp) _ _) rfl rfl (by decide))
   |replace bk:=bk
    have p9:((w.alloc (.cells #[.string ⟨#[94]⟩, .int .i64 con, .int .i64 ab,ty,rv] 36)).alloc (.cells aL 49)).cell? ⟨w.heap.size,0,none⟩=some (.string ⟨#[94]⟩):=((ai.new _ _ _).alloc _).cell 0;have HK:=J (bG [x,y] [3,3] _ w W (w.heap.size+2) 2 3 #[.int .i64 3, .int .i64 3] hV (za _) (by decide) bi.out (by rw [←hW];exact am (by simp) _ _) rfl rfl (by decide))
   |replace bz:=bz
    have p9:((w.alloc (.cells #[.string ⟨#[115,105,122,101]⟩, .int .i64 con, .int .i64 ab,ty,rv] 36)).alloc (.cells aL 49)).cell? ⟨w.heap.size,0,none⟩=some (.string ⟨#[115,105,122,101]⟩):=((ai.new _ _ _).alloc _).cell 0;have HK:=J (bG [x] [3] _ w W (w.heap.size+2) 1 3 #[.int .i64 3] hV (za _) (by decide) bi.out (by rw [←hW];exact am (by simp) _ _) rfl rfl (by decide))
   |replace cE:=cE
    have p9:((w.alloc (.cells #[.string ⟨#[115,117,98]⟩, .int .i64 con, .int .i64 ab,ty,rv] 36)).alloc (.cells aL 49)).cell? ⟨w.heap.size,0,none⟩=some (.string ⟨#[115,117,98]⟩):=((ai.new _ _ _).alloc _).cell 0;have HK:=J (bG [x,y] [3,1] _ w W (w.heap.size+2) 2 3 #[.int .i64 3, .int .i64 1] hV (za _) (by decide) bi.out (by rw [←hW];exact am (by simp) _ _) rfl rfl (by decide))
   |replace dU:=dU
    have p9:((w.alloc (.cells #[.string ⟨#[115,117,98,115,116,114,105,110,103]⟩, .int .i64 con, .int .i64 ab,ty,rv] 36)).alloc (.cells aL 49)).cell? ⟨w.heap.size,0,none⟩=some (.string ⟨#[115,117,98,115,116,114,105,110,103]⟩):=((ai.new _ _ _).alloc _).cell 0;have HK:=J (bG [x,y,z] [3,1,1] _ w W (w.heap.size+2) 3 3 #[.int .i64 3, .int .i64 1, .int .i64 1] hV (za _) (by decide) bi.out (by rw [←hW];exact am (by simp) _ _) rfl rfl (by decide))
   |first
     |replace aj:=aj
      have p9:((w.alloc (.cells #[.string ⟨#[114,101,97,108]⟩, .int .i64 con, .int .i64 ab,ty,rv] 36)).alloc (.cells aL 49)).cell? ⟨w.heap.size,0,none⟩=some (.string ⟨#[114,101,97,108]⟩):=((ai.new _ _ _).alloc _).cell 0
     |have p9:((w.alloc (.cells #[.string ⟨#[99,104,114]⟩, .int .i64 con, .int .i64 ab,ty,rv] 36)).alloc (.cells aL 49)).cell? ⟨w.heap.size,0,none⟩=some (.string ⟨#[99,104,114]⟩):=((ai.new _ _ _).alloc _).cell 0
    have HK:=J (bG [x] [1] _ w W (w.heap.size+2) 1 3 #[.int .i64 1] hV (za _) (by decide) bi.out (by rw [←hW];exact am (by simp) _ _) rfl rfl (by decide))
  rw [h]at HK;have bw:=hM.lt;have fa:w.heap.size+1≠M:=by omega
  have iM:M≠w.heap.size+1:=by omega
  have LC:=J (ap.of_below (bs:=[M]) bi.out);have HS:=J (fun dn=>gP M v0 v1 v2 v3 v4 v5 v6 v7 v8 (W.drewN dn) ((hM.below bi.out hM.lt).drewN dn))
  first
   |replace dU:=dU
    clear hM hV hX hY hZZ h
   |(first|replace bk:=bk|replace cE:=cE)
    clear hM hV hX hY h
   |clear hM hV hX h
  go_enter func64,ntmps64;go_wp2_with (first|(go_at_call 57;(with_reducible refine(HK.out).mono ?_);rintro e w1 ⟨rfl,dn,rfl⟩)|(go_at_call 101;(with_reducible refine(HS.out dn).mono ?_);rintro e w3 ⟨rfl,gR,dd⟩;have pF:=J gR;have lR:=J dd;have gf:=J ((HZ.out.drewN dn).only dd (by simp [fa]));obtain⟨c0,c1,c2,c3,c4,c5,c6⟩:=ae gf.out;obtain⟨f0,f1,f2,f3,f4,f5,f6⟩:=ar gf.out;clear gR dd))
  obtain⟨z0,z1,z2,z3,z4,z5,z6⟩:=ae (aF (r:= .no) gf.out);have iL:=J (pF.out.only (w':=aR w3 (w.heap.size+1) .no) (bs:=[w.heap.size+1]) (by unfold aR;exact(((((((ap.refl [w.heap.size+1] w3).one).one).one).one).one).one).one) (by simp [iM]))
  have hI:=J (show ap [M] w (aR w3 (w.heap.size+1) .no)by unfold aR;exact(((((((((LC.out.drewN dn).trans lR.out).setCell (p:=⟨w.heap.size+1,0,none⟩) (.inr (zl _ 1)) _).setCell (p:=⟨w.heap.size+1,1,none⟩) (.inr (zl _ 1)) _).setCell (p:=⟨w.heap.size+1,2,none⟩) (.inr (zl _ 1)) _).setCell (p:=⟨w.heap.size+1,3,none⟩) (.inr (zl _ 1)) _).setCell (p:=⟨w.heap.size+1,4,none⟩) (.inr (zl _ 1)) _).setCell (p:=⟨w.heap.size+1,5,none⟩) (.inr (zl _ 1)) _).setCell (p:=⟨w.heap.size+1,6,none⟩) (.inr (zl _ 1)) _))
  unfold aR at z0 z1 z2 z3 z4 z5 z6 iL hI;simp only [eP,ri,rb,rt]at z0 z1 z2 z3 z4 z5 z6 iL hI;refine zi (v:= .tuple #[aY .no, .int .i64 0]) (by simp [results,results64,go_sem,eP,ri,rb,rt,z0,z1,z2,z3,z4,z5,z6]) rfl ⟨rfl,iL.out,hI.out⟩
def qS a b c d e f g h i j k l m n o:=(cJ a b c d e f g h i j k l m n o).1
def mS a b c d e f g h i j k l m n o:=(cJ a b c d e f g h i j k l m n o).2.1
def sR a b c d e f g h i j k l m n o:=(cJ a b c d e f g h i j k l m n o).2.2.1
def B4 a b c d e f g h i j k l m n o:=(cJ a b c d e f g h i j k l m n o).2.2.2.1
def qT a b c d e f g h i j k l m n o:=(cJ a b c d e f g h i j k l m n o).2.2.2.2.1
def B6 a b c d e f g h i j k l m n o:=(cJ a b c d e f g h i j k l m n o).2.2.2.2.2.1
def B7 a b c d e f g h i j k l m n o:=(cJ a b c d e f g h i j k l m n o).2.2.2.2.2.2
abbrev iA:=fun p0 p1 p2=> ∀(M:Nat) (v0 v1 v2 v3 v4 v5 v6 v7 v8:Value) (con ab:Int) (ty rv v:Value) (x:At) (h:fT x=false) (w:World) (hM:ai w M 59 #[v0,v1,v2,v3,v4,v5,v6,v7,v8]) (hV:VL w w.heap.size v [x]),Calls prog 64 #[.pointer (some ⟨M,0,none⟩), .agg #[.string ⟨#[p0,p1,p2]⟩, .int .i64 con, .int .i64 ab,ty,rv],v] w (fun e w'=>e= .returned (.tuple #[aY .no, .int .i64 0])∧ai w' M 59 #[v0,v1,v2,v3,v4,v5,v6,v7, .int .i64 5]∧ap [M] w w')
theorem mT:iA 111 114 100∧iA 115 116 114:=by
 unfold iA;refine⟨?_,?_⟩
 all_goals intro M v0 v1 v2 v3 v4 v5 v6 v7 v8 con ab ty rv v x h w hM hV
 have aj:=J (rfl:0=0)
 all_goals
  obtain⟨ad,c,rfl,bJ,hX⟩:=AF hV
  first
   |replace aj:=aj
    obtain⟨W,hW⟩: ∃W,(w.alloc (.cells #[.string ⟨#[111,114,100]⟩, .int .i64 con, .int .i64 ab,ty,rv] 36)).alloc (.cells aL 49)=W:=⟨_,rfl⟩
   |obtain⟨W,hW⟩: ∃W,(w.alloc (.cells #[.string ⟨#[115,116,114]⟩, .int .i64 con, .int .i64 ab,ty,rv] 36)).alloc (.cells aL 49)=W:=⟨_,rfl⟩
  have bi:=J (show Below w.heap.size w W by rw [←hW];exact aA _ _ _)
  first
   |replace aj:=aj
    have HP:=J (show ai W w.heap.size 36 #[.string ⟨#[111,114,100]⟩, .int .i64 con, .int .i64 ab,ty,rv]by rw [←hW];exact(ai.new _ _ _).alloc _)
   |have HP:=J (show ai W w.heap.size 36 #[.string ⟨#[115,116,114]⟩, .int .i64 con, .int .i64 ab,ty,rv]by rw [←hW];exact(ai.new _ _ _).alloc _)
  have HZ:=J (show ai W (w.heap.size+1) 49 aL by rw [←hW];exact am (by simp) _ _)
  have p0:=HP.out.c0;have HC:=J (fun w=>UE x w)
  rw [h]at HC;simp only [aY,gz]at HC;have bw:=hM.lt;have fa:w.heap.size+1≠M:=by omega
  have iM:M≠w.heap.size+1:=by omega
  have LC:=J (ap.of_below (bs:=[M]) bi.out);have ux:=J (hM.below bi.out hM.lt);have HS:=J (fun W hM=>gP M v0 v1 v2 v3 v4 v5 v6 v7 v8 W hM)
  have x0:W.cell? ad=some (.int .i64 (eP (dT x))):=(bi.out.cell bJ).trans (by have:=hX 0 _ rfl;rwa [ZV]at this)
  have x1:W.cell? ⟨ad.block,ad.off+1,none⟩=some (.int .i64 (ri (dT x))):=(bi.out.cell (p:=⟨ad.block,ad.off+1,none⟩) bJ).trans (by have:=hX 1 _ rfl;rwa [aB ad (by decide)]at this)
  have x2:W.cell? ⟨ad.block,ad.off+2,none⟩=some (.int .u64 (rb (dT x))):=(bi.out.cell (p:=⟨ad.block,ad.off+2,none⟩) bJ).trans (by have:=hX 2 _ rfl;rwa [aB ad (by decide)]at this)
  have x3:W.cell? ⟨ad.block,ad.off+3,none⟩=some (.string ⟨(rt (dT x)).toArray⟩):=(bi.out.cell (p:=⟨ad.block,ad.off+3,none⟩) bJ).trans (by have:=hX 3 _ rfl;rwa [aB ad (by decide)]at this)
  have x4:W.cell? ⟨ad.block,ad.off+4,none⟩=some (.slice none 0 0):=(bi.out.cell (p:=⟨ad.block,ad.off+4,none⟩) bJ).trans (by have:=hX 4 _ rfl;rwa [aB ad (by decide)]at this)
  have x5:W.cell? ⟨ad.block,ad.off+5,none⟩=some (.int .i64 0):=(bi.out.cell (p:=⟨ad.block,ad.off+5,none⟩) bJ).trans (by have:=hX 5 _ rfl;rwa [aB ad (by decide)]at this)
  have x6:W.cell? ⟨ad.block,ad.off+6,none⟩=some (.pointer none):=(bi.out.cell (p:=⟨ad.block,ad.off+6,none⟩) bJ).trans (by have:=hX 6 _ rfl;rwa [aB ad (by decide)]at this)
  clear hM hV hX h;go_enter func64,ntmps64;go_wp2_with (first|(go_at_call 120;(with_reducible refine(HC.out _).mono ?_);rintro e w4 ⟨rfl,hb⟩;have ce:=J (bi.out.trans (hb.mono bi.out.size));have tv:=J (HZ.out.below hb HZ.out.lt);have BP:=J (HP.out.below hb HP.out.lt);have p4:=BP.out.cell 0;have HM4:=J (ux.out.below hb ux.out.lt);have HO4:=J (ap.of_below (bs:=[M]) ce.out);clear hb)|(go_at_call 101;(with_reducible refine(HS.out _ HM4.out).mono ?_);rintro e w3 ⟨rfl,gR,dd⟩;have pF:=J gR;have lR:=J dd;have gf:=J (tv.out.only dd (by simp [fa]));obtain⟨c0,c1,c2,c3,c4,c5,c6⟩:=ae gf.out;obtain⟨f0,f1,f2,f3,f4,f5,f6⟩:=ar gf.out;clear gR dd))
  obtain⟨z0,z1,z2,z3,z4,z5,z6⟩:=ae (aF (r:= .no) gf.out);have iL:=J (pF.out.only (w':=aR w3 (w.heap.size+1) .no) (bs:=[w.heap.size+1]) (by unfold aR;exact(((((((ap.refl [w.heap.size+1] w3).one).one).one).one).one).one).one) (by simp [iM]))
  have hI:=J (show ap [M] w (aR w3 (w.heap.size+1) .no)by unfold aR;exact((((((((HO4.out.trans lR.out).setCell (p:=⟨w.heap.size+1,0,none⟩) (.inr (zl _ 1)) _).setCell (p:=⟨w.heap.size+1,1,none⟩) (.inr (zl _ 1)) _).setCell (p:=⟨w.heap.size+1,2,none⟩) (.inr (zl _ 1)) _).setCell (p:=⟨w.heap.size+1,3,none⟩) (.inr (zl _ 1)) _).setCell (p:=⟨w.heap.size+1,4,none⟩) (.inr (zl _ 1)) _).setCell (p:=⟨w.heap.size+1,5,none⟩) (.inr (zl _ 1)) _).setCell (p:=⟨w.heap.size+1,6,none⟩) (.inr (zl _ 1)) _))
  unfold aR at z0 z1 z2 z3 z4 z5 z6 iL hI;simp only [eP,ri,rb,rt]at z0 z1 z2 z3 z4 z5 z6 iL hI;refine zi (v:= .tuple #[aY .no, .int .i64 0]) (by simp [results,results64,go_sem,eP,ri,rb,rt,z0,z1,z2,z3,z4,z5,z6]) rfl ⟨rfl,iL.out,hI.out⟩
def nM:=mT.1
def nN:=mT.2
end Go.Proofs.YtcpmiplofbfmfaaGreatDoor
set_option maxHeartbeats 2000000
namespace ShrM
def EK:eo→Bool| .no=>true|_=>false
end ShrM
namespace Go.Proofs.YtcpmiplofbfmfaaGreatDoor
open Go.Proofs.Tryz
open Go.Lib renaming hid→J
open Go.RowKit LamM CpsM FloM ShrM
theorem UF(M:Nat)(v0 v1 v2 v3 v4 v5 v6 v7 v8:Value)(x y:At)(h1:(x.isInt&&y.isInt)=false)(h2:(x.isStr&&y.isStr)=false)(w:World)(hM:ai w M 59 #[v0,v1,v2,v3,v4,v5,v6,v7,v8]):
 Calls prog 62 #[.pointer (some ⟨M,0,none⟩),aY (dT x),aY (dT y)] w fun e w'=>e= .returned (.bool false)∧ai w' M 59 #[v0,v1,v2,v3,v4,v5,v6,v7, .int .i64 5]∧ap [M] w w':=by
 obtain⟨W,hW⟩: ∃W,(w.alloc (.cells (gz (dT x)) 49)).alloc (.cells (gz (dT y)) 49)=W:=⟨_,rfl⟩;have bi:=J (show Below w.heap.size w W by rw [←hW];exact aA _ _ _)
 have LC:=J (ap.of_below (bs:=[M]) bi.out);have HX:=J (show ai W w.heap.size 49 (gz (dT x))by rw [←hW];exact(ai.new _ _ _).alloc _)
 have HY:=J (show ai W (w.heap.size+1) 49 (gz (dT y))by rw [←hW];exact am (by simp) _ _)
 have x0:=HX.out.c0;have y0:=HY.out.c0;have HS:=J (gP M v0 v1 v2 v3 v4 v5 v6 v7 v8 W (hM.below bi.out hM.lt));clear hM
 cases x<;>cases y
 all_goals first|(exfalso;cases h1;done)|(exfalso;cases h2;done)|skip
 all_goals
  (clear h1 h2
   simp only [aY,gz,dT,eP,ri,rb,rt]at *;go_enter func62,ntmps62;go_wp2_with (go_at_call 101;(with_reducible refine(HS.out).mono ?_);rintro e w3 ⟨rfl,gR,dd⟩;have pF:=J gR;have lR:=J dd;clear gR dd);go_ret;exact⟨rfl,pF.out,LC.out.trans lR.out⟩)
end Go.Proofs.YtcpmiplofbfmfaaGreatDoor
