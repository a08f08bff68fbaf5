/- Shrink: the reference's order, ints. -/
import Derived.Test.YtcpmiplofbfmfaaGreatDoorA37
set_option linter.all false
set_option maxRecDepth 100000
set_option maxHeartbeats 14000000
namespace Go.Proofs.YtcpmiplofbfmfaaGreatDoor
open Go.Proofs.Tryz
open Go.Lib renaming hid→J
open Go.RowKit LamM CpsM FloM ShrM
theorem kU(S:List UInt8)(c:Int)(w:World):Calls prog 112 #[.string ⟨S.toArray⟩, .int .i64 c] w fun e w'=>e= .returned (.bool (dK S c))∧w=w':=by
 obtain⟨R,hR⟩: ∃R,dK S c=R:=⟨_,rfl⟩;rw [hR];unfold dK at hR
 cases a0:(c== -1)<;>cases a1:(c==0)<;>cases a2:(c==1)
 all_goals
  by_cases s0:S=[60]
  ·subst s0
   rw [zh rfl]at hR;simp only [a0,a1,a2,Bool.or_false,Bool.or_true,Bool.false_or,Bool.true_or]at hR;subst hR;go_enter func112,ntmps112;go_wp2_with fail;go_ret;exact⟨rfl,rfl⟩
  rw [ze s0]at hR
  by_cases s1:S=[60,61]
  ·subst s1
   rw [zh rfl]at hR;simp only [a0,a1,a2,Bool.or_false,Bool.or_true,Bool.false_or,Bool.true_or]at hR;subst hR;go_enter func112,ntmps112;go_wp2_with fail;go_ret;exact⟨rfl,rfl⟩
  rw [ze s1]at hR
  by_cases s2:S=[62]
  ·subst s2
   rw [zh rfl]at hR;simp only [a0,a1,a2,Bool.or_false,Bool.or_true,Bool.false_or,Bool.true_or]at hR;subst hR;go_enter func112,ntmps112;go_wp2_with fail;go_ret;exact⟨rfl,rfl⟩
  rw [ze s2]at hR;simp only [a0,a1,a2,Bool.or_false,Bool.or_true,Bool.false_or,Bool.true_or]at hR;subst hR;have b0:(S==[60])=false:=zf.2 s0;have b1:(S==[60,61])=false:=zf.2 s1;have b2:(S==[62])=false:=zf.2 s2;clear s0 s1 s2;go_enter func112,ntmps112;go_wp2_with fail;go_ret;exact⟨rfl,rfl⟩
theorem el(a b:Int)(ha:ax a=true)(hb:ax b=true)(w:World):(Calls prog 100 #[.string ⟨#[45]⟩, .int .i64 a, .int .i64 b] w (aD (aX (qp a b)) w))∧(Calls prog 100 #[.string ⟨#[42]⟩, .int .i64 a, .int .i64 b] w (aD (aX (yA a b)) w))∧(Calls prog 100 #[.string ⟨#[100,105,118]⟩, .int .i64 a, .int .i64 b] w (aD (aX (vr a b)) w))∧(Calls prog 100 #[.string ⟨#[109,111,100]⟩, .int .i64 a, .int .i64 b] w (aD (aX (xt a b)) w))∧(Calls prog 100 #[.string ⟨#[113,117,111,116]⟩, .int .i64 a, .int .i64 b] w (aD (aX (nU a b)) w))∧(Calls prog 100 #[.string ⟨#[114,101,109]⟩, .int .i64 a, .int .i64 b] w (aD (aX (ui a b)) w))∧(Calls prog 100 #[.string ⟨#[43]⟩, .int .i64 a, .int .i64 b] w (aD (aX (yz a b)) w)):=by
 refine⟨?_,?_,?_,?_,?_,?_,?_⟩;have aj:=J (rfl:0=0)
 rotate_left;have aG:=J (rfl:0=0)
 rotate_left;have aP:=J (rfl:0=0)
 rotate_left;have bk:=J (rfl:0=0)
 rotate_left;have bz:=J (rfl:0=0)
 rotate_left;have cE:=J (rfl:0=0)
 rotate_left;have dU:=J (rfl:0=0)
 all_goals
  first
   |replace aj:=aj
    have HF:=J (fun w=>rC a b ha hb w)
   |replace aG:=aG
    have HF:=J (fun w=>Hq a b ha hb w)
   |replace aP:=aP
    have HF:=J (fun w=>Hr a b ha hb w)
   |replace bk:=bk
    have HF:=J (fun w=>Er a b ha hb w)
   |replace bz:=bz
    have HF:=J (fun w=>Ns a b ha hb w)
   |replace cE:=cE
    have HF:=J (fun w=>DY a b ha hb w)
   |have HM:=J (show ai ((w.alloc (.cells aL 49)).alloc (.cells #[.int .i64 a, .int .i64 b] 2)) (w.heap.size+1) 2 #[.int .i64 a, .int .i64 b]from am (by simp) _ _)
    have HF:=J (GM (w.heap.size+1) 2 a b ha hb _ (HM.out.cell 0) (HM.out.cell 1));clear HM
  have HT:=J (fun n e w=>um n e w)
  first
   |replace aj:=aj
    obtain⟨⟨q1,q2⟩,hq⟩: ∃q,qp a b=q:=⟨_,rfl⟩
   |replace aG:=aG
    obtain⟨⟨q1,q2⟩,hq⟩: ∃q,yA a b=q:=⟨_,rfl⟩
   |replace aP:=aP
    obtain⟨⟨q1,q2⟩,hq⟩: ∃q,vr a b=q:=⟨_,rfl⟩
   |replace bk:=bk
    obtain⟨⟨q1,q2⟩,hq⟩: ∃q,xt a b=q:=⟨_,rfl⟩
   |replace bz:=bz
    obtain⟨⟨q1,q2⟩,hq⟩: ∃q,nU a b=q:=⟨_,rfl⟩
   |replace cE:=cE
    obtain⟨⟨q1,q2⟩,hq⟩: ∃q,ui a b=q:=⟨_,rfl⟩
   |obtain⟨⟨q1,q2⟩,hq⟩: ∃q,yz a b=q:=⟨_,rfl⟩
  rw [hq]at HF⊢;unfold R2 aD at *;clear ha hb hq;go_enter func100,ntmps100;go_wp2_with (first|((first|replace aj:=aj;go_at_call 169|replace aG:=aG;go_at_call 170|replace aP:=aP;go_at_call 171|replace bk:=bk;go_at_call 172|replace bz:=bz;go_at_call 173|replace cE:=cE;go_at_call 174|replace dU:=dU;go_at_call 168);((first|replace dU:=dU;(with_reducible refine(HF.out).mono ?_);rintro e w4 ⟨rfl,Fi⟩;have H4:=J (show Below w.heap.size w w4 by rw [←Fi];exact aA _ _ _);have jC:=J (show ai w4 w.heap.size 49 aL by rw [←Fi];exact(ai.new _ _ _).alloc _);clear Fi|(first|replace aj:=aj|replace aG:=aG|replace aP:=aP|replace bk:=bk|replace bz:=bz|replace cE:=cE);with_reducible refine(HF.out _).q ?_)))|(go_at_call 102;(with_reducible refine(HT.out q1 q2 _).mono ?_);(first|replace dU:=dU;rintro e w5 ⟨rfl,hb⟩;have BX:=J (jC.out.below hb jC.out.lt);have HB:=J (H4.out.trans (hb.mono H4.out.size))|(first|replace aj:=aj|replace aG:=aG|replace aP:=aP|replace bk:=bk|replace bz:=bz|replace cE:=cE);rintro e w1 ⟨rfl,hb⟩;have BX:=J ((ai.new w 49 aL).below hb (by simp));have HB:=J (((zg w.heap.size w).alloc (za _) (.cells aL 49)).trans (hb.mono (by simp))));obtain⟨c0,c1,c2,c3,c4,c5,c6⟩:=ae BX.out;obtain⟨f0,f1,f2,f3,f4,f5,f6⟩:=ar BX.out;clear hb))
  obtain⟨z0,z1,z2,z3,z4,z5,z6⟩:=ae (aF (r:=aX (q1,q2)) BX.out);unfold aR at z0 z1 z2 z3 z4 z5 z6;refine zi (v:= .tuple #[aY (aX (q1,q2)), .int .i64 (rc (aX (q1,q2)))]) (by simp [results,results100,go_sem,z0,z1,z2,z3,z4,z5,z6]) rfl ⟨rfl,az (r:=aX (q1,q2)) HB.out (za _)⟩
def Py a b c d e:=(el a b c d e).1
def Pz a b c d e:=(el a b c d e).2.1
def PB a b c d e:=(el a b c d e).2.2.1
def PC a b c d e:=(el a b c d e).2.2.2.1
def Hz a b c d e:=(el a b c d e).2.2.2.2.1
def PD a b c d e:=(el a b c d e).2.2.2.2.2.1
def PE a b c d e:=(el a b c d e).2.2.2.2.2.2
theorem nL(S:List UInt8)(hS:S≠[43]∧S≠[45]∧S≠[42]∧S≠[100,105,118]∧S≠[109,111,100]∧S≠[113,117,111,116]∧S≠[114,101,109])(a b:Int):(∀(h:a<b) (w:World),Calls prog 100 #[.string ⟨S.toArray⟩, .int .i64 a, .int .i64 b] w (aD (aE (dK S (-1))) w))∧(∀(h:a=b) (w:World),Calls prog 100 #[.string ⟨S.toArray⟩, .int .i64 a, .int .i64 b] w (aD (aE (dK S (0))) w))∧(∀(h:b<a) (w:World),Calls prog 100 #[.string ⟨S.toArray⟩, .int .i64 a, .int .i64 b] w (aD (aE (dK S (1))) w)):=by
 refine⟨?_,?_,?_⟩
 all_goals intro h w
 have aj:=J (rfl:0=0)
 rotate_left;have aG:=J (rfl:0=0)
 all_goals
  have s0:(S==[43])=false:=zf.2 hS.1;have s1:(S==[45])=false:=zf.2 hS.2.1;have s2:(S==[42])=false:=zf.2 hS.2.2.1;have s3:(S==[100,105,118])=false:=zf.2 hS.2.2.2.1;have s4:(S==[109,111,100])=false:=zf.2 hS.2.2.2.2.1;have s5:(S==[113,117,111,116])=false:=zf.2 hS.2.2.2.2.2.1;have s6:(S==[114,101,109])=false:=zf.2 hS.2.2.2.2.2.2
  first
   |replace aj:=aj
    have r0:decide (a<b)=true:=zc h;have r1:decide (b<a)=false:=zb (by omega)
    have HF:=J (fun w=>kU S (-1) w)
   |replace aG:=aG
    have r0:decide (a<b)=false:=zb (by omega)
    have r1:decide (b<a)=false:=zb (by omega)
    have HF:=J (fun w=>kU S (0) w)
   |have r0:decide (a<b)=false:=zb (by omega)
    have r1:decide (b<a)=true:=zc h;have HF:=J (fun w=>kU S (1) w)
  have HT:=J (fun b w=>iZ b w)
  first
   |replace aj:=aj
    generalize dK S (-1)=q at *
   |replace aG:=aG
    generalize dK S (0)=q at *
   |generalize dK S (1)=q at *
  unfold aD b_ at *;clear hS h;go_enter func100,ntmps100;go_wp2_with (first|(go_at_call 112;(with_reducible refine(HF.out _).q ?_))|(go_at_call 63;(with_reducible refine(HT.out q _).mono ?_);rintro e w1 ⟨rfl,hb⟩;have BX:=J ((ai.new w 49 aL).below hb (by simp));have HB:=J (((zg w.heap.size w).alloc (za _) (.cells aL 49)).trans (hb.mono (by simp)));obtain⟨c0,c1,c2,c3,c4,c5,c6⟩:=ae BX.out;obtain⟨f0,f1,f2,f3,f4,f5,f6⟩:=ar BX.out;clear hb))
  obtain⟨z0,z1,z2,z3,z4,z5,z6⟩:=ae (aF (r:=aE q) BX.out);unfold aR at z0 z1 z2 z3 z4 z5 z6;refine zi (v:= .tuple #[aY (aE q), .int .i64 0]) (by simp [results,results100,go_sem,z0,z1,z2,z3,z4,z5,z6]) rfl ⟨rfl,az (r:=aE q) HB.out (za _)⟩
def Uw a b c d:=(nL a b c d).1
def Ew a b c d:=(nL a b c d).2.1
def Ex a b c d:=(nL a b c d).2.2
theorem ke(S:List UInt8)(a b:Int)(ha:ax a=true)(hb:ax b=true)(w:World):Calls prog 100 #[.string ⟨S.toArray⟩, .int .i64 a, .int .i64 b] w (aD (fg S a b) w):=by
 unfold fg
 by_cases s0:S=[43]
 ·subst s0;rw [zh rfl];exact PE a b ha hb w
 rw [ze s0]
 by_cases s1:S=[45]
 ·subst s1;rw [zh rfl];exact Py a b ha hb w
 rw [ze s1]
 by_cases s2:S=[42]
 ·subst s2;rw [zh rfl];exact Pz a b ha hb w
 rw [ze s2]
 by_cases s3:S=[100,105,118]
 ·subst s3;rw [zh rfl];exact PB a b ha hb w
 rw [ze s3]
 by_cases s4:S=[109,111,100]
 ·subst s4;rw [zh rfl];exact PC a b ha hb w
 rw [ze s4]
 by_cases s5:S=[113,117,111,116]
 ·subst s5;rw [zh rfl];exact Hz a b ha hb w
 rw [ze s5]
 by_cases s6:S=[114,101,109]
 ·subst s6;rw [zh rfl];exact PD a b ha hb w
 rw [ze s6];unfold yB
 by_cases h1:a<b
 ·rw [zh h1];exact Uw S ⟨s0,s1,s2,s3,s4,s5,s6⟩ a b h1 w
 rw [ze h1]
 by_cases h2:b<a
 ·first|(rw [zh h2];exact Ex S ⟨s0,s1,s2,s3,s4,s5,s6⟩ a b h2 w)|(rw [ze (by omega)];exact Ex S ⟨s0,s1,s2,s3,s4,s5,s6⟩ a b h2 w)
 ·first|(rw [ze h2];exact Ew S ⟨s0,s1,s2,s3,s4,s5,s6⟩ a b (by omega) w)|(rw [zh (by omega)];exact Ew S ⟨s0,s1,s2,s3,s4,s5,s6⟩ a b (by omega) w)
set_option maxHeartbeats 8000000
theorem BU{o:Option Nat}(h: ∀a,o=some a→a<2^64):lU o<2^64:=by
 cases o with
 |none=>decide
 |some a=>exact h a rfl
theorem iu(u v:Nat)(hu:u<2^64)(hv:v<2^64)(w:World):(Calls prog 105 #[.string ⟨#[43]⟩, .int .u64 u, .int .u64 v] w (b_ (.real (aw (lU (Ieee.double.add u v)))) w))∧(Calls prog 105 #[.string ⟨#[45]⟩, .int .u64 u, .int .u64 v] w (b_ (.real (aw (lU (Ieee.double.sub u v)))) w))∧(Calls prog 105 #[.string ⟨#[42]⟩, .int .u64 u, .int .u64 v] w (b_ (.real (aw (lU (Ieee.double.mul u v)))) w))∧(Calls prog 105 #[.string ⟨#[47]⟩, .int .u64 u, .int .u64 v] w (b_ (.real (aw (lU (Ieee.double.div u v)))) w)):=by
 refine⟨?_,?_,?_,?_⟩;have aj:=J (rfl:0=0)
 rotate_left;have aG:=J (rfl:0=0)
 rotate_left;have aP:=J (rfl:0=0)
 rotate_left;have bk:=J (rfl:0=0)
 all_goals
  first
   |replace aj:=aj
    have HF:=J (fun w=>CT u v hu hv w)
    have bw:lU (Ieee.double.add u v)<2^64:=BU (fun a h=>lG (Ieee.double.add u v) ⟨u,v,by simp⟩ a h)
   |replace aG:=aG
    have HF:=J (fun w=>Rl u v hu hv w)
    have bw:lU (Ieee.double.sub u v)<2^64:=BU (fun a h=>lG (Ieee.double.sub u v) ⟨u,v,by simp⟩ a h)
   |replace aP:=aP
    have HF:=J (fun w=>Rh u v hu hv w)
    have bw:lU (Ieee.double.mul u v)<2^64:=BU (fun a h=>lG (Ieee.double.mul u v) ⟨u,v,by simp⟩ a h)
   |have HF:=J (fun w=>Rj u v hu hv w)
    have bw:lU (Ieee.double.div u v)<2^64:=BU (fun a h=>lG (Ieee.double.div u v) ⟨u,v,by simp⟩ a h)
  have HT:=J (fun w=>mQ _ bw w)
  clear bw
  first
   |replace aj:=aj
    generalize aw (lU (Ieee.double.add u v))=c at *;generalize lU (Ieee.double.add u v)=q at *
   |replace aG:=aG
    generalize aw (lU (Ieee.double.sub u v))=c at *;generalize lU (Ieee.double.sub u v)=q at *
   |replace aP:=aP
    generalize aw (lU (Ieee.double.mul u v))=c at *;generalize lU (Ieee.double.mul u v)=q at *
   |generalize aw (lU (Ieee.double.div u v))=c at *
    generalize lU (Ieee.double.div u v)=q at *
  unfold jq b_ at *;clear hu hv;go_enter func105,ntmps105;go_wp2_with (first|((first|replace aj:=aj;go_at_call 175|replace aG:=aG;go_at_call 176|replace aP:=aP;go_at_call 177|replace bk:=bk;go_at_call 178);(with_reducible refine(HF.out _).mono ?_);rintro e w4 ⟨rfl,hb⟩;have H4:=J (((zg w.heap.size w).alloc (za _) (.cells aL 49)).trans (hb.mono (by simp)));have jC:=J ((ai.new w 49 aL).below hb (by simp));clear hb)|(go_at_call 55;(with_reducible refine(HT.out _).mono ?_);rintro e w5 ⟨rfl,hb⟩;have BX:=J (jC.out.below hb jC.out.lt);have HB:=J (H4.out.trans (hb.mono H4.out.size));obtain⟨c0,c1,c2,c3,c4,c5,c6⟩:=ae BX.out;obtain⟨f0,f1,f2,f3,f4,f5,f6⟩:=ar BX.out;clear hb))
  obtain⟨z0,z1,z2,z3,z4,z5,z6⟩:=ae (aF (r:= .real c) BX.out);unfold aR at z0 z1 z2 z3 z4 z5 z6;refine zi (v:=aY (.real c)) (by simp [results,results105,go_sem,z0,z1,z2,z3,z4,z5,z6]) rfl ⟨rfl,az (r:= .real c) HB.out (za _)⟩
def H7 a b c d e:=(iu a b c d e).1
def H8 a b c d e:=(iu a b c d e).2.1
def H_ a b c d e:=(iu a b c d e).2.2.1
def Ja a b c d e:=(iu a b c d e).2.2.2
theorem Ez(u v:Nat)(hu:u<2^64)(hv:v<2^64)(w:World):Calls prog 105 #[.string ⟨#[115,97,109,101]⟩, .int .u64 u, .int .u64 v] w (b_ (aE (gw u v==0)) w):=by
 have HF:=J (fun w=>C7 u v hu hv w)
 have HT:=J (fun b w=>iZ b w)
 generalize gw u v=c at *;unfold b_ at *;clear hu hv;go_enter func105,ntmps105;go_wp2_with (first|(go_at_call 179;(with_reducible refine(HF.out _).q ?_))|(go_at_call 63;(with_reducible refine(HT.out (c==0) _).mono ?_);rintro e w1 ⟨rfl,hb⟩;have BX:=J ((ai.new w 49 aL).below hb (by simp));have HB:=J (((zg w.heap.size w).alloc (za _) (.cells aL 49)).trans (hb.mono (by simp)));obtain⟨c0,c1,c2,c3,c4,c5,c6⟩:=ae BX.out;obtain⟨f0,f1,f2,f3,f4,f5,f6⟩:=ar BX.out;clear hb))
 obtain⟨z0,z1,z2,z3,z4,z5,z6⟩:=ae (aF (r:=aE (c==0)) BX.out);unfold aR at z0 z1 z2 z3 z4 z5 z6;refine zi (v:=aY (aE (c==0))) (by simp [results,results105,go_sem,z0,z1,z2,z3,z4,z5,z6]) rfl ⟨rfl,az (r:=aE (c==0)) HB.out (za _)⟩
theorem Jb(S:List UInt8)(hS:S≠[43]∧S≠[45]∧S≠[42]∧S≠[47]∧S≠[115,97,109,101])(u v:Nat)(hu:u<2^64)(hv:v<2^64)(w:World):Calls prog 105 #[.string ⟨S.toArray⟩, .int .u64 u, .int .u64 v] w (b_ (aE (dK S (gw u v))) w):=by
 have s0:(S==[43])=false:=zf.2 hS.1;have s1:(S==[45])=false:=zf.2 hS.2.1;have s2:(S==[42])=false:=zf.2 hS.2.2.1;have s3:(S==[47])=false:=zf.2 hS.2.2.2.1;have s4:(S==[115,97,109,101])=false:=zf.2 hS.2.2.2.2;have HF:=J (fun w=>C7 u v hu hv w)
 have HO:=J (fun w=>kU S (gw u v) w)
 have HT:=J (fun b w=>iZ b w)
 generalize dK S (gw u v)=q at *;generalize gw u v=c at *;unfold b_ at *;clear hu hv hS;go_enter func105,ntmps105;go_wp2_with (first|(go_at_call 179;(with_reducible refine(HF.out _).q ?_))|(go_at_call 112;(with_reducible refine(HO.out _).q ?_))|(go_at_call 63;(with_reducible refine(HT.out q _).mono ?_);rintro e w1 ⟨rfl,hb⟩;have BX:=J ((ai.new w 49 aL).below hb (by simp));have HB:=J (((zg w.heap.size w).alloc (za _) (.cells aL 49)).trans (hb.mono (by simp)));obtain⟨c0,c1,c2,c3,c4,c5,c6⟩:=ae BX.out;obtain⟨f0,f1,f2,f3,f4,f5,f6⟩:=ar BX.out;clear hb))
 obtain⟨z0,z1,z2,z3,z4,z5,z6⟩:=ae (aF (r:=aE q) BX.out);unfold aR at z0 z1 z2 z3 z4 z5 z6;refine zi (v:=aY (aE q)) (by simp [results,results105,go_sem,z0,z1,z2,z3,z4,z5,z6]) rfl ⟨rfl,az (r:=aE q) HB.out (za _)⟩
theorem Jc(S:List UInt8)(u v:Nat)(hu:u<2^64)(hv:v<2^64)(w:World):Calls prog 105 #[.string ⟨S.toArray⟩, .int .u64 u, .int .u64 v] w (b_ (go S u v) w):=by
 unfold go
 by_cases s0:S=[43]
 ·subst s0;rw [zh rfl];exact H7 u v hu hv w
 rw [ze s0]
 by_cases s1:S=[45]
 ·subst s1;rw [zh rfl];exact H8 u v hu hv w
 rw [ze s1]
 by_cases s2:S=[42]
 ·subst s2;rw [zh rfl];exact H_ u v hu hv w
 rw [ze s2]
 by_cases s3:S=[47]
 ·subst s3;rw [zh rfl];exact Ja u v hu hv w
 rw [ze s3]
 by_cases s4:S=[115,97,109,101]
 ·subst s4;rw [zh rfl];exact Ez u v hu hv w
 rw [ze s4];exact Jb S ⟨s0,s1,s2,s3,s4⟩ u v hu hv w
def Uv(t:Fl):eo:=if t.k=2 then .int t.i else if t.k=3 then .real (aw t.b.toNat)else if t.k=4 then .str t.t else .no
theorem gE(t:Fl):(∀(h2:t.k≠2) (h3:t.k≠3) (h4:t.k≠4) (vv kv av:Value) (w:World),Calls prog 16 #[.agg (cG t vv kv av).toArray] w fun e w'=>e= .returned (.tuple #[aY (.no), .bool false])∧Below w.heap.size w w')∧(∀(h:t.k=2) (vv kv av:Value) (w:World),Calls prog 16 #[.agg (cG t vv kv av).toArray] w fun e w'=>e= .returned (.tuple #[aY (.int t.i), .bool (ax t.i)])∧Below w.heap.size w w')∧(∀(h:t.k=4) (vv kv av:Value) (w:World),Calls prog 16 #[.agg (cG t vv kv av).toArray] w fun e w'=>e= .returned (.tuple #[aY (.str t.t), .bool (decide (t.t.length≤65536))])∧Below w.heap.size w w')∧(∀(h:t.k=3) (u:Nat) (hu:u<2^64) (hb:t.b=(u:Int)) (vv kv av:Value) (w:World),Calls prog 16 #[.agg (cG t vv kv av).toArray] w fun e w'=>e= .returned (.tuple #[aY (.real (aw u)), .bool true])∧Below w.heap.size w w'):=by
 refine⟨?_,?_,?_,?_⟩;intro h2 h3 h4 vv kv av w;have aj:=J (rfl:0=0)
 rotate_left;intro h vv kv av w;have aG:=J (rfl:0=0)
 rotate_left;intro h vv kv av w;have aP:=J (rfl:0=0)
 rotate_left;intro h u hu hb vv kv av w
 all_goals
  obtain⟨W,hW⟩: ∃W,(w.alloc (mA t vv kv av)).alloc (.cells aL 49)=W:=⟨_,rfl⟩;have HB:=J (show Below w.heap.size w W by rw [←hW];exact aA _ _ _)
  have HX:=J (show ai W w.heap.size 28 #[.int .i64 t.k, .int .i64 t.n, .int .i64 t.m, .int .i64 t.i, .int .u64 t.b, .string ⟨t.t.toArray⟩,vv,kv,av]by rw [←hW];exact(ai.new _ _ _).alloc _)
  have HZ:=J (show ai W (w.heap.size+1) 49 aL by rw [←hW];exact am (by simp) _ _)
  have x0:=HX.out.c0;have x3:=HX.out.c3;have x4:=HX.out.c4;have x5:=HX.out.c5;obtain⟨c0,c1,c2,c3,c4,c5,c6⟩:=ae HZ.out;obtain⟨f0,f1,f2,f3,f4,f5,f6⟩:=ar HZ.out;unfold mA at hW;unfold cG
  first
   |replace aj:=aj
    have k2:=ag h2;have k3:=ag h3;have k4:=ag h4;clear h2 h3 h4
   |replace aG:=aG
    have HF:=J (fun w=>dL t.i w)
    obtain⟨q,hq⟩: ∃q,ax t.i=q:=⟨_,rfl⟩;rw [hq]at HF⊢;rw [h]at x0;have HK:=J h;clear h hq;have K0:=J (show W.drew.cell? ⟨w.heap.size,3,none⟩=some (.int .i64 t.i)from x3)
    have K1:=J (show(aR W (w.heap.size+1) (.int t.i)).drew.cell? ⟨w.heap.size,3,none⟩=some (.int .i64 t.i)from by unfold aR;simp [go_sem,x3])
    unfold aR at K1
   |replace aP:=aP
    have HF:=J (fun w=>jw t.t w)
    obtain⟨q,hq⟩: ∃q,decide (t.t.length≤65536)=q:=⟨_,rfl⟩;rw [hq]at HF⊢;rw [h]at x0;have HK:=J h;clear h hq;have K0:=J (show W.drew.cell? ⟨w.heap.size,5,none⟩=some (.string ⟨t.t.toArray⟩)from x5)
    have K1:=J (show(aR W (w.heap.size+1) (.str t.t)).drew.cell? ⟨w.heap.size,5,none⟩=some (.string ⟨t.t.toArray⟩)from by unfold aR;simp [go_sem,x5])
    unfold aR at K1
   |rw [hb]at x4
    have HF:=J (fun w=>mQ u hu w)
    generalize aw u=q at *;unfold b_ at *;rw [h]at x0;clear h hu hb
  go_enter func16,ntmps16
  first
   |replace aj:=aj
    go_wp2_with fail
    obtain⟨z0,z1,z2,z3,z4,z5,z6⟩:=ae (aF (r:= .no) HZ.out)
   |replace aG:=aG
    go_upto_region 3 with fail
    go_region_held3 (fun w'=>w'.cell? ⟨w.heap.size,3,none⟩=some (.int .i64 t.i)) (first|with_reducible exact K0.out|with_reducible exact K1.out|go_keep)
     (first|(go_at_call 54;(with_reducible refine(HF.out _).q ?_)))
    go_wp2_with fail
    obtain⟨z0,z1,z2,z3,z4,z5,z6⟩:=ae (aF (r:= .int t.i) HZ.out)
   |replace aP:=aP
    go_upto_region 7 with fail
    go_region_held3 (fun w'=>w'.cell? ⟨w.heap.size,5,none⟩=some (.string ⟨t.t.toArray⟩)) (first|with_reducible exact K0.out|with_reducible exact K1.out|go_keep)
     (first|(go_at_call 56;(with_reducible refine(HF.out _).q ?_)))
    go_wp2_with fail
    obtain⟨z0,z1,z2,z3,z4,z5,z6⟩:=ae (aF (r:= .str t.t) HZ.out)
   |go_wp2_with (go_at_call 55;(with_reducible refine(HF.out _).mono ?_);rintro e w3 ⟨rfl,kZ⟩;have dF:=J (HB.out.trans (kZ.mono HB.out.size));have gf:=J (HZ.out.below kZ HZ.out.lt);clear c0 c1 c2 c3 c4 c5 c6 f0 f1 f2 f3 f4 f5 f6;obtain⟨c0,c1,c2,c3,c4,c5,c6⟩:=ae gf.out;obtain⟨f0,f1,f2,f3,f4,f5,f6⟩:=ar gf.out;clear kZ)
    obtain⟨z0,z1,z2,z3,z4,z5,z6⟩:=ae (aF (r:= .real q) gf.out)
  unfold aR at z0 z1 z2 z3 z4 z5 z6
  first
   |replace aj:=aj
    simp only [eP,ri,rb,rt]at z0 z1 z2 z3 z4 z5 z6;refine zi (v:= .tuple #[aY .no, .bool false]) (by simp [results,results16,go_sem,eP,ri,rb,rt,z0,z1,z2,z3,z4,z5,z6]) rfl ⟨rfl,?_⟩
    exact az (r:= .no) HB.out (zl _ 1)
   |replace aG:=aG
    simp only [eP,ri,rb,rt]at z0 z1 z2 z3 z4 z5 z6;refine zi (v:= .tuple #[aY (.int t.i), .bool q]) (by simp [results,results16,go_sem,eP,ri,rb,rt,z0,z1,z2,z3,z4,z5,z6]) rfl ⟨rfl,?_⟩
    exact below_drewN (az (r:= .int t.i) HB.out (zl _ 1)) 1
   |replace aP:=aP
    simp only [eP,ri,rb,rt]at z0 z1 z2 z3 z4 z5 z6;refine zi (v:= .tuple #[aY (.str t.t), .bool q]) (by simp [results,results16,go_sem,eP,ri,rb,rt,z0,z1,z2,z3,z4,z5,z6]) rfl ⟨rfl,?_⟩
    exact below_drewN (az (r:= .str t.t) HB.out (zl _ 1)) 1
   |refine zi (v:= .tuple #[aY (.real q), .bool true]) (by simp [results,results16,go_sem,z0,z1,z2,z3,z4,z5,z6]) rfl ⟨rfl,?_⟩
    exact az (r:= .real q) dF.out (zl _ 1)
def Eu a:=(gE a).1
def Hw a:=(gE a).2.1
def Hx a:=(gE a).2.2.1
def Ev a:=(gE a).2.2.2
theorem Hy(t:Fl)(u:Nat)(hu:u<2^64)(hb:t.b=(u:Int))(vv kv av:Value)(w:World):Calls prog 16 #[.agg (cG t vv kv av).toArray] w fun e w'=>e= .returned (.tuple #[aY (Uv t), .bool (eD t).isSome])∧Below w.heap.size w w':=by
 have hbn:t.b.toNat=u:=by omega
 unfold Uv eD
 by_cases h2:t.k=2
 ·simp only [zh h2]
  have h:=Hw t h2 vv kv av w
  cases hr:ax t.i with
  |true=>rw [hr]at h;exact h
  |false=>rw [hr]at h;exact h
 simp only [ze h2]
 by_cases h3:t.k=3
 ·simp only [zh h3,hbn]
  exact Ev t h3 u hu hb vv kv av w
 simp only [ze h3]
 by_cases h4:t.k=4
 ·simp only [zh h4]
  have h:=Hx t h4 vv kv av w
  by_cases hr:t.t.length≤65536
  ·rw [zc hr]at h;rw [zh hr];exact h
  ·rw [zb hr]at h;rw [ze hr];exact h
 simp only [ze h4];exact Eu t h2 h3 h4 vv kv av w
set_option maxHeartbeats 2000000
theorem gP(M:Nat)(v0 v1 v2 v3 v4 v5 v6 v7 v8:Value)(w:World)(hM:ai w M 59 #[v0,v1,v2,v3,v4,v5,v6,v7,v8]):
 Calls prog 101 #[.pointer (some ⟨M,0,none⟩)] w fun e w'=>e= .returned (aY .no)∧ai w' M 59 #[v0,v1,v2,v3,v4,v5,v6,v7, .int .i64 5]∧ap [M] w w':=by
 have fa:w.heap.size≠M:=Nat.ne_of_gt hM.lt;have iM:M≠w.heap.size:=Nat.ne_of_lt hM.lt;have HM:=J hM;have HW:=J (((hM.alloc (.cells aL 49)).set_ 8 (.int .i64 5)));have c8:(w.alloc (.cells aL 49)).cell? ⟨M,8,none⟩=some v8:=(hM.alloc _).cell 8;have f8:(w.alloc (.cells aL 49)).frozen? ⟨M,8,none⟩=false:=(hM.alloc _).frozen 8;have d8:=hM.c8;have e8:w.frozen? ⟨M,8,none⟩=false:=hM.frozen 8;clear hM;go_enter func101,ntmps101;go_wp2_with fail;obtain⟨W1,QW⟩: ∃W1,(w.alloc (.cells aL 49)).setCell ⟨M,8,none⟩ (.int .i64 5)=W1:=⟨_,rfl⟩;rw [QW]at HW⊢;have oi:=J (show ap [M] w W1 by rw [←QW];exact((ap.refl [M] w).alloc _).one)
 have HR:=J (show ai W1 w.heap.size 49 aL by rw [←QW];exact(ai.new w 49 aL).only ((ap.refl [M] _).one) (by simp [fa]))
 obtain⟨z0,z1,z2,z3,z4,z5,z6⟩:=ae (aF (r:= .no) HR.out);have iL:=J (HW.out.only (w':=aR W1 w.heap.size .no) (bs:=[w.heap.size]) (by unfold aR;exact(((((((ap.refl [w.heap.size] W1).one).one).one).one).one).one).one) (by simp [iM]))
 have hI:=J (show ap [M] w (aR W1 w.heap.size .no)by unfold aR;exact(((((((oi.out.setCell (p:=⟨w.heap.size,0,none⟩) (.inr (za _)) _).setCell (p:=⟨w.heap.size,1,none⟩) (.inr (za _)) _).setCell (p:=⟨w.heap.size,2,none⟩) (.inr (za _)) _).setCell (p:=⟨w.heap.size,3,none⟩) (.inr (za _)) _).setCell (p:=⟨w.heap.size,4,none⟩) (.inr (za _)) _).setCell (p:=⟨w.heap.size,5,none⟩) (.inr (za _)) _).setCell (p:=⟨w.heap.size,6,none⟩) (.inr (za _)) _))
 unfold aR at z0 z1 z2 z3 z4 z5 z6 iL hI;simp only [eP,ri,rb,rt]at z0 z1 z2 z3 z4 z5 z6 iL hI;refine zi (v:=aY .no) (by simp [results,results101,go_sem,eP,ri,rb,rt,z0,z1,z2,z3,z4,z5,z6]) rfl ⟨rfl,?_,hI.out⟩
 exact iL.out
def dT:At→eo| .int n=> .int n| .real b=> .real b| .str s=> .str s
def VL(w:World)(B:Nat)(v:Value)(L:List At):Prop:=
 ∃A c,v= .slice A L.length c∧L.length≤c∧L.length≤1300000000000∧∀i t,L[i]? =some t→∃ad,A=some ad∧ad.block<B∧∀j u,(gz (dT t))[j]? =some u→w.cell? (ad.add (i*7+j))=some u
def qQ(w:World)(p:Addr)(r:eo):Prop:=
 w.cell? p=some (.int .i64 (eP r))∧w.cell? ⟨p.block,p.off+1,none⟩=some (.int .i64 (ri r))∧w.cell? ⟨p.block,p.off+2,none⟩=some (.int .u64 (rb r))∧w.cell? ⟨p.block,p.off+3,none⟩=some (.string ⟨(rt r).toArray⟩)
section
variable {w w':World} {B B':Nat}
theorem VL.keep{v:Value}{L:List At}(h:VL w B v L)(hk: ∀p:Addr,p.block<B→w'.cell? p=w.cell? p):VL w' B v L:=by
 obtain⟨A,c,e,h1,h2,h3⟩:=h;refine⟨A,c,e,h1,h2,fun i t ht=> ?_⟩
 obtain⟨ad,hA,hb,hc⟩:=h3 i t ht;exact⟨ad,hA,hb,fun j u hu=>(hk _ (by rw [ak];exact hb)).trans (hc j u hu)⟩
theorem VL.more{v:Value}{L:List At}(h:VL w B v L)(hB:B≤B'):VL w B' v L:=by
 obtain⟨A,c,e,h1,h2,h3⟩:=h;refine⟨A,c,e,h1,h2,fun i t ht=> ?_⟩
 obtain⟨ad,hA,hb,hc⟩:=h3 i t ht;exact⟨ad,hA,zy hb hB,hc⟩
theorem VL.below{v:Value}{L:List At}(h:VL w w.heap.size v L)(hb:Below w.heap.size w w'):VL w' w'.heap.size v L:=
 (h.keep (fun _ hp=>hb.cell hp)).more hb.size
theorem VL.len{v:Value}{L:List At}(h:VL w B v L): ∃A c,v= .slice A L.length c∧L.length≤c∧L.length≤1300000000000:=by
 obtain⟨A,c,e,h1,h2,_⟩:=h;exact⟨A,c,e,h1,h2⟩
theorem VL.at_{A:Option Addr}{n c:Nat}{L:List At}(h:VL w B (.slice A n c) L){i:Nat}{t:At}(hi:L[i]? =some t): ∃ad,A=some ad∧ad.block<B∧qQ w (ad.add (i*7)) (dT t):=by
 obtain⟨A',c',e,_,_,h3⟩:=h;injection e with e1 e2 e3
 subst e1 e3;obtain⟨ad,hA,hb,hc⟩:=h3 i t hi;exact⟨ad,hA,hb,hc 0 _ rfl,bc (hc 1 _ rfl),bc (hc 2 _ rfl),bc (hc 3 _ rfl)⟩
theorem qQ.below{p:Addr}{r:eo}(h:qQ w p r)(hp:p.block<w.heap.size)(hb:Below w.heap.size w w'):qQ w' p r:=
 ⟨(hb.cell hp).trans h.1,(hb.cell (p:=⟨p.block,p.off+1,none⟩) hp).trans h.2.1,(hb.cell (p:=⟨p.block,p.off+2,none⟩) hp).trans h.2.2.1,(hb.cell (p:=⟨p.block,p.off+3,none⟩) hp).trans h.2.2.2⟩
theorem mf{v:Value}{x:At}(h:VL w B v [x]): ∃ad c,v= .slice (some ad) 1 c∧ad.block<B∧qQ w ad (dT x):=by
 obtain⟨A,c,rfl,_,_⟩:=h.len;obtain⟨ad,rfl,hb,h0⟩:=h.at_ (i:=0) rfl;rw [Zk,ZV]at h0;exact⟨ad,c,rfl,hb,h0⟩
theorem jH{v:Value}{x y:At}(h:VL w B v [x,y]): ∃ad c,v= .slice (some ad) 2 c∧ad.block<B∧qQ w ad (dT x)∧qQ w ⟨ad.block,ad.off+7,none⟩ (dT y):=by
 obtain⟨A,c,rfl,_,_⟩:=h.len;obtain⟨ad,rfl,hb,h0⟩:=h.at_ (i:=0) rfl;obtain⟨QQ,e,_,h1⟩:=h.at_ (i:=1) rfl;injection e with e
 subst e;rw [Zk,ZV]at h0;rw [zP,aB ad (by decide)]at h1
 exact⟨ad,c,rfl,hb,h0,h1⟩
end
theorem YB{t:Fl}{a:At}(h:eD t=some a):Uv t=dT a:=by
 unfold eD at h;unfold Uv
 by_cases h2:t.k=2
 ·rw [zh h2]at h⊢
  by_cases hr:ax t.i=true
  ·rw [zh hr]at h;injection h with h;subst h;rfl
  ·rw [ze hr]at h;cases h
 rw [ze h2]at h⊢
 by_cases h3:t.k=3
 ·rw [zh h3]at h⊢;injection h with h;subst h;rfl
 rw [ze h3]at h⊢
 by_cases h4:t.k=4
 ·rw [zh h4]at h⊢
  by_cases hr:t.t.length≤65536
  ·rw [zh hr]at h;injection h with h;subst h;rfl
  ·rw [ze hr]at h;cases h
 rw [ze h4]at h
 cases h
set_option maxHeartbeats 4000000
theorem qR(mv:Value):(∀(a b:Int) (w:World),Calls prog 62 #[mv,aY (.int a),aY (.int b)] w fun e w'=>e= .returned (.bool (decide (a=b)))∧Below w.heap.size w w')∧(∀(a b:List UInt8) (w:World),Calls prog 62 #[mv,aY (.str a),aY (.str b)] w fun e w'=>e= .returned (.bool (decide (a=b)))∧Below w.heap.size w w'):=by
 refine⟨?_,?_⟩
 all_goals intro a b w
 have aj:=J (rfl:0=0)
 all_goals
  first
   |replace aj:=aj
    have HB:=J (((zg w.heap.size w).alloc (za _) (.cells (gz (.int a)) 49)).alloc (by simp) (.cells (gz (.int b)) 49))
   |have HB:=J (((zg w.heap.size w).alloc (za _) (.cells (gz (.str a)) 49)).alloc (by simp) (.cells (gz (.str b)) 49))
  obtain⟨q,hq⟩: ∃q,decide (a=b)=q:=⟨_,rfl⟩;have vw:(a==b)=q:=by rw [←hq];by_cases h:a=b<;>simp [h]
  rw [hq];simp only [aY,gz,eP,ri,rb,rt]at *;clear hq;go_enter func62,ntmps62;go_wp2_with fail;go_ret
  first|exact⟨rfl,HB.out⟩|exact⟨by rw [←vw];rfl,HB.out⟩
def Px a:=(qR a).1
def AC a:=(qR a).2
theorem sO(mv:Value)(S:List UInt8):(∀(hS:S=[126]) (con ab n:Int) (ty rv v:Value) (hn:ax n=true) (w:World) (hV:VL w w.heap.size v [.int n]),Calls prog 59 #[mv, .agg #[.string ⟨S.toArray⟩, .int .i64 con, .int .i64 ab,ty,rv],v] w (aD (aX (nJ n)) w))∧(∀(hS:S≠[126]) (con ab n:Int) (ty rv v:Value) (hn:ax n=true) (w:World) (hV:VL w w.heap.size v [.int n]),Calls prog 59 #[mv, .agg #[.string ⟨S.toArray⟩, .int .i64 con, .int .i64 ab,ty,rv],v] w (aD (aX (nK n)) w)):=by
 refine⟨?_,?_⟩
 all_goals intro hS con ab n ty rv v hn w hV
 have aj:=J (rfl:0=0)
 rotate_left;have aG:=J (rfl:0=0)
 all_goals
  obtain⟨ad,c,rfl,bJ,hX⟩:=mf hV
  first
   |replace aj:=aj
    subst hS;obtain⟨W,hW⟩: ∃W,(w.alloc (.cells #[.string ⟨#[126]⟩, .int .i64 con, .int .i64 ab,ty,rv] 36)).alloc (.cells aL 49)=W:=⟨_,rfl⟩
   |have s0:(S==[126])=false:=zf.2 hS
    obtain⟨W,hW⟩: ∃W,(w.alloc (.cells #[.string ⟨S.toArray⟩, .int .i64 con, .int .i64 ab,ty,rv] 36)).alloc (.cells aL 49)=W:=⟨_,rfl⟩
  have bi:=J (show Below w.heap.size w W by rw [←hW];exact aA _ _ _)
  first
   |replace aj:=aj
    have HP:=J (show ai W w.heap.size 36 #[.string ⟨#[126]⟩, .int .i64 con, .int .i64 ab,ty,rv]by rw [←hW];exact(ai.new _ _ _).alloc _)
   |have HP:=J (show ai W w.heap.size 36 #[.string ⟨S.toArray⟩, .int .i64 con, .int .i64 ab,ty,rv]by rw [←hW];exact(ai.new _ _ _).alloc _)
  have HZ:=J (show ai W (w.heap.size+1) 49 aL by rw [←hW];exact am (by simp) _ _)
  have p0:=HP.out.c0;have x0:W.cell? ad=some (.int .i64 1):=(hX.below bJ bi.out).1;have x1:W.cell? ⟨ad.block,ad.off+1,none⟩=some (.int .i64 n):=(hX.below bJ bi.out).2.1
  first
   |replace aj:=aj
    have HF:=J (fun w=>xi n hn w)
   |have HF:=J (fun w=>GN n hn w)
  have HT:=J (fun n e w=>um n e w)
  first
   |replace aj:=aj
    obtain⟨⟨q1,q2⟩,hq⟩: ∃q,nJ n=q:=⟨_,rfl⟩
   |obtain⟨⟨q1,q2⟩,hq⟩: ∃q,nK n=q:=⟨_,rfl⟩
  rw [hq]at HF⊢;unfold R2 aD at *
  first
   |replace aj:=aj
    clear hn hq hV hX
   |clear hn hq hV hX hS
  go_enter func59,ntmps59;go_wp2_with (first|((first|replace aj:=aj;go_at_call 103|replace aG:=aG;go_at_call 104);(with_reducible refine(HF.out _).q ?_))|(go_at_call 102;(with_reducible refine(HT.out q1 q2 _).mono ?_);rintro e w5 ⟨rfl,hb⟩;have BX:=J (HZ.out.below hb HZ.out.lt);have HB:=J (bi.out.trans (hb.mono bi.out.size));obtain⟨c0,c1,c2,c3,c4,c5,c6⟩:=ae BX.out;obtain⟨f0,f1,f2,f3,f4,f5,f6⟩:=ar BX.out;clear hb))
  obtain⟨z0,z1,z2,z3,z4,z5,z6⟩:=ae (aF (r:=aX (q1,q2)) BX.out);unfold aR at z0 z1 z2 z3 z4 z5 z6;refine zi (v:= .tuple #[aY (aX (q1,q2)), .int .i64 (rc (aX (q1,q2)))]) (by simp [results,results59,go_sem,z0,z1,z2,z3,z4,z5,z6]) rfl ⟨rfl,az (r:=aX (q1,q2)) HB.out (zl _ 1)⟩
def Ux a b:=(sO a b).1
def Uy a b:=(sO a b).2
abbrev i4(M:Nat)(v0 v1 v2 v3 v4 v5 v6 v7:Value)(S:List UInt8)(con ab:Int)(ty rv v:Value)(w:World):Prop:=Calls prog 59 #[.pointer (some ⟨M,0,none⟩), .agg #[.string ⟨S.toArray⟩, .int .i64 con, .int .i64 ab,ty,rv],v] w (fun e w'=>e= .returned (.tuple #[aY .no, .int .i64 0])∧ai w' M 59 #[v0,v1,v2,v3,v4,v5,v6,v7, .int .i64 5]∧ap [M] w w')
theorem ph(M:Nat)(v0 v1 v2 v3 v4 v5 v6 v7 v8:Value)(S:List UInt8)(con ab:Int)(ty rv v:Value):(∀(L:List At) (h:L.length≠1) (w:World) (hM:ai w M 59 #[v0,v1,v2,v3,v4,v5,v6,v7,v8]) (hV:VL w w.heap.size v L),i4 M v0 v1 v2 v3 v4 v5 v6 v7 S con ab ty rv v w)∧(∀(x:At) (h:x.isInt=false) (w:World) (hM:ai w M 59 #[v0,v1,v2,v3,v4,v5,v6,v7,v8]) (hV:VL w w.heap.size v [x]),i4 M v0 v1 v2 v3 v4 v5 v6 v7 S con ab ty rv v w):=by
 unfold i4;refine⟨?_,?_⟩;intro L h w hM hV;have aj:=J (rfl:0=0)
 rotate_left;intro x h w hM hV
 all_goals
  first
   |replace aj:=aj
    obtain⟨A,c,rfl,_,_⟩:=hV.len
   |obtain⟨ad,c,rfl,bJ,hX⟩:=mf hV
  obtain⟨W,hW⟩: ∃W,(w.alloc (.cells #[.string ⟨S.toArray⟩, .int .i64 con, .int .i64 ab,ty,rv] 36)).alloc (.cells aL 49)=W:=⟨_,rfl⟩;have bw:=hM.lt;have fa:w.heap.size+1≠M:=by omega
  have iM:M≠w.heap.size+1:=by omega
  have bi:=J (show Below w.heap.size w W by rw [←hW];exact aA _ _ _)
  have LC:=J (ap.of_below (bs:=[M]) bi.out);have HZ:=J (show ai W (w.heap.size+1) 49 aL by rw [←hW];exact am (by simp) _ _)
  have HS:=J (gP M v0 v1 v2 v3 v4 v5 v6 v7 v8 W (hM.below bi.out hM.lt))
  first
   |replace aj:=aj
    have q1:((L.length:Int)==1)=false:=ag (by omega)
    have q2:(L.length==1)=false:=zf.2 h;clear hM hV
   |have x0:W.cell? ad=some (.int .i64 (eP (dT x))):=(hX.below bJ bi.out).1
    have q1:(eP (dT x)==1)=false:=by cases x<;>first|rfl|cases h
    clear hM hV hX h
  go_enter func59,ntmps59;go_wp2_with (go_at_call 101;(with_reducible refine(HS.out).mono ?_);rintro e w3 ⟨rfl,gR,dd⟩;have pF:=J gR;have lR:=J dd;have gf:=J (HZ.out.only dd (by simp [fa]));obtain⟨c0,c1,c2,c3,c4,c5,c6⟩:=ae gf.out;obtain⟨f0,f1,f2,f3,f4,f5,f6⟩:=ar gf.out;clear gR dd)
  obtain⟨z0,z1,z2,z3,z4,z5,z6⟩:=ae (aF (r:= .no) gf.out);have iL:=J (pF.out.only (w':=aR w3 (w.heap.size+1) .no) (bs:=[w.heap.size+1]) (by unfold aR;exact(((((((ap.refl [w.heap.size+1] w3).one).one).one).one).one).one).one) (by simp [iM]))
  have hI:=J (show ap [M] w (aR w3 (w.heap.size+1) .no)by unfold aR;exact((((((((LC.out.trans lR.out).setCell (p:=⟨w.heap.size+1,0,none⟩) (.inr (zl _ 1)) _).setCell (p:=⟨w.heap.size+1,1,none⟩) (.inr (zl _ 1)) _).setCell (p:=⟨w.heap.size+1,2,none⟩) (.inr (zl _ 1)) _).setCell (p:=⟨w.heap.size+1,3,none⟩) (.inr (zl _ 1)) _).setCell (p:=⟨w.heap.size+1,4,none⟩) (.inr (zl _ 1)) _).setCell (p:=⟨w.heap.size+1,5,none⟩) (.inr (zl _ 1)) _).setCell (p:=⟨w.heap.size+1,6,none⟩) (.inr (zl _ 1)) _))
  unfold aR at z0 z1 z2 z3 z4 z5 z6 iL hI;simp only [eP,ri,rb,rt]at z0 z1 z2 z3 z4 z5 z6 iL hI;refine zi (v:= .tuple #[aY .no, .int .i64 0]) (by simp [results,results59,go_sem,eP,ri,rb,rt,z0,z1,z2,z3,z4,z5,z6]) rfl ⟨rfl,iL.out,hI.out⟩
def H6 a b c d e f g h i j k l m n o p:=(ph a b c d e f g h i j k l m n o p).1
def u_ a b c d e f g h i j k l m n o p:=(ph a b c d e f g h i j k l m n o p).2
set_option maxHeartbeats 2000000
def fT(x:At):Bool:=x.isInt&&decide (0≤x.i)&&decide (x.i≤255)
theorem Ey(n:Int)(w:World):Calls prog 120 #[aY (.int n)] w fun e w'=>e= .returned (.bool (fT (.int n)))∧Below w.heap.size w w':=by
 have HB:=J ((zg w.heap.size w).alloc (za _) (.cells (gz (.int n)) 49));obtain⟨R,hR⟩: ∃R,fT (.int n)=R:=⟨_,rfl⟩;rw [hR];replace hR:(decide (0≤n)&&decide (n≤255))=R:=by rw [←hR];unfold fT At.isInt At.i;rw [zZ]
 simp only [aY,gz,eP,ri,rb,rt]at *
 cases p0:decide (0≤n)<;>cases p1:decide (n≤255)
 all_goals
  rw [p0,p1]at hR;obtain rfl:=hR;go_enter func120,ntmps120;go_wp2_with fail;go_ret
  first|exact⟨rfl,HB.out⟩|exact⟨by rfl,HB.out⟩
theorem xy(x:At)(h:x.isInt=false)(w:World):Calls prog 120 #[aY (dT x)] w fun e w'=>e= .returned (.bool (fT x))∧Below w.heap.size w w':=by
 have HB:=J ((zg w.heap.size w).alloc (za _) (.cells (gz (dT x)) 49));have hc:fT x=false:=by simp [fT,h]
 have q1:(eP (dT x)==1)=false:=by cases x<;>first|rfl|cases h
 rw [hc];clear h hc;go_enter func120,ntmps120;go_wp2_with fail;go_ret;exact⟨rfl,HB.out⟩
end Go.Proofs.YtcpmiplofbfmfaaGreatDoor
