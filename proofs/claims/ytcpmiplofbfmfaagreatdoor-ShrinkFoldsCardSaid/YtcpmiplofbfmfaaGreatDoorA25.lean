/- Walks of the reference's small functions: those that the tex -/
import Derived.Test.YtcpmiplofbfmfaaGreatDoorA23
set_option linter.all false
namespace Go.Proofs.YtcpmiplofbfmfaaGreatDoor
open Go.Proofs.Tryz
open Go.RowKit FloM
theorem tY(u:Nat)(hu:u<2^64)(w:World):Calls prog 183 #[.int .u64 u] w fun e w'=>e= .returned (.bool (decide (rg u=0)))∧w=w':=by
 have hb:=kM u hu
 have hd:decide (rg u=0)=(((fZ u:Nat):Int)==(0:Int)):=by
  rw [ZR,Zb,Zr];show fZ u=0↔_;omega
 rw [hd];generalize fZ u=r at *;clear hu hd;go_enter func183,ntmps183
 go_wp2
 go_ret;exact⟨rfl,rfl⟩
theorem DG(u:Nat)(hu:u<2^64)(w:World):Calls prog 106 #[.int .u64 u] w fun e w'=>e= .returned (.int .u64 (qk u:Nat))∧w=w':=by
 have hn:=fun w=>gx u hu w
 have hb:=tU u hu;unfold qk
 by_cases h:cap<rg u
 focus
  rw [zh h];simp only [zc h]at hn;clear h hu
 rotate_left
 focus
  rw [ze h];simp only [zb h]at hn;clear h hu;generalize qL u=r at *
 all_goals
  go_enter func106,ntmps106;go_wp2_with (go_at_call 167;refine(hn _).mono ?_;rintro e w' ⟨rfl,rfl⟩);go_ret;exact⟨rfl,rfl⟩
theorem Tq(u:Nat)(hu:u<2^64)(w:World):Calls prog 107 #[.int .u64 u] w fun e w'=>e= .returned (.int .u64 (aw (fZ u):Nat))∧w=w':=by
 have hb:=kM u hu;have hc:=fun w=>wW (fZ u) (KM u) w
 clear hu;generalize fZ u=r at *;go_enter func107,ntmps107;go_wp2_with (go_at_call 99;refine(hc _).mono ?_;rintro e w' ⟨rfl,rfl⟩);go_ret;exact⟨rfl,rfl⟩
end Go.Proofs.YtcpmiplofbfmfaaGreatDoor
set_option maxRecDepth 100000
set_option maxHeartbeats 2000000
namespace FloM
open Ieee
def lU(o:Option Nat):Nat:=o.getD 9221120237041090560
theorem A6{u v:Nat}(h:cap<rg u∨cap<rg v):double.mul u v=none:=by
 unfold Format.mul
 rcases h with h|h
 ·rw [fb h];cases double.read v<;>rfl
 ·rw [fb h];cases double.read u<;>rfl
theorem r9{u v:Nat}(h:rg u=cap)(h2:rg v=0):double.mul u v=none:=by
 unfold Format.mul;rw [cz h,bN (by rw [h2];decide),fX.2 h2];rfl
theorem A7{u v:Nat}(h:rg u=0)(h2:rg v=cap):double.mul u v=none:=by rw [yT];exact r9 h2 h
theorem yP{u v:Nat}(h:rg u=cap)(h2:rg v≤cap)(h3:rg v≠0):double.mul u v=some (wd (bP u^^bP v) cap):=by
 unfold Format.mul
 rcases zj (rg v) cap with h4|h4
 ·rw [cz h,bN h4]
  have hm:mg (rg v)≠0:=fun h=>h3 (fX.1 h)
  simp only [Datum.product,ze hm,ZO,Format.write,cP,eX]
 ·rw [cz h,cz (show rg v=cap by omega)]
  simp only [Datum.product,ZO,Format.write,cP,eX]
theorem L9{u v:Nat}(h:rg v=cap)(h2:rg u≤cap)(h3:rg u≠0):double.mul u v=some (wd (bP u^^bP v) cap):=by
 rw [yT,yP h h2 h3,Bool.xor_comm]
theorem WD(u v:Nat)(_hu:u<2^64)(_hv:v<2^64):bP (u^^^v)=(bP u^^bP v):=by
 have e: ∀x:Nat,bP x=x.testBit 63:=by
  intro x;rw [Nat.testBit_eq_decide_div_mod_eq];unfold bP;rw [ZR,Zr,Zb]
 rw [e,e,e,Nat.testBit_xor]
end FloM
namespace Go.Proofs.YtcpmiplofbfmfaaGreatDoor
open Go.Proofs.Tryz
open Lib renaming hid→J
open Go.RowKit FloM
theorem u64_xor_nat(a b:Nat)(ha:a<18446744073709551616)(hb:b<18446744073709551616):bits .xor .u64 (a:Int) (b:Int)=((a^^^b:Nat):Int):=by
 have hx:a^^^b<2^64:=Nat.xor_lt_two_pow (by omega) (by omega)
 show IntKind.u64.wrap ((BitVec.ofInt 64 (a:Int)^^^BitVec.ofInt 64 (b:Int)).toNat:Int)=_;rw [BitVec.toNat_xor,ofInt_u64 a ha,ofInt_u64 b hb,zE];omega
theorem mC(u v:Nat)(hu:u<2^64)(hv:v<2^64): ∃x s:Nat,bits .xor .u64 (u:Int) (v:Int)=(x:Int)∧bits .and .u64 (x:Int) 9223372036854775808=(s:Int)∧((s:Int)!=0)=(bP u^^bP v):=by
 have hx:u^^^v<2^64:=Nat.xor_lt_two_pow hu hv;refine⟨_,_,u64_xor_nat u v (by omega) (by omega),gN _ hx,?_⟩
 rw [Ss _ hx,WD u v hu hv]
abbrev gj(u:Nat)(b:Bool):Prop:= ∀w,Calls prog 167 #[.int .u64 u] w fun e w'=>e= .returned (.bool b)∧w=w'
abbrev iQ(u:Nat)(b:Bool):Prop:= ∀w,Calls prog 180 #[.int .u64 u] w fun e w'=>e= .returned (.bool b)∧w=w'
abbrev qh(u:Nat)(b:Bool):Prop:= ∀w,Calls prog 183 #[.int .u64 u] w fun e w'=>e= .returned (.bool b)∧w=w'
theorem lV{u:Nat}(hu:u<2^64){b:Bool}(h:decide (cap<rg u)=b):gj u b:=fun w=>by rw [←h];exact gx u hu w
theorem dO{u:Nat}(hu:u<2^64){b:Bool}(h:decide (rg u=cap)=b):iQ u b:=fun w=>by rw [←h];exact mI u hu w
theorem fp{u:Nat}(hu:u<2^64){b:Bool}(h:decide (rg u=0)=b):qh u b:=fun w=>by rw [←h];exact tY u hu w
theorem pL(u v:Nat)(hu:u<2^64)(hv:v<2^64)(a b c d:Bool)(h:(a=true)∨(a=false∧b=true)∨(a=false∧b=false∧c=true)∨(a=false∧b=false∧c=false∧d=true))
 (n1:gj u a) (n2:gj v b) (i1 z1 i2 z2:Bool) (hc:c=(i1&&z2)) (hd:d=(z1&&i2)) (I1:iQ u i1) (Z2:qh v z2) (Z1:qh u z1) (I2:iQ v i2) (w:World):
 Calls prog 177 #[.int .u64 u, .int .u64 v] w (jq w 9221120237041090560):=by
 obtain⟨x,s,f1,f2,f3⟩:=mC u v hu hv;generalize(bP u^^bP v)=sg at *;have N1:=J n1;have N2:=J n2;have H1:=J I1;have H2:=J I2;have Y1:=J Z1;have Y2:=J Z2;clear n1 n2 I1 I2 Z1 Z2 hu hv;subst hc hd
 rcases h with rfl|⟨rfl,rfl⟩|⟨rfl,rfl,h⟩|⟨rfl,rfl,h,h2⟩
 rotate_left
 rotate_left
 ·cases i1<;>cases z2<;>first|(exfalso;revert h;decide)|skip
  clear h
  all_goals
   go_enter func177,ntmps177
   go_wp2_with (first
    |(go_at_call 167;(with_reducible refine(N1.out _).q ?_))
    |(go_at_call 167;(with_reducible refine(N2.out _).q ?_))
    |(go_at_call 180;(with_reducible refine(H1.out _).q ?_))
    |(go_at_call 183;(with_reducible refine(Y2.out _).q ?_)))
   go_ret;exact⟨rfl,zg _ _⟩
 ·cases i1<;>cases z2<;>cases z1<;>cases i2<;>first|(exfalso;revert h h2;decide)|skip
  all_goals
   clear h h2;go_enter func177,ntmps177
   go_wp2_with (first
    |(go_at_call 167;(with_reducible refine(N1.out _).q ?_))
    |(go_at_call 167;(with_reducible refine(N2.out _).q ?_))
    |(go_at_call 180;(with_reducible refine(H1.out _).q ?_))
    |(go_at_call 183;(with_reducible refine(Y2.out _).q ?_))
    |(go_at_call 180;(with_reducible refine(H2.out _).q ?_))
    |(go_at_call 183;(with_reducible refine(Y1.out _).q ?_)))
   go_ret;exact⟨rfl,zg _ _⟩
 all_goals
  go_enter func177,ntmps177
  go_wp2_with (first
   |(go_at_call 167;(with_reducible refine(N1.out _).q ?_))
   |(go_at_call 167;(with_reducible refine(N2.out _).q ?_)))
  go_ret;exact⟨rfl,zg _ _⟩
set_option maxHeartbeats 4000000
theorem CP(u v:Nat)(hu:u<2^64)(hv:v<2^64)(n1:gj u false)(n2:gj v false)(i1 z1 i2 z2:Bool)(hc:(i1&&z2)=false)(hd:(z1&&i2)=false)(hi:(i1||i2)=true)
 (I1:iQ u i1) (Z2:qh v z2) (Z1:qh u z1) (I2:iQ v i2) (w:World):
 Calls prog 177 #[.int .u64 u, .int .u64 v] w (jq w (wd (bP u^^bP v) cap)):=by
 obtain⟨x,s,f1,f2,f3⟩:=mC u v hu hv;have S:=J (fun b w=>lE b cap 9218868437227405312 w np (by decide))
 generalize(bP u^^bP v)=sg at *;have N1:=J n1;have N2:=J n2;have H1:=J I1;have H2:=J I2;have Y1:=J Z1;have Y2:=J Z2;clear n1 n2 I1 I2 Z1 Z2 hu hv
 cases i1<;>cases z2<;>cases z1<;>cases i2<;>first|(exfalso;revert hc hd hi;decide)|skip
 all_goals
  clear hc hd hi;go_enter func177,ntmps177
  go_wp2_with (first
   |(go_at_call 167;(with_reducible refine(N1.out _).q ?_))
   |(go_at_call 167;(with_reducible refine(N2.out _).q ?_))
   |(go_at_call 180;(with_reducible refine(H1.out _).q ?_))
   |(go_at_call 183;(with_reducible refine(Y2.out _).q ?_))
   |(go_at_call 180;(with_reducible refine(H2.out _).q ?_))
   |(go_at_call 183;(with_reducible refine(Y1.out _).q ?_))
   |(go_at_call 236;(with_reducible refine(S.out _ _).q ?_)))
  go_ret;exact⟨rfl,zg _ _⟩
theorem Rf(u v:Nat)(hu:u<2^64)(hv:v<2^64)(n1:gj u false)(n2:gj v false)(z1:Bool)(I1:iQ u false)(Z1:qh u z1)(I2:iQ v false)(w:World):
 Calls prog 177 #[.int .u64 u, .int .u64 v] w (jq w (wd (bP u^^bP v) (ig (mg (rg u)*mg (rg v)) (pp u+pp v) 0))):=by
 obtain⟨x,s,f1,f2,f3⟩:=mC u v hu hv;generalize(bP u^^bP v)=sg at *;have N1:=J n1;have N2:=J n2;have H1:=J I1;have H2:=J I2;have Y1:=J Z1;have O1:=J (fun w=>lF u hu w)
 have O2:=J (fun w=>lF v hv w)
 have p1:=yY u;have p2:=yY v;have p1':=p1.2 hu;have p2':=p2.2 hv;have rP:=sn u;have uq:=sn v
 have B_:nd (mg (rg u)*mg (rg v))≤20000:=by
  have:mg (rg u)*mg (rg v)<2^(16*10):=by
   have h1:=lB (rg u);have h2:=lB (rg v)
   calc mg (rg u)*mg (rg v)≤2^53*2^53:=Nat.mul_le_mul (Zc h1) (Zc h2)
    _<2^(16*10):=by decide
  have:=sd this;omega
 have aki: -1074≤pp u:=p1.1;have akh: -1074≤pp v:=p2.1;clear n1 n2 I1 I2 Z1 hu hv p1 p2;generalize bP u=su at *;generalize bP v=sv at *;generalize mg (rg u)=m1 at *;generalize mg (rg v)=m2 at *;generalize pp u=P1 at *;generalize pp v=P2 at *;have hwr:IntKind.i64.wrap (P1+P2)=P1+P2:=Zs _ (by omega)
 cases z1
 all_goals
  go_enter func177,ntmps177
  go_wp2_with (first
   |(go_at_call 167;(with_reducible refine(N1.out _).q ?_))
   |(go_at_call 167;(with_reducible refine(N2.out _).q ?_))
   |(go_at_call 180;(with_reducible refine(H1.out _).q ?_))
   |(go_at_call 180;(with_reducible refine(H2.out _).q ?_))
   |(go_at_call 183;(with_reducible refine(Y1.out _).q ?_))
   |(go_at_call 181;(with_reducible refine(O1.out _).mono ?_);rintro e w1 ⟨v1,rfl,j8,bW⟩;obtain⟨A1,k1,rfl⟩:=j8.shape;have rK:=J j8;have bp:=J bW;clear j8 bW)
   |(go_at_call 181;(with_reducible refine(O2.out _).mono ?_);rintro e w2 ⟨v2,rfl,hv2,ba⟩;obtain⟨A2,k2,rfl⟩:=hv2.shape;have ln:=J hv2;have bM:=J ba;clear hv2 ba))
  have b1:=(ai.new w2 198 #[.bool su, .slice A1 (nd m1) k1, .int .i64 P1]).alloc (.cells #[.bool sv, .slice A2 (nd m2) k2, .int .i64 P2] 198)
  have b2:ai ((w2.alloc (.cells #[.bool su, .slice A1 (nd m1) k1, .int .i64 P1] 198)).alloc (.cells #[.bool sv, .slice A2 (nd m2) k2, .int .i64 P2] 198)) (w2.heap.size+1) 198 #[.bool sv, .slice A2 (nd m2) k2, .int .i64 P2]:=by
   have:=ai.new (w2.alloc (.cells #[.bool su, .slice A1 (nd m1) k1, .int .i64 P1] 198)) 198 #[.bool sv, .slice A2 (nd m2) k2, .int .i64 P2]
   simpa using this
  have hW:=iS w2 (.cells #[.bool su, .slice A1 (nd m1) k1, .int .i64 P1] 198) (.cells #[.bool sv, .slice A2 (nd m2) k2, .int .i64 P2] 198);generalize(w2.alloc (.cells #[.bool su, .slice A1 (nd m1) k1, .int .i64 P1] 198)).alloc (.cells #[.bool sv, .slice A2 (nd m2) k2, .int .i64 P2] 198)=W at *;obtain⟨c0,c1,c2⟩:=aH b1;obtain⟨d0,d1,d2⟩:=aH b2;have D1:=J ((rK.out.below bM.out).below hW);have D2:=J (ln.out.below hW);have rJ:=J b1;have BX2:=J b2;have HW:=J (bp.out.trans ((bM.out.trans (hW.mono bM.out.size)).mono bp.out.size));have l1:=b1.lt;have l2:=b2.lt;have x_:=HW.out.size;clear b1 b2 hW bp bM rK ln
  go_region_held3 (fun w'=>w'.cell? ⟨w2.heap.size,1,none⟩=some (.slice A1 (nd m1) k1)∧w'.cell? ⟨w2.heap.size,2,none⟩=some (.int .i64 P1)∧w'.cell? ⟨w2.heap.size+1,1,none⟩=some (.slice A2 (nd m2) k2)∧w'.cell? ⟨w2.heap.size+1,2,none⟩=some (.int .i64 P2)) (first|go_keep|exact K3.out)
   (first
    |(go_at_call 237;refine(uJ _ _ m1 m2 _ (by omega) (by omega) (by exact D1.out) (by exact D2.out)).mono ?_;rintro e w3 ⟨v3,rfl,ll,_,bq⟩;obtain⟨A3,k3,rfl⟩:=ll.shape;have ou:=J ll;have K3:=J (iT (rJ.out.drew.below bq l1) (BX2.out.drew.below bq l2));have dF:=J bq;clear ll bq)
    |(go_at_call 188;refine(kr sg false _ (m1*m2) (P1+P2) _ B_ (by omega) (by omega) (by exact ou.out)).mono ?_;rintro e w4 ⟨rfl,cu⟩;have K3:=J (iT (rJ.out.drew.below (dF.out.trans (cu.mono dF.out.size)) l1) (BX2.out.drew.below (dF.out.trans (cu.mono dF.out.size)) l2));have ce:=J cu;clear cu))
  go_wp2_with fail
  go_ret;exact⟨rfl,HW.out.drew.trans ((dF.out.trans (ce.out.mono dF.out.size)).mono x_)⟩
theorem Rh(u v:Nat)(hu:u<2^64)(hv:v<2^64)(w:World):
 Calls prog 177 #[.int .u64 u, .int .u64 v] w (jq w (lU (Ieee.double.mul u v))):=by
 by_cases h1:cap<rg u
 ·rw [A6 (.inl h1)]
  exact pL u v hu hv true _ _ _ (.inl rfl) (lV hu (zc h1)) (lV hv rfl) _ _ _ _ rfl rfl (dO hu rfl) (fp hv rfl) (fp hu rfl) (dO hv rfl) w
 by_cases h2:cap<rg v
 ·rw [A6 (.inr h2)]
  exact pL u v hu hv false true _ _ (.inr (.inl ⟨rfl,rfl⟩)) (lV hu (zb h1)) (lV hv (zc h2)) _ _ _ _ rfl rfl (dO hu rfl) (fp hv rfl) (fp hu rfl) (dO hv rfl) w
 have n1:=lV hu (zb h1);have n2:=lV hv (zb h2);have hca:(0:Nat)≠cap:=by decide
 by_cases i1:rg u=cap
 ·by_cases z2:rg v=0
  ·rw [r9 i1 z2]
   exact pL u v hu hv false false true _ (.inr (.inr (.inl ⟨rfl,rfl,rfl⟩))) n1 n2 true _ _ true rfl rfl (dO hu (zc i1)) (fp hv (zc z2)) (fp hu rfl) (dO hv rfl) w
  ·rw [yP i1 (by omega) z2]
   exact CP u v hu hv n1 n2 true false _ false rfl rfl rfl (dO hu (zc i1)) (fp hv (zb z2)) (fp hu (zb (by omega))) (dO hv rfl) w
 ·by_cases i2:rg v=cap
  ·by_cases z1:rg u=0
   ·rw [A7 z1 i2]
    exact pL u v hu hv false false false true (.inr (.inr (.inr ⟨rfl,rfl,rfl,rfl⟩))) n1 n2 false true true _ rfl rfl (dO hu (zb i1)) (fp hv rfl) (fp hu (zc z1)) (dO hv (zc i2)) w
   ·rw [L9 i2 (by omega) z1]
    exact CP u v hu hv n1 n2 false false true _ rfl rfl rfl (dO hu (zb i1)) (fp hv rfl) (fp hu (zb z1)) (dO hv (zc i2)) w
  ·rw [RJ (by omega) (by omega)]
   exact Rf u v hu hv n1 n2 _ (dO hu (zb i1)) (fp hu rfl) (dO hv (zb i2)) w
end Go.Proofs.YtcpmiplofbfmfaaGreatDoor
set_option maxHeartbeats 4000000
namespace FloM
open Ieee
theorem A_{u v:Nat}(h:cap<rg u∨cap<rg v):double.div u v=none:=by
 unfold Format.div
 rcases h with h|h
 ·rw [fb h];cases double.read v<;>rfl
 ·rw [fb h];cases double.read u<;>rfl
theorem CQ{u v:Nat}(h:rg u=cap)(h2:rg v=cap):double.div u v=none:=by
 unfold Format.div;rw [cz h,cz h2];rfl
theorem yd{u v:Nat}(h:rg u=0)(h2:rg v=0):double.div u v=none:=by
 unfold Format.div;rw [bN (by rw [h];decide),bN (by rw [h2];decide),fX.2 h,fX.2 h2];rfl
theorem L_{u v:Nat}(h:rg u=cap)(h2:rg v<cap):double.div u v=some (wd (bP u^^bP v) cap):=by
 unfold Format.div;rw [cz h,bN h2];simp only [Datum.quotient,ZO,Format.write,cP,eX]
theorem F7{u v:Nat}(h:rg v=0)(h2:rg u<cap)(h3:rg u≠0):double.div u v=some (wd (bP u^^bP v) cap):=by
 unfold Format.div;have hm:mg (rg u)≠0:=fun h=>h3 (fX.1 h)
 rw [bN h2,bN (by rw [h];decide),fX.2 h]
 simp only [Datum.quotient,Ic,ze hm,ZO,Format.write,cP,eX]
theorem Ma{u v:Nat}(h:rg v=cap)(h2:rg u<cap):double.div u v=some (wd (bP u^^bP v) 0):=by
 unfold Format.div;rw [bN h2,cz h];simp only [Datum.quotient,ZO,Format.write,Format.nearest,eX,Ic]
theorem F8{u v:Nat}(h:rg u=0)(h2:rg v<cap)(h3:rg v≠0):double.div u v=some (wd (bP u^^bP v) 0):=by
 rw [Kh (by rw [h];decide) h2 h3,Kg (by rw [h,jp])]
end FloM
namespace Go.Proofs.YtcpmiplofbfmfaaGreatDoor
open Go.Proofs.Tryz
open Lib renaming hid→J
open Go.RowKit FloM
theorem gL(u v:Nat)(hu:u<2^64)(hv:v<2^64)(a b i1 z1 i2 z2:Bool)(r:Nat)
 (h:((a||b||(i1&&i2)||(z1&&z2))=true∧r=9221120237041090560)∨((a||b||(i1&&i2)||(z1&&z2))=false∧(i1||z2)=true∧r=wd (bP u^^bP v) cap)∨
  ((a||b||(i1&&i2)||(z1&&z2))=false∧(i1||z2)=false∧(i2||z1)=true∧r=wd (bP u^^bP v) 0))
 (n1:gj u a) (n2:gj v b) (I1:iQ u i1) (Z2:qh v z2) (Z1:qh u z1) (I2:iQ v i2) (w:World):
 Calls prog 178 #[.int .u64 u, .int .u64 v] w (jq w r):=by
 obtain⟨x,s,f1,f2,f3⟩:=mC u v hu hv;have S1:=J (fun b w=>lE b cap 9218868437227405312 w np (by decide))
 have S2:=J (fun b w=>lE b 0 0 w (by decide) rfl)
 generalize(bP u^^bP v)=sg at *;have N1:=J n1;have N2:=J n2;have H1:=J I1;have H2:=J I2;have Y1:=J Z1;have Y2:=J Z2;clear n1 n2 I1 I2 Z1 Z2 hu hv
 rcases h with⟨h,rfl⟩|⟨h,h2,rfl⟩|⟨h,h2,h3,rfl⟩
 ·cases a
  ·cases b
   ·cases i1
    ·cases z1
     ·exfalso;revert h;cases i2<;>cases z2<;>decide
     ·cases z2
      ·exfalso;revert h;cases i2<;>decide
      ·clear h
       go_enter func178,ntmps178
       go_wp2_with (first
        |(go_at_call 167;(with_reducible refine(N1.out _).q ?_))
        |(go_at_call 167;(with_reducible refine(N2.out _).q ?_))
        |(go_at_call 180;(with_reducible refine(H1.out _).q ?_))
        |(go_at_call 183;(with_reducible refine(Y1.out _).q ?_))
        |(go_at_call 183;(with_reducible refine(Y2.out _).q ?_)))
       go_ret;exact⟨rfl,zg _ _⟩
    ·cases i2
     ·cases z1
      ·exfalso;revert h;cases z2<;>decide
      ·cases z2
       ·exfalso;revert h;decide
       ·clear h
        go_enter func178,ntmps178
        go_wp2_with (first
         |(go_at_call 167;(with_reducible refine(N1.out _).q ?_))
         |(go_at_call 167;(with_reducible refine(N2.out _).q ?_))
         |(go_at_call 180;(with_reducible refine(H1.out _).q ?_))
         |(go_at_call 180;(with_reducible refine(H2.out _).q ?_))
         |(go_at_call 183;(with_reducible refine(Y1.out _).q ?_))
         |(go_at_call 183;(with_reducible refine(Y2.out _).q ?_)))
        go_ret;exact⟨rfl,zg _ _⟩
     ·clear h
      go_enter func178,ntmps178
      go_wp2_with (first
       |(go_at_call 167;(with_reducible refine(N1.out _).q ?_))
       |(go_at_call 167;(with_reducible refine(N2.out _).q ?_))
       |(go_at_call 180;(with_reducible refine(H1.out _).q ?_))
       |(go_at_call 180;(with_reducible refine(H2.out _).q ?_)))
      go_ret;exact⟨rfl,zg _ _⟩
   ·clear h
    go_enter func178,ntmps178
    go_wp2_with (first
     |(go_at_call 167;(with_reducible refine(N1.out _).q ?_))
     |(go_at_call 167;(with_reducible refine(N2.out _).q ?_)))
    go_ret;exact⟨rfl,zg _ _⟩
  ·clear h
   go_enter func178,ntmps178;go_wp2_with (go_at_call 167;(with_reducible refine(N1.out _).q ?_));go_ret;exact⟨rfl,zg _ _⟩
 ·cases a<;>cases b<;>cases i1<;>cases i2<;>cases z1<;>cases z2<;>first|(exfalso;revert h h2;decide)|skip
  all_goals
   clear h h2;go_enter func178,ntmps178
   go_wp2_with (first
    |(go_at_call 167;(with_reducible refine(N1.out _).q ?_))
    |(go_at_call 167;(with_reducible refine(N2.out _).q ?_))
    |(go_at_call 180;(with_reducible refine(H1.out _).q ?_))
    |(go_at_call 180;(with_reducible refine(H2.out _).q ?_))
    |(go_at_call 183;(with_reducible refine(Y1.out _).q ?_))
    |(go_at_call 183;(with_reducible refine(Y2.out _).q ?_))
    |(go_at_call 236;(with_reducible refine(S1.out _ _).q ?_)))
   go_ret;exact⟨rfl,zg _ _⟩
 ·cases a<;>cases b<;>cases i1<;>cases i2<;>cases z1<;>cases z2<;>first|(exfalso;revert h h2 h3;decide)|skip
  all_goals
   clear h h2 h3;go_enter func178,ntmps178
   go_wp2_with (first
    |(go_at_call 167;(with_reducible refine(N1.out _).q ?_))
    |(go_at_call 167;(with_reducible refine(N2.out _).q ?_))
    |(go_at_call 180;(with_reducible refine(H1.out _).q ?_))
    |(go_at_call 180;(with_reducible refine(H2.out _).q ?_))
    |(go_at_call 183;(with_reducible refine(Y1.out _).q ?_))
    |(go_at_call 183;(with_reducible refine(Y2.out _).q ?_))
    |(go_at_call 236;(with_reducible refine(S2.out _ _).q ?_)))
   go_ret;exact⟨rfl,zg _ _⟩
theorem Ri(u v:Nat)(hu:u<2^64)(hv:v<2^64)(hz:rg v≠0)(n1:gj u false)(n2:gj v false)(I1:iQ u false)(Z1:qh u false)(I2:iQ v false)(Z2:qh v false)(w:World):
 Calls prog 178 #[.int .u64 u, .int .u64 v] w (jq w (wd (bP u^^bP v) (ig (mg (rg u)*2^128/mg (rg v)) (pp u-pp v-128) (if mg (rg u)*2^128%mg (rg v)=0 then 0 else 1)))):=by
 obtain⟨x,s,f1,f2,f3⟩:=mC u v hu hv;generalize(bP u^^bP v)=sg at *;have N1:=J n1;have N2:=J n2;have H1:=J I1;have H2:=J I2;have Y1:=J Z1;have Y2:=J Z2;have O1:=J (fun w=>lF u hu w)
 have O2:=J (fun w=>lF v hv w)
 have p1:=yY u;have p2:=yY v;have p1':=p1.2 hu;have p2':=p2.2 hv;have rP:=sn u;have uq:=sn v;have hmp:=Ga hz;have aki: -1074≤pp u:=p1.1;have akh: -1074≤pp v:=p2.1;clear n1 n2 I1 I2 Z1 Z2 hu hv p1 p2 hz;generalize bP u=su at *;generalize bP v=sv at *;generalize mg (rg u)=m1 at *;generalize mg (rg v)=m2 at *;generalize pp u=P1 at *;generalize pp v=P2 at *;have JO:=eC m1 128;have hqn:nd (m1*2^128/m2)≤20000:=by have:=jS (ZI (m1*2^128) m2);omega
 generalize hq:m1*2^128/m2=q at *;generalize hr:m1*2^128%m2=r at *;generalize ht:(if r=0 then 0 else 1)=t at *
 have HT:=J (show t=(decide (0<nd r)).toNat by
  have:= @iR r;rw [←ht]
  by_cases h:r=0
  ·rw [zh h,zb (by omega)];rfl
  ·rw [ze h,zc (by omega)];rfl)
 have xL:=J JO;have HQ:=J hq;have HR:=J hr;have HMP:=J hmp;clear JO hmp hq hr ht;go_enter func178,ntmps178
 go_wp2_with (first
  |(go_at_call 167;(with_reducible refine(N1.out _).q ?_))
  |(go_at_call 167;(with_reducible refine(N2.out _).q ?_))
  |(go_at_call 180;(with_reducible refine(H1.out _).q ?_))
  |(go_at_call 180;(with_reducible refine(H2.out _).q ?_))
  |(go_at_call 183;(with_reducible refine(Y1.out _).q ?_))
  |(go_at_call 183;(with_reducible refine(Y2.out _).q ?_))
  |(go_at_call 181;(with_reducible refine(O1.out _).mono ?_);rintro e w1 ⟨v1,rfl,j8,bW⟩;obtain⟨A1,k1,rfl⟩:=j8.shape;have rK:=J j8;have bp:=J bW;clear j8 bW)
  |(go_at_call 181;(with_reducible refine(O2.out _).mono ?_);rintro e w2 ⟨v2,rfl,hv2,ba⟩;obtain⟨A2,k2,rfl⟩:=hv2.shape;have ln:=J hv2;have bM:=J ba;clear hv2 ba))
 have b1:=(ai.new w2 198 #[.bool su, .slice A1 (nd m1) k1, .int .i64 P1]).alloc (.cells #[.bool sv, .slice A2 (nd m2) k2, .int .i64 P2] 198)
 have b2:ai ((w2.alloc (.cells #[.bool su, .slice A1 (nd m1) k1, .int .i64 P1] 198)).alloc (.cells #[.bool sv, .slice A2 (nd m2) k2, .int .i64 P2] 198)) (w2.heap.size+1) 198 #[.bool sv, .slice A2 (nd m2) k2, .int .i64 P2]:=by
  have:=ai.new (w2.alloc (.cells #[.bool su, .slice A1 (nd m1) k1, .int .i64 P1] 198)) 198 #[.bool sv, .slice A2 (nd m2) k2, .int .i64 P2]
  simpa using this
 have hW:=iS w2 (.cells #[.bool su, .slice A1 (nd m1) k1, .int .i64 P1] 198) (.cells #[.bool sv, .slice A2 (nd m2) k2, .int .i64 P2] 198);generalize(w2.alloc (.cells #[.bool su, .slice A1 (nd m1) k1, .int .i64 P1] 198)).alloc (.cells #[.bool sv, .slice A2 (nd m2) k2, .int .i64 P2] 198)=W at *;obtain⟨c0,c1,c2⟩:=aH b1;obtain⟨d0,d1,d2⟩:=aH b2;have D1:=J ((rK.out.below bM.out).below hW);have D2:=J (ln.out.below hW);have rJ:=J b1;have BX2:=J b2;have HW:=J (bp.out.trans ((bM.out.trans (hW.mono bM.out.size)).mono bp.out.size));have l1:=b1.lt;have l2:=b2.lt;have x_:=HW.out.size;clear b1 b2 hW bp bM rK ln
 go_region_held3 (fun w'=>w'.cell? ⟨w2.heap.size,1,none⟩=some (.slice A1 (nd m1) k1)∧w'.cell? ⟨w2.heap.size,2,none⟩=some (.int .i64 P1)∧w'.cell? ⟨w2.heap.size+1,1,none⟩=some (.slice A2 (nd m2) k2)∧w'.cell? ⟨w2.heap.size+1,2,none⟩=some (.int .i64 P2)) (first|go_keep|exact K3.out)
  (first
   |(go_at_call 239;refine(gM _ m1 128 _ _ (by omega) (by omega) rfl (by exact D1.out)).mono ?_;rintro e w3 ⟨v3,rfl,ll,_,bq⟩;have ou:=J ll;have K3:=J (iT (rJ.out.drew.below bq l1) (BX2.out.drew.below bq l2));have dF:=J bq;clear ll bq)
   |(go_at_call 238;refine(sk v3 _ (m1*2^128) m2 _ (by have:=xL.out;omega) (by omega) HMP.out ou.out (by exact(D.below (show D W.drew _ m2 from D2.out) dF.out))).mono ?_;rintro e w4 ⟨v4,u4,rfl,vg,hu4,_,_,cu⟩;rw [HQ.out]at vg;rw [HR.out]at hu4;have yE:=J vg;have HU4:=J hu4;have Wh:=dF.out.trans (cu.mono dF.out.size);have E9:=J (rJ.out.drew.below Wh l1);have Qi:=J (BX2.out.drew.below Wh l2);have K3:=J (iT E9.out Qi.out);have ce:=J Wh;clear vg hu4 cu Wh))
 clear c0 c1 c2 d0 d1 d2;obtain⟨c1,c2,d1,d2⟩:=K3.out;obtain⟨A4,k4,rfl⟩:=yE.out.shape;obtain⟨A5,k5,rfl⟩:=HU4.out.shape;go_wp2_with fail;refine(kr sg (decide (0<nd r)) _ q (P1-P2-128) _ hqn (by omega) (by omega) yE.out).mono ?_
 rintro e w5 ⟨rfl,bT⟩;have fE:=J bT;clear bT;go_wp2_with fail;go_ret;exact⟨by rw [HT.out];rfl,HW.out.drew.trans ((ce.out.trans (fE.out.mono ce.out.size)).mono x_)⟩
theorem Rj(u v:Nat)(hu:u<2^64)(hv:v<2^64)(w:World):
 Calls prog 178 #[.int .u64 u, .int .u64 v] w (jq w (lU (Ieee.double.div u v))):=by
 have hca:(0:Nat)≠cap:=by decide
 by_cases h1:cap<rg u
 ·rw [A_ (.inl h1)]
  exact gL u v hu hv true _ _ _ _ _ _ (.inl ⟨rfl,rfl⟩) (lV hu (zc h1)) (lV hv rfl) (dO hu rfl) (fp hv rfl) (fp hu rfl) (dO hv rfl) w
 by_cases h2:cap<rg v
 ·rw [A_ (.inr h2)]
  exact gL u v hu hv false true _ _ _ _ _ (.inl ⟨rfl,rfl⟩) (lV hu (zb h1)) (lV hv (zc h2)) (dO hu rfl) (fp hv rfl) (fp hu rfl) (dO hv rfl) w
 have n1:=lV hu (zb h1);have n2:=lV hv (zb h2)
 by_cases i1:rg u=cap
 ·by_cases i2:rg v=cap
  ·rw [CQ i1 i2]
   exact gL u v hu hv false false true _ true _ _ (.inl ⟨rfl,rfl⟩) n1 n2 (dO hu (zc i1)) (fp hv rfl) (fp hu rfl) (dO hv (zc i2)) w
  ·rw [L_ i1 (by omega)]
   exact gL u v hu hv false false true false false _ _ (.inr (.inl ⟨rfl,rfl,rfl⟩)) n1 n2 (dO hu (zc i1)) (fp hv rfl) (fp hu (zb (by omega))) (dO hv (zb i2)) w
 ·by_cases z2:rg v=0
  ·by_cases z1:rg u=0
   ·rw [yd z1 z2]
    exact gL u v hu hv false false false true _ true _ (.inl ⟨by cases decide (rg v=cap)<;>rfl,rfl⟩) n1 n2 (dO hu (zb i1)) (fp hv (zc z2)) (fp hu (zc z1)) (dO hv rfl) w
   ·rw [F7 z2 (by omega) z1]
    exact gL u v hu hv false false false false false true _ (.inr (.inl ⟨rfl,rfl,rfl⟩)) n1 n2 (dO hu (zb i1)) (fp hv (zc z2)) (fp hu (zb z1)) (dO hv (zb (by omega))) w
  ·by_cases i2:rg v=cap
   ·rw [Ma i2 (by omega)]
    exact gL u v hu hv false false false (decide (rg u=0)) true false _ (.inr (.inr ⟨by cases decide (rg u=0)<;>rfl,rfl,rfl,rfl⟩)) n1 n2 (dO hu (zb i1)) (fp hv (zb z2)) (fp hu rfl) (dO hv (zc i2)) w
   ·by_cases z1:rg u=0
    ·rw [F8 z1 (by omega) z2]
     exact gL u v hu hv false false false true false false _ (.inr (.inr ⟨rfl,rfl,rfl,rfl⟩)) n1 n2 (dO hu (zb i1)) (fp hv (zb z2)) (fp hu (zc z1)) (dO hv (zb i2)) w
    ·rw [RK (by omega) (by omega) z1 z2]
     exact Ri u v hu hv z2 n1 n2 (dO hu (zb i1)) (fp hu (zb z1)) (dO hv (zb i2)) (fp hv (zb z2)) w
theorem tC{w:World}{g g' i:Nat}{v x y z:Value}(h:w.cell? ⟨g,i,none⟩=some v)(fa:g≠g'):(tR w g' x y z).cell? ⟨g,i,none⟩=some v:=by
 unfold tR;have e: ∀j,(⟨g,i,none⟩:Addr)≠⟨g',j,none⟩:=fun j h=>fa (ZW Addr.block h)
 rw [ZF _ _ _ _ (e 2).symm,ZF _ _ _ _ (e 1).symm,ZF _ _ _ _ (e 0).symm];exact h
theorem afF(w:World):D w (.slice none 0 0) 0:=by
 show DS w (.slice none 0 0) (nd 0) 0;rw [ib];exact⟨none,0,rfl,za _,by unfold maxLen;omega,by simp,aT.none_⟩
theorem CR(w:World)(o o' o2:Obj):Below w.heap.size w (((w.alloc o).alloc o').alloc o2):=(iS w o o').alloc (by simp;omega) o2
theorem Mb(s t:Bool)(va vb:Value)(M N:Nat)(P1 P2 p:Int)(i j:Nat)(w:World)(hi:(i:Int)=P1-p)(hj:(j:Int)=P2-p)(hp:p=min P1 P2)(yD:i≤2100)(hj2:j≤2100)(apA: -1074≤p)(ann:p≤1000)(hM:nd M≤4)(hN:nd N≤4)
 (ha:D w va M) (hb:D w vb N):
 Calls prog 235 #[.agg #[.bool s,va, .int .i64 P1], .agg #[.bool t,vb, .int .i64 P2]] w (Gk w (sf s t (M*2^i) (N*2^j)) (oJ s t (M*2^i) (N*2^j)) p):=by
 obtain⟨A1,k1,rfl⟩:=ha.shape;obtain⟨A2,k2,rfl⟩:=hb.shape;have HA:=J ha;have HB:=J hb;have hmn:min P1 P2=p:=hp.symm;have dz:IntKind.i64.wrap (P1-p)=(i:Int):=by rw [←hi];exact Zs _ (by omega)
 have hw2:IntKind.i64.wrap (P2-p)=(j:Int):=by rw [←hj];exact Zs _ (by omega)
 obtain⟨B,hB⟩: ∃B,B=sf s t (M*2^i) (N*2^j):=⟨_,rfl⟩;obtain⟨R,hR⟩: ∃R,R=oJ s t (M*2^i) (N*2^j):=⟨_,rfl⟩;rw [←hB,←hR];have HBB:=J hB;have oj:=J hR;have S1:=J (fun va w (h:D w va M)=>gM va M i i w (by omega) (by omega) rfl h)
 have S2:=J (fun va w (h:D w va N)=>gM va N j j w (by omega) (by omega) rfl h)
 have lj:=eC M i;have gW:=eC N j;generalize M*2^i=a at *;generalize N*2^j=b at *;clear ha hb hp hi hj hB hR;go_enter func235,ntmps235;go_wp2_with fail;clear hmn;have T:=198;clear T;have b1:ai (((w.alloc (.cells #[.bool s, .slice A1 (nd M) k1, .int .i64 P1] 198)).alloc (.cells #[.bool t, .slice A2 (nd N) k2, .int .i64 P2] 198)).alloc (.cells #[.bool false, .slice none 0 0, .int .i64 0] 198)) w.heap.size 198 #[.bool s, .slice A1 (nd M) k1, .int .i64 P1]:=((ai.new w _ _).alloc _).alloc _
 have b2:ai (((w.alloc (.cells #[.bool s, .slice A1 (nd M) k1, .int .i64 P1] 198)).alloc (.cells #[.bool t, .slice A2 (nd N) k2, .int .i64 P2] 198)).alloc (.cells #[.bool false, .slice none 0 0, .int .i64 0] 198)) (w.heap.size+1) 198 #[.bool t, .slice A2 (nd N) k2, .int .i64 P2]:=by
  have:=ai.new (w.alloc (.cells #[.bool s, .slice A1 (nd M) k1, .int .i64 P1] 198)) 198 #[.bool t, .slice A2 (nd N) k2, .int .i64 P2];rw [World.size_alloc]at this;exact this.alloc _
 have b3:ai (((w.alloc (.cells #[.bool s, .slice A1 (nd M) k1, .int .i64 P1] 198)).alloc (.cells #[.bool t, .slice A2 (nd N) k2, .int .i64 P2] 198)).alloc (.cells #[.bool false, .slice none 0 0, .int .i64 0] 198)) (w.heap.size+1+1) 198 #[.bool false, .slice none 0 0, .int .i64 0]:=by
  have:=ai.new ((w.alloc (.cells #[.bool s, .slice A1 (nd M) k1, .int .i64 P1] 198)).alloc (.cells #[.bool t, .slice A2 (nd N) k2, .int .i64 P2] 198)) 198 #[.bool false, .slice none 0 0, .int .i64 0];rw [World.size_alloc,World.size_alloc]at this;exact this
 have hW:=CR w (.cells #[.bool s, .slice A1 (nd M) k1, .int .i64 P1] 198) (.cells #[.bool t, .slice A2 (nd N) k2, .int .i64 P2] 198) (.cells #[.bool false, .slice none 0 0, .int .i64 0] 198);generalize((w.alloc (.cells #[.bool s, .slice A1 (nd M) k1, .int .i64 P1] 198)).alloc (.cells #[.bool t, .slice A2 (nd N) k2, .int .i64 P2] 198)).alloc (.cells #[.bool false, .slice none 0 0, .int .i64 0] 198)=W at *;obtain⟨c0,c1,c2⟩:=aH b1;obtain⟨d0,d1,d2⟩:=aH b2;have D1:=J (show D W.drew _ M from HA.out.below hW.drew)
 have D2:=J (show D W.drew _ N from HB.out.below hW.drew)
 have rJ:=J b1;have BX2:=J b2;have YX:=J b3;have HW:=J hW;have l1:=b1.lt;have l2:=b2.lt;have l3:=b3.lt;have x_:=hW.size;clear b1 b2 b3 hW
 go_region_held3 (fun w'=>w'.cell? ⟨w.heap.size,1,none⟩=some (.slice A1 (nd M) k1)∧w'.cell? ⟨w.heap.size,2,none⟩=some (.int .i64 P1)∧w'.cell? ⟨w.heap.size+1,1,none⟩=some (.slice A2 (nd N) k2)∧w'.cell? ⟨w.heap.size+1,2,none⟩=some (.int .i64 P2)) (first|go_keep|exact K3.out)
  (first
   |(go_at_call 239;(with_reducible refine(S1.out _ _ D1.out).mono ?_);rintro e w3 ⟨v3,rfl,ll,JP,bq⟩;have ou:=J ll;have HF3:=J JP;have adP:=J (rJ.out.drew.below bq l1);have adO:=J (BX2.out.drew.below bq l2);have agF:=J (YX.out.drew.below bq l3);have K3:=J (iT adP.out adO.out);have dF:=J bq;clear ll bq JP)
   |(go_at_call 239;(with_reducible refine(S2.out _ _ (D.below D2.out dF.out)).mono ?_);rintro e w4 ⟨v4,rfl,vg,Wi,cu⟩;have yE:=J vg;have YY:=J (ou.out.below cu);have HF4:=J Wi;have E9:=J (adP.out.below cu adP.out.lt);have Qi:=J (adO.out.below cu adO.out.lt);have JQ:=J (agF.out.below cu agF.out.lt);have K3:=J (iT E9.out Qi.out);have ce:=J (dF.out.trans (cu.mono dF.out.size));clear vg cu Wi))
 clear c0 c1 c2 d0 d1 d2 dz hw2;obtain⟨c0,c1,c2⟩:=aH E9.out;obtain⟨d0,d1,d2⟩:=aH Qi.out;obtain⟨r0,r1,r2⟩:=aH JQ.out;obtain⟨q0,q1,q2⟩:=ku JQ.out;have lw4:w.heap.size+1+1<w4.heap.size:=JQ.out.lt
 by_cases gK:s=t
 ·subst gK
  have Vd:=J (show B=s∧R=a+b from by
   rw [HBB.out,oj.out];unfold sf oJ;rw [zh rfl,zh rfl];exact⟨rfl,rfl⟩)
  go_wp2_with fail
  go_region_held3 (fun w'=>w'.cell? ⟨w.heap.size,0,none⟩=some (.bool s)) (first|go_keep|exact c5|exact tC c5 (by omega))
   (first
    |(go_at_call 245;refine(Di v3 v4 a b w4.drew (by omega) (by omega) (show D w4.drew v3 a from YY.out) (show D w4.drew v4 b from yE.out)).mono ?_;rintro e w5 ⟨v5,rfl,ow,Fz,bT⟩;obtain⟨A5,k5,rfl⟩:=ow.shape;have ya:=J ow;have HF5:=J Fz;have fE:=J bT;have Ve:=J (E9.out.drew.below bT E9.out.lt);have xM:=J (JQ.out.drew.below bT lw4);have c5:=(aH Ve.out).1;obtain⟨r50,r51,r52⟩:=aH xM.out;obtain⟨q50,q51,q52⟩:=ku xM.out;clear ow Fz bT))
  go_wp2_with fail
  obtain⟨z0,z1,z2⟩:=aH (kw (x:= .bool s) (y:= .slice A5 (nd (a+b)) k5) (z:= .int .i64 p) xM.out);unfold tR at z0 z1 z2;refine zi (v:= .agg #[.bool s, .slice A5 (nd (a+b)) k5, .int .i64 p]) (by simp [results,results235,go_sem,z0,z1,z2]) rfl ⟨_,by rw [Vd.out.1],?_,?_⟩
  ·rw [Vd.out.2]
   exact ya.out.set3 (fun h=>by have:=HF5.out _ h;have h9:w.heap.size+1+1<w4.heap.size:=lw4;simp at this;omega)
  ·exact gH (HW.out.drew.trans ((ce.out.drew.trans (fE.out.mono ce.out.size)).mono x_)) (by omega)
 ·have hsb:(s==t)=false:=by rw [zf];exact gK
  go_wp2_with fail
  clear hsb;refine(uI v3 v4 a b _ (by omega) YY.out yE.out).mono ?_
  rintro e w5 ⟨rfl,n5,rfl⟩
  rcases ZG a b with h|h|h
  ·have Vd:=J (show B=t∧R=b-a from by
    rw [HBB.out,oj.out];unfold sf oJ;rw [ze gK,ze gK,ze (by omega),ze (by omega),zh h];exact⟨rfl,rfl⟩)
   rw [vJ h];go_wp2_with fail
   go_region_held3 (fun w'=>w'.cell? ⟨w.heap.size+1,0,none⟩=some (.bool t)) (first|go_keep|exact c5|exact tC c5 (by omega))
    (first
     |(go_at_call 291;refine(Sf v4 v3 b a _ (by omega) (by omega) (show D (w4.drewN n5).drew v4 b from yE.out) (show D (w4.drewN n5).drew v3 a from YY.out)).mono ?_;rintro e w6 ⟨v5,rfl,ow,Fz,bT⟩;obtain⟨A5,k5,rfl⟩:=ow.shape;have ya:=J ow;have HF5:=J Fz;have fE:=J bT;have Ve:=J (((Qi.out.drewN n5).drew).below bT Qi.out.lt);have xM:=J (((JQ.out.drewN n5).drew).below bT lw4);have c5:=(aH Ve.out).1;obtain⟨r50,r51,r52⟩:=aH xM.out;obtain⟨q50,q51,q52⟩:=ku xM.out;clear ow Fz bT))
   go_wp2_with fail
   obtain⟨z0,z1,z2⟩:=aH (kw (x:= .bool t) (y:= .slice A5 (nd (b-a)) k5) (z:= .int .i64 p) xM.out);unfold tR at z0 z1 z2;refine zi (v:= .agg #[.bool t, .slice A5 (nd (b-a)) k5, .int .i64 p]) (by simp [results,results235,go_sem,z0,z1,z2]) rfl ⟨_,by rw [Vd.out.1],?_,?_⟩
   ·rw [Vd.out.2]
    exact ya.out.set3 (fun h=>by have:=HF5.out _ h;have h9:w.heap.size+1+1<w4.heap.size:=lw4;simp at this;omega)
   ·exact gH (HW.out.drew.trans ((((below_drewN ce.out n5).drew).trans (fE.out.mono ce.out.size)).mono x_)) (by omega)
  ·have Vd:=J (show B=false∧R=0 from by
    rw [HBB.out,oj.out];unfold sf oJ;rw [ze gK,ze gK,zh h,ze (by omega)];exact⟨rfl,by omega⟩)
   rw [sj h];go_wp2_with fail;obtain⟨z0,z1,z2⟩:=aH (kw (x:= .bool false) (y:= .slice none 0 0) (z:= .int .i64 p) (JQ.out.drewN n5));unfold tR at z0 z1 z2;refine zi (v:= .agg #[.bool false, .slice none 0 0, .int .i64 p]) (by simp [results,results235,go_sem,z0,z1,z2]) rfl ⟨_,by rw [Vd.out.1],?_,?_⟩
   ·rw [Vd.out.2];exact afF _
   ·exact gH (HW.out.drew.trans ((below_drewN ce.out n5).mono x_)) (by omega)
  ·have Vd:=J (show B=s∧R=a-b from by
    rw [HBB.out,oj.out];unfold sf oJ;rw [ze gK,ze gK,ze (by omega),zh h,ze (by omega)];exact⟨rfl,rfl⟩)
   rw [vK h];go_wp2_with fail
   go_region_held3 (fun w'=>w'.cell? ⟨w.heap.size,0,none⟩=some (.bool s)) (first|go_keep|exact c5|exact tC c5 (by omega))
    (first
     |(go_at_call 291;refine(Sf v3 v4 a b _ (by omega) (by omega) (show D (w4.drewN n5).drew v3 a from YY.out) (show D (w4.drewN n5).drew v4 b from yE.out)).mono ?_;rintro e w6 ⟨v5,rfl,ow,Fz,bT⟩;obtain⟨A5,k5,rfl⟩:=ow.shape;have ya:=J ow;have HF5:=J Fz;have fE:=J bT;have Ve:=J (((E9.out.drewN n5).drew).below bT E9.out.lt);have xM:=J (((JQ.out.drewN n5).drew).below bT lw4);have c5:=(aH Ve.out).1;obtain⟨r50,r51,r52⟩:=aH xM.out;obtain⟨q50,q51,q52⟩:=ku xM.out;clear ow Fz bT))
   go_wp2_with fail
   obtain⟨z0,z1,z2⟩:=aH (kw (x:= .bool s) (y:= .slice A5 (nd (a-b)) k5) (z:= .int .i64 p) xM.out);unfold tR at z0 z1 z2;refine zi (v:= .agg #[.bool s, .slice A5 (nd (a-b)) k5, .int .i64 p]) (by simp [results,results235,go_sem,z0,z1,z2]) rfl ⟨_,by rw [Vd.out.1],?_,?_⟩
   ·rw [Vd.out.2]
    exact ya.out.set3 (fun h=>by have:=HF5.out _ h;have h9:w.heap.size+1+1<w4.heap.size:=lw4;simp at this;omega)
   ·exact gH (HW.out.drew.trans ((((below_drewN ce.out n5).drew).trans (fE.out.mono ce.out.size)).mono x_)) (by omega)
end Go.Proofs.YtcpmiplofbfmfaaGreatDoor
namespace FloM
open Ieee
theorem vD{u v:Nat}(h:cap<rg u∨cap<rg v):double.add u v=none:=by
 unfold Format.add
 rcases h with h|h
 ·rw [fb h];cases double.read v<;>rfl
 ·rw [fb h];cases double.read u<;>rfl
theorem CS{u v:Nat}(hu:u<2^64)(hv:v<2^64)(h:rg u=cap)(h2:rg v=cap):double.add u v=if u=v then some u else none:=by
 unfold Format.add;rw [cz h,cz h2];have e1:=CV hu;have e2:=CV hv;rw [h]at e1;rw [h2]at e2
 by_cases hs:bP u=bP v
 ·have:u=v:=by rw [←e1,←e2,hs]
  subst this;simp only [Datum.sum,Ic,ZO,Format.write,cP,eX,e1]
 ·have:u≠v:=fun e=>hs (by rw [e])
  rw [ze this];simp only [Datum.sum,ze hs,Option.map_none]
theorem yQ{u v:Nat}(hu:u<2^64)(h:rg u=cap)(h2:rg v<cap):double.add u v=some u:=by
 unfold Format.add;have e1:=CV hu;rw [h]at e1;rw [cz h,bN h2];simp only [Datum.sum,ZO,Format.write,cP,eX,e1]
theorem Mc{u v:Nat}(hv:v<2^64)(h:rg v=cap)(h2:rg u<cap):double.add u v=some v:=by
 rw [Rt];exact yQ hv h h2
theorem Md{u v:Nat}(hu:u<2^64)(hv:v<2^64)(h:rg u=0)(h2:rg v=0):double.add u v=some (u&&&v):=by
 have h0:(0:Nat)<cap:=by decide
 rw [Kf (by omega) (by omega)]
 have s1:sv u=0:=by unfold sv;rw [h,jp];split<;>rfl
 have s2:sv v=0:=by unfold sv;rw [h2,jp];split<;>rfl
 rw [s1,s2,Int.add_zero,zh rfl];have e1:=CV hu;have e2:=CV hv;rw [h]at e1;rw [h2]at e2;have r0:rq (0:Int).natAbs 1=0:=sa 1;rw [r0];refine ZW some ?_;have hs0: ∀b:Bool,bP (wd b 0)=b:=fun b=>F_ b 0 (by decide)
 generalize bP u=s at *;generalize bP v=t at *;rw [←e1,←e2];have hw0:wd false 0=0:=rfl
 cases s<;>cases t
 ·rw [hw0,Nat.zero_and];rfl
 ·rw [hw0,Nat.zero_and];rfl
 ·rw [hw0,Nat.and_zero];rfl
 ·rw [Nat.and_self];rfl
theorem WE(u v:Nat)(hv:v<2^64):double.sub u v=double.add u (if cap<rg v then 9221120237041090560 else(if v<2^63 then 2^63+v else v-2^63)):=by
 by_cases h:cap<rg v
 ·rw [zh h,vD (.inr (by decide))]
  unfold Format.sub;rw [fb h]
  cases double.read u<;>rfl
 ·rw [ze h]
  have hr:rg (if v<2^63 then 2^63+v else v-2^63)=rg v:=by unfold rg;split<;>omega
  have hs:bP (if v<2^63 then 2^63+v else v-2^63)= !bP v:=by
   unfold bP
   split
   ·next h=>rw [Ze h,show(2^63+v)/2^63=1 by omega];rfl
   ·next h=>rw [show v/2^63=1 by omega,Ze (by omega)];rfl
  generalize(if v<2^63 then 2^63+v else v-2^63)=t at *
  unfold Format.sub Format.add
  congr 2
  rcases zj (rg v) cap with h1|h1
  ·rw [bN h1,bN (show rg t<cap by omega),hr,hs];rfl
  ·rw [cz (show rg v=cap by omega),cz (show rg t=cap by omega),hs];rfl
end FloM
