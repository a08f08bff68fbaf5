/- Shrink: from a row's start to what the walks ask. -/
import Derived.Test.YtcpmiplofbfmfaaGreatDoorA23
import Derived.PinnedBridge
import Derived.Lay
import Derived.LaidOnce
import Derived.Shelf.Vars
set_option linter.all false
namespace Go
variable {H:Type} {enc:TypeId×Value→H}
theorem qo{a:Assume}{C:Checked}{os:Os}{f:FuncId}{fn:Func}{s:ChangeSpec}{abC:List PathCond}{xV fresh Lz abD:Bool}{X:World→Array Value→Prop}
 (hX: ∀(w w':World) (args:Array Value),w.heap=w'.heap→X w args→X w' args)
 (own:ownKnob C.prog.godebug=none) (td:os.Started) (aeq:C.prog.inits.idxOf? f=none) (Cr:C.prog.funcs[f]? =some fn)
 (aam: ∃(w:World) (tape:Tape) (i:Input),w.os=os∧(w.forCall tape i).Shaped C.prog∧i.vars=[]∧Input.okWide C.prog (w.forCall tape i) .any w.heap.size f i∧
  ((s.pre enc C.prog fn abC xV (w.forCall tape i).memory i.args∧X (w.forCall tape i).memory i.args)∧sizedMet enc C.prog fn (OpenSpec.ofChange s) xV (w.forCall tape i).memory i.args)∧a.holds C.prog (lone (Frame.enter C.prog f i.args .normal) [] (w.forCall tape i)))
 (VE: ∀(W:World) (base:Nat) (args:Array Value) (ds gs:List (DataW H)) (Ch:List MemPlace),
  (∀(j:Nat) t v,fn.params[j]? =some t→args[j]? =some v→Value.okWide C.prog W .any base t v)→
  DataW.Whole enc C.prog fn.params.toList s.vars xV W args.toList ds gs Ch→
  X W args→W.ShapedOpen C.prog→
  (DataW.weightsEach C.prog (fn.params.toList++s.plain.varTypes C.prog) (ds++gs)).all (·≤reachBytes)=true→
  Calls C.prog f args W fun e W'=> ∃v,e= .returned v∧s.post enc C.prog fn xV fresh Lz abD W args v W'):
 ReturnsInHanded a C os f .any (fun w args=>(s.pre enc C.prog fn abC xV w args∧X w args)∧sizedMet enc C.prog fn (OpenSpec.ofChange s) xV w args) (s.post enc C.prog fn xV fresh Lz abD):=by
 refine returnsInHanded_of_calls own td aeq aam ?_;intro w tape i _ JO _ hok aai _;obtain⟨_,_,_,fn',alx,_,_,_,_,Fh⟩:=hok;have e:fn'=fn:=zz (alx.symm.trans Cr);subst e;obtain⟨⟨⟨ds,gs,Ch,hw,_⟩,hx⟩,hz⟩:=aai;have hw':=DataW.Whole.of_heap (w':=w.forCall tape i) (by rfl) hw
 refine(VE (w.forCall tape i) w.heap.size i.args ds gs Ch Fh hw' (hX _ _ _ (by rfl) hx) JO (hz.weights hw)).mono fun e W' ⟨v,he,hp⟩=> ?_
 subst he;exact ChangeSpec.post_blind hp
end Go
namespace Go.Proofs.YtcpmiplofbfmfaaGreatDoor
open Go.Proofs.Tryz
open Go.RowKit FloM Go.Lib
theorem TU:ownKnob prog.godebug=none:=by kernel_rfl
def lM:List (String×DataW Unit):=Rows.shrinkFoldsRow.laid
theorem ac0:prog.globalNamed "internal/strconv.pow10Tab" =some 8:=by kernel_rfl
theorem ajG:(prog.globals[8]?).map (·.type)=some 353:=by kernel_rfl
theorem ajH:prog.underlying 353=some (.array 696 352):=by kernel_rfl
theorem ajI:(prog.globals[7]?).map (·.type)=some 336:=by kernel_rfl
theorem ajJ:prog.underlying 336=some (.array 20 24):=by kernel_rfl
theorem ajK:prog.cellsOf 336=20:=by kernel_rfl
theorem c64:prog.cellsOf 24=1:=by kernel_rfl
theorem ac3:prog.underlying 24=some (.int .u64):=by kernel_rfl
theorem af8:prog.cellsOf 352=2:=by kernel_rfl
theorem ac4{w:World}(h:VarReads prog w "internal/strconv.uint64pow10" (tabData .u64 Lib.pow10Tab)):Lib.TabIs prog w "internal/strconv.uint64pow10" .u64 Lib.pow10Tab:=by
 obtain⟨g,t,cs,xU,p,hg,hty,Fj,hd⟩:=h;obtain rfl:=zz (afL.symm.trans hg);obtain rfl:=zz (ajI.symm.trans hty);unfold TabIs;rw [Fj,←cells_of_tab ajJ ac3 c64 ajK hd]
theorem ajM:prog.underlying 352=some (TypeDesc.struct #[{name:= "hi",type:=24,offset:=0,embedded:=false,tag:= "",pkgPath:= "internal/strconv",byteOffset:=0},{name:= "lo",type:=24,offset:=1,embedded:=false,tag:= "",pkgPath:= "internal/strconv",byteOffset:=8}]):=by kernel_rfl
theorem TW:Pinned.pow10Rows.length=696:=by decide+kernel
theorem ac5{w:World}(h:VarReads prog w "internal/strconv.pow10Tab" Pinned.pow10Tab):im w:=by
 obtain⟨g,t,cs,xU,p,hg,hty,Fj,hd⟩:=h;obtain rfl:=zz (ac0.symm.trans hg);obtain rfl:=zz (ajG.symm.trans hty)
 have QP: ∀i,i<696→w.cell? ⟨8,i*2,none⟩=some (.int .u64 ((pw i).1:Int))∧w.cell? ⟨8,i*2+1,none⟩=some (.int .u64 ((pw i).2:Int)):=by
  intro i hi;obtain⟨anU,d,q,hdi,he⟩:=array_elem ajH hd i hi
  have hpw:Pinned.pow10Rows[i]? =some (pw i):=by
   unfold pw;rw [ZX,zk (by rw [TW];exact hi)]
   rfl
  rw [zT,hpw]at hdi;simp only [ZO,Option.some.injEq]at hdi;subst hdi;rw [af8]at he
  have s_:=ints_of_struct (zs:=[((pw i).1:Int),((pw i).2:Int)]) ajM (fun j f hj=>by
   match j,hj with
   |0,hj=>simp at hj;subst hj;exact⟨ac3,rfl,c64⟩
   |1,hj=>simp at hj;subst hj;exact⟨ac3,rfl,c64⟩
   |j+2,hj=>simp at hj) (by rw [af8];rfl) he
  have e0:=ZW (·[0]?) s_
  have e1:=ZW (·[1]?) s_
  simp only [List.getElem?_take,List.getElem?_drop]at e0 e1
  constructor
  ·rw [World.var?_cell ac0 Fj (i*2),←Array.getElem?_toList]
   simpa using e0
  ·rw [World.var?_cell ac0 Fj (i*2+1),←Array.getElem?_toList]
   simpa using e1
 refine⟨?_,QP⟩;have h0:=(QP 0 (by decide)).1
 rcases zj 8 w.heap.size with h|h
 ·exact h
 ·unfold World.cell? at h0
  rw [Array.getElem?_eq_none h]at h0;simp at h0
theorem ac6:(Rows.laid_internal_strconv_uint64pow10:DataW Unit)=tabData .u64 Lib.pow10Tab:=by rfl
theorem ajN:prog.globalNamed "math/bits.deBruijn64tab" =some 11:=by kernel_rfl
theorem ac7{w:World}{d:DataW Unit}(h:VarReads prog w "math/bits.deBruijn64tab" d):11+1≤w.heap.size:=by
 obtain⟨g,t,cs,xU,p,hg,hty,Fj,hd⟩:=h;unfold World.var? at Fj;rw [ajN]at Fj
 rcases zj 11 w.heap.size with h|h
 ·exact h
 ·simp [Array.getElem?_eq_none h]at Fj
theorem ac8{W:World}(hL:laidMetH prog lM W)(JO:W.ShapedOpen prog):gV W:=by
 rw [MakeChecks.laidMetH_plain _ _ _ (by kernel_rfl)]at hL
 refine⟨ac5 (laidMet.reads hL (by simp [lM,Rows.shrinkFoldsRow,Rows.laid_internal_strconv_pow10Tab])),ac4 (laidMet.reads hL ?_),Go.Proofs.cell_of_shapedOpen_int (zero:= #[.int .i64 0]) (t:=3) JO (Zq (by kernel_rfl)) (by kernel_rfl) rfl (by kernel_rfl) (by kernel_rfl) underlying3,ac7 (d:=Rows.laid_math_bits_deBruijn64tab) (laidMet.reads hL ?_)⟩
 ·rw [←ac6]
  simp only [lM,Rows.shrinkFoldsRow];exact .tail _ (.tail _ (.tail _ (.head _)))
 ·simp only [lM,Rows.shrinkFoldsRow]
  exact .tail _ (.head _)
end Go.Proofs.YtcpmiplofbfmfaaGreatDoor
namespace ShrM
def ax(n:Int):Bool:=decide (-4611686018427387904≤n)&&decide (n≤4611686018427387903)
def ir(n:Int):Int×Int:=if ax n then(n,0)else(0,10)
def yz(a b:Int):Int×Int:=ir (a+b)
def qp(a b:Int):Int×Int:=ir (a-b)
def yA(a b:Int):Int×Int:=ir (a*b)
def nJ(a:Int):Int×Int:=ir (-a)
def nK(a:Int):Int×Int:=ir (if a<0 then -a else a)
def Ei(a b:Int):Bool:=decide (a.tmod b≠0)&&(decide (a.tmod b<0)!=decide (b<0))
def flQ(a b:Int):Int:=if Ei a b then a.tdiv b-1 else a.tdiv b
def Ue(a b:Int):Int:=if Ei a b then a.tmod b+b else a.tmod b
def vr(a b:Int):Int×Int:=if b=0 then(0,11)else ir (flQ a b)
def xt(a b:Int):Int×Int:=if b=0 then(0,11)else(Ue a b,0)
def nU(a b:Int):Int×Int:=if b=0 then(0,11)else ir (a.tdiv b)
def ui(a b:Int):Int×Int:=if b=0 then(0,11)else(a.tmod b,0)
def dh(m:Nat)(ay:Bool):Int×Int:=ir (if ay then -(m:Int)else(m:Int))
def yB(a b:Int):Int:=if a<b then -1 else if b<a then 1 else 0
def kR:List UInt8→List UInt8→Int
 |[],[]=>0
 |[],_::_=> -1
 |_::_,[]=>1
 |a::s,b::t=>if a<b then -1 else if b<a then 1 else kR s t
def qq(n:Int):List UInt8:=if n<0 then 126::Go.Lib.decDigits n.natAbs else Go.Lib.decDigits n.natAbs
theorem bF{n:Int}(h:ax n=true): -4611686018427387904≤n∧n≤4611686018427387903:=by
 unfold ax at h;simp at h;exact h
theorem fS{n:Int}(h1: -4611686018427387904≤n)(h2:n≤4611686018427387903):ax n=true:=by
 unfold ax;simp;exact⟨h1,h2⟩
theorem fk{n:Int}(h:ax n=true):n.natAbs≤4611686018427387904:=by have:=bF h;omega
theorem G5(a b:Int):a*b=if(decide (a<0)!=decide (b<0))then -((a.natAbs*b.natAbs:Nat):Int)else((a.natAbs*b.natAbs:Nat):Int):=by
 rw [←Int.natAbs_mul]
 by_cases ha:a<0<;>by_cases hb:b<0
 ·have:0≤a*b:=Int.mul_nonneg_of_nonpos_of_nonpos (by omega) (by omega)
  simp [ha,hb];omega
 ·have:a*b≤0:=Int.mul_nonpos_of_nonpos_of_nonneg (by omega) (by omega)
  simp [ha,hb];omega
 ·have:a*b≤0:=Int.mul_nonpos_of_nonneg_of_nonpos (by omega) (by omega)
  simp [ha,hb];omega
 ·have:0≤a*b:=Int.mul_nonneg (by omega) (by omega)
  simp [ha,hb];omega
theorem xu(a b:Int):yA a b=dh (a.natAbs*b.natAbs) (decide (a<0)!=decide (b<0)):=by
 unfold yA dh;rw [G5]
theorem pX(a:Int):(a<0∧∃x:Nat,a= -(x:Int)∧0<x∧a.natAbs=x)∨(¬a<0∧∃x:Nat,a=(x:Int)∧a.natAbs=x):=by
 by_cases h:a<0
 ·exact .inl ⟨h,a.natAbs,by omega,by omega,rfl⟩
 ·exact .inr ⟨h,a.natAbs,by omega,rfl⟩
theorem o_(a b:Int):a.tdiv b=if(decide (a<0)!=decide (b<0))then -((a.natAbs/b.natAbs:Nat):Int)else((a.natAbs/b.natAbs:Nat):Int):=by
 rcases pX a with⟨ha,x,hx,_,nx⟩|⟨ha,x,hx,nx⟩<;>rcases pX b with⟨hb,y,hy,_,ny⟩|⟨hb,y,hy,ny⟩<;>rw [nx,ny]<;>simp only [ha,hb,decide_true,decide_false,bne_self_eq_false,zJ,ZD]<;>rw [hx,hy]
 ·rw [Int.neg_tdiv,Int.tdiv_neg,Int.neg_neg];rfl
 ·rw [Int.neg_tdiv];rfl
 ·rw [Int.tdiv_neg];rfl
 ·rfl
theorem uZ(a b:Int):a.tmod b=if a<0 then -((a.natAbs%b.natAbs:Nat):Int)else((a.natAbs%b.natAbs:Nat):Int):=by
 rcases pX a with⟨ha,x,hx,_,nx⟩|⟨ha,x,hx,nx⟩<;>rcases pX b with⟨hb,y,hy,_,ny⟩|⟨hb,y,hy,ny⟩<;>rw [nx,ny]<;>simp only [ha,Ic,ZD]<;>rw [hx,hy]
 ·rw [Int.neg_tmod,Int.tmod_neg];rfl
 ·rw [Int.neg_tmod];rfl
 ·rw [Int.tmod_neg];rfl
 ·rfl
theorem Ej(a b:Int)(hb:b≠0):nU a b=dh (a.natAbs/b.natAbs) (decide (a<0)!=decide (b<0)):=by
 unfold nU dh;rw [ze hb,o_]
theorem vO(a b:Int)(hb:b≠0):(a.tmod b).natAbs<b.natAbs∧(a.tmod b<0→a<0)∧(0<a.tmod b→0≤a)∧(a.tmod b).natAbs=a.natAbs%b.natAbs:=by
 rw [uZ];have h:=zU a.natAbs (show 0<b.natAbs by omega)
 generalize a.natAbs%b.natAbs=r at *
 split<;>omega
theorem G6(a b:Int)(hb:b≠0)(h2:ax b=true):ui a b=dh (a.natAbs%b.natAbs) (decide (a<0)):=by
 have h1:=bF h2;have h:=zU a.natAbs (show 0<b.natAbs by omega)
 unfold ui dh;rw [ze hb,uZ];generalize a.natAbs%b.natAbs=r at *;unfold ir
 by_cases ha:a<0
 ·simp only [ha,decide_true,Ic];rw [zh (fS (by omega) (by omega))]
 ·simp only [ha,decide_false,ZD,zJ];rw [zh (fS (by omega) (by omega))]
theorem uj(a b:Int)(hb:b≠0)(h2:ax b=true):ax (Ue a b)=true∧(Ue a b=0↔a.tmod b=0):=by
 have h1:=bF h2;obtain⟨h3,_⟩:=vO a b hb;unfold Ue Ei
 by_cases h4:a.tmod b=0
 ·simp [h4];exact fS (by omega) (by omega)
 ·by_cases h5:a.tmod b<0<;>by_cases h6:b<0<;>simp [h4,h5,h6]
  ·exact fS (by omega) (by omega)
  ·exact⟨fS (by omega) (by omega),by omega⟩
  ·exact⟨fS (by omega) (by omega),by omega⟩
  ·exact fS (by omega) (by omega)
theorem Uf(x y:Nat)(hy:0<y)(h:x%y≠0):(x+y-1)/y=x/y+1:=by
 have e:=zR x y;have l:=zU x hy;have e2:y*(x/y+1)=y*(x/y)+y:=Nat.mul_succ _ _
 have h2:x+y-1=y*(x/y+1)+(x%y-1):=by
  rw [e2];generalize y*(x/y)=q at *;omega
 have h3:(x%y-1)/y=0:=Ze (by omega)
 rw [h2,Nat.mul_add_div hy,h3]
theorem G7(a b:Int)(hb:b≠0):vr a b=if(decide (a.tmod b≠0)&&(decide (a<0)!=decide (b<0)))then dh ((a.natAbs+b.natAbs-1)/b.natAbs) true else dh (a.natAbs/b.natAbs) (decide (a<0)!=decide (b<0)):=by
 obtain⟨h3,h4,h5,h6⟩:=vO a b hb;have ht:=o_ a b;unfold vr flQ Ei dh;rw [ze hb]
 by_cases hm:a.tmod b=0
 ·simp only [hm,ne_eq,not_true,decide_false,Ib,zJ,ZD];rw [ht]
 ·have hx:a.natAbs%b.natAbs≠0:=by omega
  rw [Uf _ _ (by omega) hx]
  have hs:decide (a.tmod b<0)=decide (a<0):=by
   rw [decide_eq_decide];constructor
   ·exact h4
   ·intro h;rcases Zy (a.tmod b) 0 with h7|h7
    ·exact h7
    ·have:=h5 (by omega);omega
  rw [hs];simp only [hm,ne_eq,not_false_eq_true,decide_true,zZ]
  cases hd:(decide (a<0)!=decide (b<0))
  ·rw [hd]at ht;simp only [zJ,ZD]at ht⊢;rw [ht]
  ·rw [hd]at ht;simp only [Ic]at ht⊢;rw [ht];congr 1;omega
end ShrM
set_option maxHeartbeats 1000000
namespace Go.Proofs.YtcpmiplofbfmfaaGreatDoor
open Go.Proofs.Tryz
open Go.Lib renaming hid→J
open Go.RowKit LamM CpsM ShrM
def R2(p:Int×Int)(w:World)(e:Ending)(w':World):Prop:=e= .returned (.tuple #[.int .i64 p.1, .int .i64 p.2])∧w=w'
theorem eZ(n:Int)(w:World):Calls prog 49 #[.int .i64 n] w fun e w'=>e= .returned (.bool (ax n))∧w=w':=by
 unfold ax
 cases h1:decide (-4611686018427387904≤n)<;>cases h2:decide (n≤4611686018427387903)
 all_goals
  go_enter func49,ntmps49
  go_wp2
  go_ret;exact⟨rfl,rfl⟩
theorem dL(n:Int)(w:World):Calls prog 54 #[.int .i64 n] w fun e w'=>e= .returned (.bool (ax n))∧w=w':=by
 unfold ax
 cases h1:decide (-4611686018427387904≤n)<;>cases h2:decide (n≤4611686018427387903)
 all_goals
  go_enter func54,ntmps54
  go_wp2
  go_ret;exact⟨rfl,rfl⟩
theorem xh(n:Int)(w:World):Calls prog 75 #[.int .i64 n] w (R2 (ir n) w):=by
 have HC:=J (fun w=>eZ n w)
 unfold R2 ir;generalize ax n=x at *
 cases x
 all_goals
  go_enter func75,ntmps75;go_wp2_with (go_at_call 49;(with_reducible refine(HC.out _).q ?_))
  go_ret2
  exact⟨rfl,rfl⟩
theorem ub(n:Int)(w:World):Calls prog 233 #[.int .i64 n] w (R2 (ir n) w):=by
 have HC:=J (fun w=>dL n w)
 unfold R2 ir;generalize ax n=x at *
 cases x
 all_goals
  go_enter func233,ntmps233;go_wp2_with (go_at_call 54;(with_reducible refine(HC.out _).q ?_))
  go_ret2
  exact⟨rfl,rfl⟩
theorem BI(a b:Int)(ha:ax a=true)(hb:ax b=true)(w:World):Calls prog 74 #[.int .i64 a, .int .i64 b] w fun e w'=>e= .returned (.int .i64 0)∧w=w':=by
 have HA:=J (fun w=>eZ a w)
 have HB:=J (fun w=>eZ b w)
 rw [ha]at HA;rw [hb]at HB;clear ha hb;go_enter func74,ntmps74;go_wp2_with (go_at_call 49;(first|(with_reducible refine(HA.out _).q ?_)|(with_reducible refine(HB.out _).q ?_)))
 go_ret;exact⟨rfl,rfl⟩
theorem DZ(a b:Int)(ha:ax a=true)(hb:ax b=true)(w:World):Calls prog 26 #[.int .i64 a, .int .i64 b] w (R2 (qp a b) w):=by
 have h1:=bF ha;have h2:=bF hb;have hw:wrap64 (a-b)=a-b:=zN _ (by omega)
 have HC:=J (fun w=>BI a b ha hb w)
 have HO:=J (fun w=>xh (a-b) w)
 have e:qp a b=ir (a-b):=rfl;rw [e];unfold R2 at *;generalize ir (a-b)=q at *;clear ha hb h1 h2;go_enter func26,ntmps26;go_wp2_with (first|(go_at_call 74;(with_reducible refine(HC.out _).q ?_))|(go_at_call 75;(with_reducible refine(HO.out _).q ?_)))
 go_ret2
 exact⟨rfl,rfl⟩
theorem rC(a b:Int)(ha:ax a=true)(hb:ax b=true)(w:World):Calls prog 169 #[.int .i64 a, .int .i64 b] w (R2 (qp a b) w):=by
 have h1:=bF ha;have h2:=bF hb;have hw:wrap64 (a-b)=a-b:=zN _ (by omega)
 have HA:=J (fun w=>dL a w)
 have HB:=J (fun w=>dL b w)
 rw [ha]at HA;rw [hb]at HB;have HO:=J (fun w=>ub (a-b) w)
 have e:qp a b=ir (a-b):=rfl;rw [e];unfold R2 at *;generalize ir (a-b)=q at *;clear ha hb h1 h2;go_enter func169,ntmps169;go_wp2_with (first|(go_at_call 54;(first|(with_reducible refine(HA.out _).q ?_)|(with_reducible refine(HB.out _).q ?_)))|(go_at_call 233;(with_reducible refine(HO.out _).q ?_)))
 go_ret2
 exact⟨rfl,rfl⟩
theorem TN(g c:Nat)(a b:Int)(ha:ax a=true)(hb:ax b=true)(w:World)(h0:w.cell? ⟨g,0,none⟩=some (.int .i64 a))(h1:w.cell? ⟨g,1,none⟩=some (.int .i64 b)):Calls prog 25 #[.slice (some ⟨g,0,none⟩) 2 c] w (R2 (yz a b) w):=by
 have e1:=bF ha;have e2:=bF hb;have hw:wrap64 (a+b)=a+b:=zN _ (by omega)
 have HA:=J (fun w=>eZ a w)
 have HB:=J (fun w=>eZ b w)
 have HS:=J (fun w=>eZ (a+b) w)
 rw [ha]at HA;rw [hb]at HB;have e:yz a b=ir (a+b):=rfl;rw [e];unfold R2 ir;clear ha hb e
 cases hx:ax (a+b)
 all_goals
  rw [hx]at HS;clear hx;go_enter func25,ntmps25;go_wp2_with fail;refine Zi 3 ?_;rw [zI];go_wp2_with (go_at_call 49;(with_reducible refine(HA.out _).q ?_));rw [zI];go_wp2_with (go_at_call 49;(with_reducible refine(HB.out _).q ?_));rw [zI];go_wp2_with fail;refine Zi 3 ?_;rw [zI];go_wp2_with (go_at_call 49;(with_reducible refine(HA.out _).q ?_));rw [zI];go_wp2_with (go_at_call 49;(with_reducible refine(HS.out _).q ?_))
  try rw [zI]
  try go_wp2_with fail
  go_ret2
  exact⟨rfl,rfl⟩
theorem TO(g c:Nat)(a:Int)(ha:ax a=true)(w:World)(h0:w.cell? ⟨g,0,none⟩=some (.int .i64 a)):Calls prog 25 #[.slice (some ⟨g,0,none⟩) 1 c] w (R2 (a,0) w):=by
 have e1:=bF ha;have HA:=J (fun w=>eZ a w)
 rw [ha]at HA;unfold R2;clear ha;go_enter func25,ntmps25;go_wp2_with fail;refine Zi 2 ?_;rw [zI];go_wp2_with (go_at_call 49;(with_reducible refine(HA.out _).q ?_));rw [zI];go_wp2_with fail;refine Zi 2 ?_;rw [zI];go_wp2_with (go_at_call 49;(with_reducible refine(HA.out _).q ?_));rw [zI];go_wp2_with fail
 go_ret2
 exact⟨rfl,rfl⟩
theorem GM(g c:Nat)(a b:Int)(ha:ax a=true)(hb:ax b=true)(w:World)(h0:w.cell? ⟨g,0,none⟩=some (.int .i64 a))(h1:w.cell? ⟨g,1,none⟩=some (.int .i64 b)):Calls prog 168 #[.slice (some ⟨g,0,none⟩) 2 c] w (R2 (yz a b) w):=by
 have e1:=bF ha;have e2:=bF hb;have hw:wrap64 (a+b)=a+b:=zN _ (by omega)
 have HA:=J (fun w=>dL a w)
 have HB:=J (fun w=>dL b w)
 have HT:=J (fun w=>ub a w)
 have HS:=J (fun w=>ub (a+b) w)
 have hta:ir a=(a,0):=zh ha;rw [hta]at HT;rw [ha]at HA;rw [hb]at HB;have e:yz a b=ir (a+b):=rfl;rw [e];unfold R2 ir at *;clear ha hb e hta
 cases hx:ax (a+b)
 all_goals
  rw [hx]at HS;clear hx;go_enter func168,ntmps168;go_wp2_with fail;refine Zi 3 ?_;rw [zI];go_wp2_with (go_at_call 54;(with_reducible refine(HA.out _).q ?_));rw [zI];go_wp2_with (go_at_call 54;(with_reducible refine(HB.out _).q ?_));rw [zI];go_wp2_with fail;refine Zi 3 ?_;rw [zI];go_wp2_with (go_at_call 233;(with_reducible refine(HT.out _).q ?_));rw [zI];go_wp2_with (go_at_call 233;(with_reducible refine(HS.out _).q ?_))
  try rw [zI]
  try go_wp2_with fail
  go_ret2
  exact⟨rfl,rfl⟩
theorem D0(a:Int)(ha:ax a=true)(w:World):Calls prog 23 #[.int .i64 a] w (R2 (nJ a) w):=by
 have HC:=J (fun w=>DZ 0 a rfl ha w)
 have e:qp 0 a=nJ a:=by unfold qp nJ;rw [Int.zero_sub]
 rw [e]at HC;unfold R2 at *;generalize nJ a=q at *;clear ha e;go_enter func23,ntmps23;go_wp2_with (go_at_call 26;(with_reducible refine(HC.out _).q ?_))
 go_ret2
 exact⟨rfl,rfl⟩
theorem xi(a:Int)(ha:ax a=true)(w:World):Calls prog 103 #[.int .i64 a] w (R2 (nJ a) w):=by
 have HC:=J (fun w=>rC 0 a rfl ha w)
 have e:qp 0 a=nJ a:=by unfold qp nJ;rw [Int.zero_sub]
 rw [e]at HC;unfold R2 at *;generalize nJ a=q at *;clear ha e;go_enter func103,ntmps103;go_wp2_with (go_at_call 169;(with_reducible refine(HC.out _).q ?_))
 go_ret2
 exact⟨rfl,rfl⟩
def R2b(p:Int×Int)(w:World)(e:Ending)(w':World):Prop:=e= .returned (.tuple #[.int .i64 p.1, .int .i64 p.2])∧Below w.heap.size w w'
theorem TP(a:Int)(ha:ax a=true)(w:World):Calls prog 24 #[.int .i64 a] w (R2b (nK a) w):=by
 by_cases h:a<0
 ·have HC:=J (fun w=>D0 a ha w)
  have e:nJ a=nK a:=by unfold nJ nK;rw [zh h]
  rw [e]at HC;unfold R2 R2b at *;generalize nK a=q at *;clear ha e;go_enter func24,ntmps24;go_wp2_with (go_at_call 23;(with_reducible refine(HC.out _).q ?_))
  go_ret2
  exact⟨rfl,zg _ _⟩
 ·have e:nK a=(a,0):=by unfold nK ir;rw [ze h,zh ha]
  have HC:=J (fun W (h0:W.cell? ⟨w.heap.size,0,none⟩=some (.int .i64 a))=>TO w.heap.size 1 a ha W h0)
  rw [e];unfold R2 R2b at *;clear ha e;go_enter func24,ntmps24;go_wp2_with (go_at_call 25;(with_reducible refine(HC.out _ (by go_simp)).q ?_))
  go_ret2
  exact⟨rfl,(zg _ _).alloc (za _) _⟩
theorem GN(a:Int)(ha:ax a=true)(w:World):Calls prog 104 #[.int .i64 a] w (R2 (nK a) w):=by
 by_cases h:a<0
 have fD:=J (rfl:0=0)
 rotate_left;have Vk:=J (rfl:0=0)
 all_goals
  first
   |replace fD:=fD
    have HC:=J (fun w=>xi a ha w)
    have e:nJ a=nK a:=by unfold nJ nK;rw [zh h]
   |have HC:=J (fun w=>rC a 0 ha rfl w)
    have e:qp a 0=nK a:=by unfold qp nK;rw [ze h,Int.sub_zero]
  rw [e]at HC;unfold R2 at *;generalize nK a=q at *;clear ha e;go_enter func104,ntmps104;go_wp2_with ((first|replace fD:=fD;go_at_call 103|replace Vk:=Vk;go_at_call 169);(with_reducible refine(HC.out _).q ?_))
  go_ret2
  exact⟨rfl,rfl⟩
theorem uV(a:Int)(ha:ax a=true)(w:World):Calls prog 77 #[.int .i64 a] w fun e w'=>e= .returned (.int .u64 (a.natAbs:Int))∧w=w':=by
 have h1:=bF ha
 by_cases h:a<0
 have e:IntKind.u64.wrap (-(IntKind.u64.wrap a))=(a.natAbs:Int):=by rw [zE,zE];omega
 rotate_left;have e:IntKind.u64.wrap a=(a.natAbs:Int):=by rw [zE];omega
 all_goals
  clear ha;go_enter func77,ntmps77
  go_wp2
  go_ret;exact⟨by rw [←e];rfl,rfl⟩
theorem fQ(a:Int)(ha:ax a=true)(w:World):Calls prog 190 #[.int .i64 a] w fun e w'=>e= .returned (.int .u64 (a.natAbs:Int))∧w=w':=by
 have h1:=bF ha
 by_cases h:a<0
 have e:IntKind.u64.wrap (-a)=(a.natAbs:Int):=by rw [zE];omega
 rotate_left;have e:IntKind.u64.wrap a=(a.natAbs:Int):=by rw [zE];omega
 all_goals
  clear ha;go_enter func190,ntmps190
  go_wp2
  go_ret;exact⟨by rw [←e];rfl,rfl⟩
theorem lL(m:Nat)(b:Bool)(hm:m<18446744073709551616)(w:World):Calls prog 191 #[.int .u64 (m:Int), .bool b] w (R2 (dh m b) w):=by
 unfold R2 dh ir
 cases b
 ·by_cases h:m≤4611686018427387903
  have nZ:=J (rfl:0=0)
  all_goals
   first
    |replace nZ:=nZ
     have q:decide ((m:Int)≤4611686018427387903)=true:=zc (by omega)
     have e:IntKind.i64.wrap (m:Int)=(m:Int):=Zs _ (by omega)
     have hr:ax (m:Int)=true:=fS (by omega) (by omega)
     simp only [zJ,ZD,hr,Ic]
    |have q:decide ((m:Int)≤4611686018427387903)=false:=zb (by omega)
     have hr:ax (m:Int)=false:=by cases hh:ax (m:Int);rfl;have:=bF hh;omega
     simp only [zJ,ZD,hr]
   clear hr hm;go_enter func191,ntmps191
   go_wp2
   go_ret2
   first
    |replace nZ:=nZ
     exact⟨by first|rfl|(rw [←e];rfl),rfl⟩
    |exact⟨rfl,rfl⟩
 ·by_cases h:m≤4611686018427387904
  ·have q:decide ((m:Int)≤4611686018427387904)=true:=zc (by omega)
   have e0:IntKind.i64.wrap (m:Int)=(m:Int):=Zs _ (by omega)
   have e:IntKind.i64.wrap (-(IntKind.i64.wrap (m:Int)))= -(m:Int):=by rw [e0];exact Zs _ (by omega)
   have hr:ax (-(m:Int))=true:=fS (by omega) (by omega)
   simp only [Ic,hr];clear hr hm e0;go_enter func191,ntmps191
   go_wp2
   go_ret2
   exact⟨by first|rfl|(rw [←e];rfl),rfl⟩
  ·have q:decide ((m:Int)≤4611686018427387904)=false:=zb (by omega)
   have hr:ax (-(m:Int))=false:=by cases hh:ax (-(m:Int));rfl;have:=bF hh;omega
   simp only [Ic,hr,zJ,ZD];clear hr hm;go_enter func191,ntmps191
   go_wp2
   go_ret2
   exact⟨rfl,rfl⟩
theorem rD(a b:Int)(ha:ax a=true)(hb:ax b=true)(w:World):Calls prog 78 #[.int .i64 a, .int .i64 b] w fun e w'=>e= .returned (.int .i64 (if b=0 then 11 else 0))∧w=w':=by
 have HC:=J (fun w=>BI a b ha hb w)
 clear ha hb
 by_cases h:b=0
 focus
  rw [zh h];have q:(b==0)=true:=be h;clear h
 rotate_left
 focus
  rw [ze h];have q:(b==0)=false:=ag h
 all_goals
  go_enter func78,ntmps78;go_wp2_with (go_at_call 74;(with_reducible refine(HC.out _).q ?_));go_ret;exact⟨rfl,rfl⟩
theorem xj(a b:Int)(ha:ax a=true)(hb:ax b=true)(w:World):Calls prog 234 #[.int .i64 a, .int .i64 b] w fun e w'=>e= .returned (.int .i64 (if b=0 then 11 else 0))∧w=w':=by
 have HA:=J (fun w=>dL a w)
 have HB:=J (fun w=>dL b w)
 rw [ha]at HA;rw [hb]at HB;clear ha hb
 by_cases h:b=0
 focus
  rw [zh h];have q:(b==0)=true:=be h;clear h
 rotate_left
 focus
  rw [ze h];have q:(b==0)=false:=ag h
 all_goals
  go_enter func234,ntmps234;go_wp2_with (go_at_call 54;(first|(with_reducible refine(HA.out _).q ?_)|(with_reducible refine(HB.out _).q ?_)))
  go_ret;exact⟨rfl,rfl⟩
theorem KT(a b:Int)(ha:ax a=true): -4611686018427387904≤a.tdiv b∧a.tdiv b≤4611686018427387904:=by
 have h:=fk ha;have h2:=ZI a.natAbs b.natAbs;rw [o_];generalize a.natAbs/b.natAbs=r at *
 split<;>omega
theorem DV(a b:Int)(hb:ax b=true)(h0:b≠0): -4611686018427387904≤a.tmod b∧a.tmod b≤4611686018427387904:=by
 have h:=fk hb;have:=(vO a b h0).1;omega
theorem xg(a b:Int)(ha:ax a=true)(hb:ax b=true)(h0:b≠0)(w:World):Calls prog 79 #[.int .i64 a, .int .i64 b] w fun e w'=>e= .returned (.tuple #[.int .i64 (flQ a b), .int .i64 (Ue a b)])∧∃n,w'=w.drewN n:=by
 have hq:=KT a b ha;have hr:=DV a b hb h0;have rT:=bF (uj a b h0 hb).1;have e1:wrap64 (a.tdiv b)=a.tdiv b:=zN _ (by omega)
 have e2:wrap64 (a.tmod b)=a.tmod b:=zN _ (by omega)
 have q0:(b==0)=false:=ag h0;have hQ:flQ a b=if Ei a b then a.tdiv b-1 else a.tdiv b:=rfl
 have hR:Ue a b=if Ei a b then a.tmod b+b else a.tmod b:=rfl
 have hO:Ei a b=(decide (a.tmod b≠0)&&(decide (a.tmod b<0)!=decide (b<0))):=rfl;rw [hQ,hR];rw [hR]at rT;rw [hO]at rT⊢;have w1:wrap64 (a.tdiv b-1)=a.tdiv b-1:=zN _ (by omega)
 by_cases h1:a.tmod b=0
 ·have p1:(a.tmod b !=0)=false:=f_ h1
  have HE:=J (show(decide (a.tmod b≠0)&&(decide (a.tmod b<0)!=decide (b<0)))=false by rw [h1];rfl)
  rw [HE.out];simp only [zJ,ZD];have H1:=J h1;clear HE hQ hR hO rT h1 ha hb;go_enter func79,ntmps79;go_upto_region 1 with fail
  go_quiet (fail)
  go_wp2_with fail
  go_ret2
  exact⟨by rw [H1.out];rfl,_,rfl⟩
 ·have p1:(a.tmod b !=0)=true:=oS h1
  have p2:decide (a.tmod b≠0)=true:=zc h1;rw [p2]at rT⊢;simp only [zZ]at rT⊢;have w2:ax (a.tmod b+b)=true→wrap64 (a.tmod b+b)=a.tmod b+b:=fun h=>zN _ (by have:=bF h;omega)
  by_cases h2:a.tmod b<0<;>by_cases h3:b<0
  focus
   have HE:=J (show(decide (a.tmod b<0)!=decide (b<0))=false by rw [zc h2,zc h3];rfl)
   rw [HE.out];simp only [zJ,ZD]
  rotate_left
  focus
   have HE:=J (show(decide (a.tmod b<0)!=decide (b<0))=true by rw [zc h2,zb h3];rfl)
   rw [HE.out]at rT⊢;simp only [Ic]at rT⊢;have w3:wrap64 (a.tmod b+b)=a.tmod b+b:=zN _ (by omega)
  rotate_left
  focus
   have HE:=J (show(decide (a.tmod b<0)!=decide (b<0))=true by rw [zb h2,zc h3];rfl)
   rw [HE.out]at rT⊢;simp only [Ic]at rT⊢;have w3:wrap64 (a.tmod b+b)=a.tmod b+b:=zN _ (by omega)
  rotate_left
  focus
   have HE:=J (show(decide (a.tmod b<0)!=decide (b<0))=false by rw [zb h2,zb h3];rfl)
   rw [HE.out];simp only [zJ,ZD]
  all_goals
   clear HE hQ hR hO rT h1 ha hb p2 w2;go_enter func79,ntmps79;go_upto_region 1 with fail
   go_quiet (fail)
   go_wp2_with fail
   go_ret2
   exact⟨rfl,_,rfl⟩
def R2d(p:Int×Int)(w:World)(e:Ending)(w':World):Prop:=e= .returned (.tuple #[.int .i64 p.1, .int .i64 p.2])∧∃n,w'=w.drewN n
theorem qM(a b:Int)(ha:ax a=true)(hb:ax b=true)(w:World):(Calls prog 30 #[.int .i64 a, .int .i64 b] w (R2 (nU a b) w))∧(Calls prog 31 #[.int .i64 a, .int .i64 b] w (R2 (ui a b) w)):=by
 refine⟨?_,?_⟩;have aj:=J (rfl:0=0)
 all_goals
  have HC:=J (fun w=>rD a b ha hb w)
  first
   |replace aj:=aj
    unfold R2 nU
   |unfold R2 ui
  by_cases h0:b=0
  focus
   rw [zh h0]at HC⊢;clear ha hb h0
   first
    |replace aj:=aj
     go_enter func30,ntmps30;go_wp2_with (first|(go_at_call 78;(with_reducible refine(HC.out _).q ?_)))
    |skip
  rotate_left
  focus
   rw [ze h0]at HC⊢;have q0:(b==0)=false:=ag h0;have hq:=KT a b ha;have hr:=DV a b hb h0;have e1:wrap64 (a.tdiv b)=a.tdiv b:=zN _ (by omega)
   have e2:wrap64 (a.tmod b)=a.tmod b:=zN _ (by omega)
   first
    |replace aj:=aj
     have HO:=J (fun w=>xh (a.tdiv b) w)
     unfold R2 at HO;obtain⟨p,hp⟩: ∃p,ir (a.tdiv b)=p:=⟨_,rfl⟩;rw [hp]at HO⊢;clear ha hb hp;go_enter func30,ntmps30;go_wp2_with (first|(go_at_call 78;(with_reducible refine(HC.out _).q ?_))|(go_at_call 75;(with_reducible refine(HO.out _).q ?_)))
    |clear ha hb
  all_goals
   first
    |replace aj:=aj
    |go_enter func31,ntmps31
     go_wp2_with (first|(go_at_call 78;(with_reducible refine(HC.out _).q ?_)))
   go_ret2
   exact⟨rfl,rfl⟩
def Nr a b c d e:=(qM a b c d e).1
def TK a b c d e:=(qM a b c d e).2
theorem TL(a b:Int)(ha:ax a=true)(hb:ax b=true)(w:World):Calls prog 28 #[.int .i64 a, .int .i64 b] w (R2d (vr a b) w):=by
 have HC:=J (fun w=>rD a b ha hb w)
 unfold R2d vr
 by_cases h0:b=0
 ·rw [zh h0]at HC⊢
  clear ha hb h0;go_enter func28,ntmps28;go_wp2_with (first|(go_at_call 78;(with_reducible refine(HC.out _).q ?_)))
  go_ret2
  exact⟨rfl,0,rfl⟩
 ·rw [ze h0]at HC⊢
  have HF:=J (fun w=>xg a b ha hb h0 w)
  have HO:=J (fun w=>xh (flQ a b) w)
  unfold R2 at HO;obtain⟨p,hp⟩: ∃p,ir (flQ a b)=p:=⟨_,rfl⟩;rw [hp]at HO⊢;clear ha hb hp;generalize flQ a b=Q at *;generalize Ue a b=R at *;go_enter func28,ntmps28;go_wp2_with (first|(go_at_call 78;(with_reducible refine(HC.out _).q ?_))|(go_at_call 79;(with_reducible refine(HF.out _).mono ?_);rintro e w' ⟨rfl,n,rfl⟩)|(go_at_call 75;(with_reducible refine(HO.out _).q ?_)))
  go_ret2
  exact⟨rfl,n,rfl⟩
theorem TM(a b:Int)(ha:ax a=true)(hb:ax b=true)(w:World):Calls prog 29 #[.int .i64 a, .int .i64 b] w (R2d (xt a b) w):=by
 have HC:=J (fun w=>rD a b ha hb w)
 unfold R2d xt
 by_cases h0:b=0
 ·rw [zh h0]at HC⊢
  clear ha hb h0;go_enter func29,ntmps29;go_wp2_with (first|(go_at_call 78;(with_reducible refine(HC.out _).q ?_)))
  go_ret2
  exact⟨rfl,0,rfl⟩
 ·rw [ze h0]at HC⊢
  have HF:=J (fun w=>xg a b ha hb h0 w)
  clear ha hb;generalize flQ a b=Q at *;generalize Ue a b=R at *;go_enter func29,ntmps29;go_wp2_with (first|(go_at_call 78;(with_reducible refine(HC.out _).q ?_))|(go_at_call 79;(with_reducible refine(HF.out _).mono ?_);rintro e w' ⟨rfl,n,rfl⟩))
  go_ret2
  exact⟨rfl,n,rfl⟩
theorem DW{x y:Nat}(h:x≤4611686018427387904):x/y<18446744073709551616:=by have:=ZI x y;omega
theorem DX{x y:Nat}(h:x≤4611686018427387904):x%y<18446744073709551616:=by have:=Nat.mod_le x y;omega
theorem qN(a b:Int)(ha:ax a=true)(hb:ax b=true)(w:World):(Calls prog 173 #[.int .i64 a, .int .i64 b] w (R2 (nU a b) w))∧(Calls prog 174 #[.int .i64 a, .int .i64 b] w (R2 (ui a b) w)):=by
 refine⟨?_,?_⟩;have aj:=J (rfl:0=0)
 all_goals
  have HC:=J (fun w=>xj a b ha hb w)
  by_cases h0:b=0
  focus
   first
    |replace aj:=aj
     have e:nU a b=(0,11):=zh h0
    |have e:ui a b=(0,11):=zh h0
   rw [e];unfold R2;rw [zh h0]at HC;clear ha hb h0 e
   first
    |replace aj:=aj
     go_enter func173,ntmps173
    |go_enter func174,ntmps174
   go_wp2_with (first|(go_at_call 234;(with_reducible refine(HC.out _).q ?_)))
  rotate_left
  focus
   first
    |replace aj:=aj
     rw [Ej a b h0]
    |rw [G6 a b h0 hb]
   rw [ze h0]at HC;have hx:=fk ha;have hy:b.natAbs≠0:=by omega
   have HA:=J (fun w=>fQ a ha w)
   have HB:=J (fun w=>fQ b hb w)
   first
    |replace aj:=aj
     have HS:=J (fun s w=>lL (a.natAbs/b.natAbs) s (DW hx) w)
    |have HS:=J (fun s w=>lL (a.natAbs%b.natAbs) s (DX hx) w)
   have q0:((b.natAbs:Int)==0)=false:=ag (by omega)
   have q1:(b.natAbs==0)=false:=by simp;omega
   first
    |replace aj:=aj
     have hn:(a.natAbs:Int)/(b.natAbs:Int)=((a.natAbs/b.natAbs:Nat):Int):=rfl
     have hwz:IntKind.u64.wrap ((a.natAbs/b.natAbs:Nat):Int)=((a.natAbs/b.natAbs:Nat):Int):=by
      have:=DW (x:=a.natAbs) (y:=b.natAbs) hx;rw [zE];generalize a.natAbs/b.natAbs=z at *;omega
    |have hn:(a.natAbs:Int)%(b.natAbs:Int)=((a.natAbs%b.natAbs:Nat):Int):=rfl
     have hwz:IntKind.u64.wrap ((a.natAbs%b.natAbs:Nat):Int)=((a.natAbs%b.natAbs:Nat):Int):=by
      have:=DX (x:=a.natAbs) (y:=b.natAbs) hx;rw [zE];generalize a.natAbs%b.natAbs=z at *;omega
   unfold R2 at *
   first
    |replace aj:=aj
     generalize hz:a.natAbs/b.natAbs=z at *
    |generalize hz:a.natAbs%b.natAbs=z at *
   have HZ:=J hz;generalize a.natAbs=x at *;generalize b.natAbs=y at *;have bJ: ¬b=0:=h0;clear ha hb hz
   cases ha:decide (a<0)<;>cases hb:decide (b<0)
   all_goals
    first
     |replace aj:=aj
      go_enter func173,ntmps173
     |go_enter func174,ntmps174
    go_wp2_with (first|(go_at_call 234;(with_reducible refine(HC.out _).q ?_))|(go_at_call 190;(first|(with_reducible refine(HA.out _).q ?_)|(with_reducible refine(HB.out _).q ?_)))|(go_at_call 191;(with_reducible refine(HS.out _ _).q ?_)))
  all_goals
   go_ret2
   exact⟨rfl,rfl⟩
def Ns a b c d e:=(qN a b c d e).1
def DY a b c d e:=(qN a b c d e).2
set_option maxHeartbeats 2000000
theorem rE{N:Nat}(h:4611686018427387904<N)(b:Bool):dh N b=(0,10):=by
 unfold dh ir
 have:ax (if b then -(N:Int)else(N:Int))=false:=by
  cases hh:ax (if b then -(N:Int)else(N:Int))
  ·rfl
  ·have:=bF hh
   cases b<;>simp at this<;>omega
 rw [this];rfl
theorem Eg{N:Nat}(h:N=4611686018427387904):dh N false=(0,10):=by
 subst h;rfl
theorem uY{N:Nat}(h:N≤4611686018427387904):dh N true=(-(N:Int),0):=by
 unfold dh ir;rw [zh rfl,zh (fS (by omega) (by omega))]
theorem Eh{N:Nat}(h:N<4611686018427387904):dh N false=((N:Int),0):=by
 unfold dh ir;simp only [zJ,ZD];rw [zh (fS (by omega) (by omega))]
def Yx(N:Nat):Nat:=N/18446744073709551616
def loN(N:Nat):Nat:=N%18446744073709551616
theorem Yy(x y:Nat)(hx:x≤4611686018427387904)(hy:y≤4611686018427387904)(w:World):
 Calls prog 76 #[.int .u64 x, .int .u64 y] w fun e w'=>e= .returned (.tuple #[.int .u64 (Yx (x*y):Nat), .int .u64 (loN (x*y):Nat)])∧w=w':=
 (Tryz.bits_Mul64 x y (by omega) (by omega) w).mono fun _ _ ⟨h1,h2⟩=>⟨h1,h2.symm⟩
theorem Ud(a b:Int)(ha:ax a=true)(hb:ax b=true)(w:World):Calls prog 27 #[.int .i64 a, .int .i64 b] w (R2 (yA a b) w):=by
 rw [xu];have HC:=J (fun w=>BI a b ha hb w)
 have HA:=J (fun w=>uV a ha w)
 have HB:=J (fun w=>uV b hb w)
 have HM:=J (fun w=>Yy a.natAbs b.natAbs (fk ha) (fk hb) w)
 generalize a.natAbs=x at *;generalize b.natAbs=y at *;generalize x*y=N at *;clear ha hb;unfold R2
 cases pa:decide (a<0)<;>cases pb:decide (b<0)
 all_goals
  by_cases h1:Yx N=0
  rotate_left
  focus
   have q1:((Yx N:Int)!=0)=true:=oS (by omega)
   have hl:4611686018427387904<N:=by unfold Yx at h1;omega
   rw [rE hl];generalize Yx N=H at *;generalize loN N=LL at *;clear hl h1
  rotate_left
  focus
   have q1:((Yx N:Int)!=0)=false:=f_ (by omega)
   have e1:loN N=N:=by unfold loN Yx at *;omega
   have hl:N<18446744073709551616:=by unfold Yx at h1;omega
   rw [e1]at HM;generalize Yx N=H at *;clear e1 h1
   by_cases h2:4611686018427387904<N
   focus
    have q2:decide ((4611686018427387904:Int)<(N:Int))=true:=zc (by omega)
    rw [rE h2];clear hl h2
   rotate_left
   focus
    have q2:decide ((4611686018427387904:Int)<(N:Int))=false:=zb (by omega)
    have w1:IntKind.i64.wrap (N:Int)=(N:Int):=Zs _ (by omega)
    have w2:IntKind.i64.wrap (-(N:Int))= -(N:Int):=Zs _ (by omega)
    have w3:wrap64 (N:Int)=(N:Int):=zN _ (by omega)
    have w4:wrap64 (-(N:Int))= -(N:Int):=zN _ (by omega)
    by_cases h3:N=4611686018427387904
    rotate_left
    focus
     have q3:((N:Int)==4611686018427387904)=false:=ag (by omega)
     have HF:=J (Eh (N:=N) (by omega))
    rotate_left
    focus
     have q3:((N:Int)==4611686018427387904)=true:=be (by omega)
     first
      |(have HE:=J (uY (N:=N) (by omega)))
      |skip
     have HF:=J (Eg h3)
    all_goals
     have HT:=J (uY (N:=N) (by omega))
     simp only [bne_self_eq_false,Bool.bne_true,Bool.bne_false,Bool.not_true,Bool.not_false,Bool.true_bne,Bool.false_bne]
     first|rw [HF.out]|rw [HT.out]
     clear h2 h3
  all_goals
   go_enter func27,ntmps27;go_wp2_with (first|(go_at_call 74;(with_reducible refine(HC.out _).q ?_))|(go_at_call 77;(first|(with_reducible refine(HA.out _).q ?_)|(with_reducible refine(HB.out _).q ?_)))|(go_at_call 76;(with_reducible refine(HM.out _).q ?_)))
   go_ret2
   exact⟨rfl,rfl⟩
end Go.Proofs.YtcpmiplofbfmfaaGreatDoor
