/- Walks of the library's shortest decimal: unrounded scaling. -/
import Derived.Test.YtcpmiplofbfmfaaGreatDoorA17
import Derived.Test.YtcpmiplofbfmfaaGreatDoorShelf
import Derived.Lib.ItoaLen
set_option linter.all false
set_option maxRecDepth 100000
set_option maxHeartbeats 400000
namespace Go.Proofs.YtcpmiplofbfmfaaGreatDoor
open Go.Proofs.Tryz
open Lib renaming hid→J
open Go.RowKit FloM
def dE(x y:Nat):Nat:=x*y/18446744073709551616
def nA(x y:Nat):Nat:=x*y%18446744073709551616
theorem tW(x y:Nat)(hx:x<18446744073709551616)(hy:y<18446744073709551616)(w:World):
 Calls prog 76 #[.int .u64 x, .int .u64 y] w fun e w'=>e= .returned (.tuple #[.int .u64 (dE x y:Nat), .int .u64 (nA x y:Nat)])∧w=w':=
 (Tryz.bits_Mul64 x y hx hy w).mono fun _ _ ⟨h1,h2⟩=>⟨h1,h2.symm⟩
theorem aaY(s:Nat)(h:s<64):bits .and .i64 (s:Int) 63=(s:Int):=by
 have: ∀t:Fin 64,bits .and .i64 ((t.val:Nat):Int) 63=((t.val:Nat):Int):=by decide+kernel
 exact this ⟨s,h⟩
def b2(b:Bool):Nat:=if b then 1 else 0
theorem Ae(b:Bool)(w:World):Calls prog 339 #[.bool b] w fun e w'=>e= .returned (.int .u64 (b2 b:Nat))∧w=w':=by
 cases b
 ·go_enter func339,ntmps339
  go_wp2
  go_ret;exact⟨rfl,rfl⟩
 ·go_enter func339,ntmps339
  go_wp2
  go_ret;exact⟨rfl,rfl⟩
theorem Ya(x hi:Nat)(s:Nat)(b:Nat)(w:World)(h0:w.cell? ⟨b,0,none⟩=some (.int .u64 (hi:Int)))
 (h2:w.cell? ⟨b,2,none⟩=some (.int .i64 (s:Int))) (hs:s<64) (hx:x<18446744073709551616) (Qo:hi<18446744073709551616)
 (hc:(IntKind.u64.wrap (((dE x hi:Nat):Int)/2^s*2^s)!=((dE x hi:Nat):Int))=true):
  Calls prog 315 #[.int .u64 (x:Int), .pointer (some ⟨b,0,none⟩)] w fun e w'=>e= .returned (.int .u64 (bits .or .u64 ((dE x hi:Nat)/2^s) 1))∧w=w':=by
 have rP:=J (fun w=>tW x hi hx Qo w)
 generalize dE x hi=H at *;generalize nA x hi=M at *;have e1:=aaY s hs;go_enter func315,ntmps315;go_wp2_with (go_at_call 76;(with_reducible refine(rP.out _).mono ?_);rintro e w1 ⟨rfl,rfl⟩);go_ret;exact⟨rfl,rfl⟩
theorem Yb(x hi lo:Nat)(s:Nat)(b:Nat)(w:World)(h0:w.cell? ⟨b,0,none⟩=some (.int .u64 (hi:Int)))
 (h1:w.cell? ⟨b,1,none⟩=some (.int .u64 (lo:Int))) (h2:w.cell? ⟨b,2,none⟩=some (.int .i64 (s:Int))) (hs:s<64) (hx:x<18446744073709551616) (Qo:hi<18446744073709551616) (FA:lo<18446744073709551616)
 (hc:(IntKind.u64.wrap (((dE x hi:Nat):Int)/2^s*2^s)!=((dE x hi:Nat):Int))=false):
  Calls prog 315 #[.int .u64 (x:Int), .pointer (some ⟨b,0,none⟩)] w fun e w'=>e= .returned (.int .u64 (bits .or .u64 (IntKind.u64.wrap ((dE x hi:Nat)-(b2 (decide (nA x hi<dE x lo)):Nat))/2^s) (b2 (decide ((1:Int)<IntKind.u64.wrap ((nA x hi:Nat)-(dE x lo:Nat)))):Nat)))∧∃n,w'=w.drewN n:=by
 have rP:=J (fun w=>tW x hi hx Qo w)
 have uq:=J (fun w=>tW x lo hx FA w)
 generalize dE x hi=H at *;generalize nA x hi=M at *;generalize dE x lo=M2 at *;generalize nA x lo=L2 at *;have e1:=aaY s hs;go_enter func315,ntmps315;go_wp2_with (first|(go_at_call 76;(with_reducible refine(rP.out _).mono ?_);rintro e w1 ⟨rfl,rfl⟩)|(go_at_call 76;(with_reducible refine(uq.out _).mono ?_);rintro e w1 ⟨rfl,rfl⟩)|(go_at_call 339;refine(Ae _ _).mono ?_;rintro e w1 ⟨rfl,rfl⟩))
 go_quiet ((go_at_call 339;exact Zp ((Ae _ _).mono fun _ _ hh=>⟨hh.1,hh.2.symm⟩)))
 go_wp2
 go_ret;exact⟨rfl,nq,rfl⟩
theorem Bz(x y:Nat)(hx:x<18446744073709551616)(hy:y<18446744073709551616):dE x y<18446744073709551616:=by
 unfold dE;apply Zh;exact Nat.mul_lt_mul_of_lt_of_le hx (Zc hy) (by omega)
theorem Yc(x y:Nat):nA x y<18446744073709551616:=zU _ (by decide)
theorem Yd(x hi lo:Nat)(s:Nat)(b:Nat)(w:World)(h0:w.cell? ⟨b,0,none⟩=some (.int .u64 (hi:Int)))
 (h1:w.cell? ⟨b,1,none⟩=some (.int .u64 (lo:Int))) (h2:w.cell? ⟨b,2,none⟩=some (.int .i64 (s:Int))) (hs:s<64) (hx:x<18446744073709551616) (Qo:hi<18446744073709551616) (FA:lo<18446744073709551616):
  Calls prog 315 #[.int .u64 (x:Int), .pointer (some ⟨b,0,none⟩)] w fun e w'=>e= .returned (.int .u64 (tj x hi lo s:Nat))∧∃n,w'=w.drewN n:=by
 have hH:=Bz x hi hx Qo;have hM:=Yc x hi;have hM2:=Bz x lo hx FA;have aej:eL=18446744073709551616:=by decide
 have hw:IntKind.u64.wrap (((dE x hi:Nat):Int)/2^s*2^s)=((dE x hi/2^s*2^s:Nat):Int):=by
  have xI:=Nat.div_mul_le_self (dE x hi) (2^s);rw [zE];generalize dE x hi=H at *
  have:((H:Int)/2^s*2^s)=((H/2^s*2^s:Nat):Int):=by
   rw [Zd,Int.natCast_ediv,Int.natCast_pow];rfl
  rw [this];omega
 have hu:tj x hi lo s=if dE x hi/2^s*2^s≠dE x hi then(dE x hi/2^s)|||1 else
  ((if nA x hi<dE x lo then(dE x hi+eL-1)%eL else dE x hi)/2^s)|||(if 1<(nA x hi+eL-dE x lo)%eL then 1 else 0):=rfl
 rw [hu]
 by_cases hc:dE x hi/2^s*2^s=dE x hi
 ·rw [ze (by simpa using hc)]
  refine(Yb x hi lo s b w h0 h1 h2 hs hx Qo FA (by rw [hw,hc];exact bne_self_eq_false _)).mono ?_
  rintro e w' ⟨rfl,hn⟩;refine⟨jW ?_,hn⟩
  have e1:IntKind.u64.wrap (((dE x hi:Nat):Int)-((b2 (decide (nA x hi<dE x lo)):Nat):Int))=(((if nA x hi<dE x lo then(dE x hi+eL-1)%eL else dE x hi):Nat):Int):=by
   rw [zE,aej]
   by_cases hl:nA x hi<dE x lo
   ·rw [zh hl,zc hl];show((dE x hi:Nat)-(1:Int))%_=_;omega
   ·rw [ze hl,zb hl];show((dE x hi:Nat)-(0:Int))%_=_;omega
  have e2:b2 (decide ((1:Int)<IntKind.u64.wrap (((nA x hi:Nat):Int)-((dE x lo:Nat):Int))))=(if 1<(nA x hi+eL-dE x lo)%eL then 1 else 0):=by
   rw [zE,aej];have:((1:Int)<(((nA x hi:Nat):Int)-((dE x lo:Nat):Int))%18446744073709551616)↔1<(nA x hi+18446744073709551616-dE x lo)%18446744073709551616:=by omega
   simp only [this,b2,Zb]
  rw [e1,e2]
  have bw:(if nA x hi<dE x lo then(dE x hi+eL-1)%eL else dE x hi)<18446744073709551616:=by
   rw [aej];split
   ·exact zU _ (by decide)
   ·exact hH
  generalize(if nA x hi<dE x lo then(dE x hi+eL-1)%eL else dE x hi)=H' at *
  have hq:H'/2^s<18446744073709551616:=zW (ZI _ _) bw;have:=u64_or_nat (H'/2^s) (if 1<(nA x hi+eL-dE x lo)%eL then 1 else 0) hq (by split<;>decide)
  rw [←this,Int.natCast_ediv,Int.natCast_pow]
  rfl
 ·rw [zh hc]
  refine(Ya x hi s b w h0 h2 hs hx Qo (by rw [hw];rw [bne_iff_ne];exact fun h=>hc (by exact_mod_cast h))).mono ?_
  rintro e w' ⟨rfl,hn⟩;refine⟨jW ?_,0,hn.symm⟩;have hq:dE x hi/2^s<18446744073709551616:=zW (ZI _ _) hH;have:=u64_or_nat (dE x hi/2^s) 1 hq (by decide)
  rw [←this,Int.natCast_ediv,Int.natCast_pow]
  rfl
set_option maxHeartbeats 800000
theorem Mw(w:World)(b:Nat)(t:TypeId)(v0 v1 v2 x0 x1 x2:Value)(hb:ai w b t #[v0,v1,v2]):
 ai (((w.setCell ⟨b,0,none⟩ x0).setCell ⟨b,1,none⟩ x1).setCell ⟨b,2,none⟩ x2) b t #[x0,x1,x2]∧
 w.grownBy (((w.setCell ⟨b,0,none⟩ x0).setCell ⟨b,1,none⟩ x1).setCell ⟨b,2,none⟩ x2) (some b):=by
 have g1:w.grownBy (w.setCell ⟨b,0,none⟩ x0) (some b):=nt (p:=⟨b,0,none⟩) (World.grownBy.refl w _) (.inl rfl) x0;have g2:=nt (p:=⟨b,1,none⟩) g1 (.inl rfl) x1;have g3:=nt (p:=⟨b,2,none⟩) g2 (.inl rfl) x2;refine⟨?_,g3⟩;have h:=((hb.set_ 0 x0).set_ 1 x1).set_ 2 x2;have e:((#[v0,v1,v2].setIfInBounds 0 x0).setIfInBounds 1 x1).setIfInBounds 2 x2= #[x0,x1,x2]:=by simp
 rw [e]at h;exact h
theorem Kr(e p lp:Int)(b:Nat)(w:World)(v0 v1 v2:Value)(hb:ai w b 328 #[v0,v1,v2])(i:Nat)(hp:p=(i:Int)-348)(hi:i<696)(lQ vz:Nat)(s:Nat)
 (c1:w.cell? ⟨8,i*2,none⟩=some (.int .u64 (lQ:Int))) (c2:w.cell? ⟨8,i*2+1,none⟩=some (.int .u64 (vz:Int)))
 (he: -100000≤e∧e≤100000) (hl: -100000≤lp∧lp≤100000) (hs:(s:Int)= -(e+lp+3)):
  Calls prog 313 #[.pointer (some ⟨b,0,none⟩), .int .i64 e, .int .i64 p, .int .i64 lp] w fun e w'=>e= .returned (.tuple #[])∧ai w' b 328 #[.int .u64 (lQ:Int), .int .u64 (vz:Int), .int .i64 (s:Int)]∧w.grownBy w' (some b):=by
 have k0:=hb.c0;have k1:=hb.c1;have k2:=hb.c2;have f0:w.frozen? ⟨b,0,none⟩=false:=hb.frozen 0;have f1:w.frozen? ⟨b,1,none⟩=false:=hb.frozen 1;have f2:w.frozen? ⟨b,2,none⟩=false:=hb.frozen 2;have hw:=J (Mw w b _ v0 v1 v2 (.int .u64 (lQ:Int)) (.int .u64 (vz:Int)) (.int .i64 (s:Int)) hb);rw [hs]at hw;subst hp;have Lq:=J hs;clear hb hs;go_enter func313,ntmps313
 go_wp2
 go_end0
 rw [Lq.out];exact⟨rfl,hw.out⟩
theorem jF:eL=18446744073709551616:=by decide
theorem wu(u:Nat)(d:Int)(w:World):
 Calls prog 316 #[.int .u64 u, .int .i64 d] w fun e w'=>e= .returned (.int .u64 (IntKind.u64.wrap (u+IntKind.u64.wrap d)))∧w=w':=by
 go_enter func316,ntmps316
 go_wp2
 go_ret;exact⟨rfl,rfl⟩
theorem RZ(u:Nat)(d:Nat)(w:World):
 Calls prog 316 #[.int .u64 u, .int .i64 (d:Int)] w fun e w'=>e= .returned (.int .u64 (oM u d:Nat))∧w=w':=
 (wu u d w).mono fun _ _ ⟨h1,h2⟩=>⟨h1.trans (jW (by rw [zE,zE];unfold oM;rw [jF];omega)),h2⟩
theorem R3(u:Nat)(d:Nat)(hd:d≤1)(w:World):
 Calls prog 316 #[.int .u64 u, .int .i64 (-(d:Int))] w fun e w'=>e= .returned (.int .u64 (lZ u d:Nat))∧w=w':=
 (wu u (-(d:Int)) w).mono fun _ _ ⟨h1,h2⟩=>⟨h1.trans (jW (by rw [zE,zE];unfold lZ;rw [jF];omega)),h2⟩
theorem acb(u:Nat)(w:World):
 Calls prog 317 #[.int .u64 u] w fun e w'=>e= .returned (.int .u64 (qK u:Nat))∧w=w':=by
 have he:IntKind.u64.wrap (↑u+3)/4=((qK u:Nat):Int):=by rw [zE];unfold qK;rw [jF];omega
 rw [←he];clear he;go_enter func317,ntmps317
 go_wp2
 go_ret;exact⟨rfl,rfl⟩
theorem Xg(u:Nat)(hu:u<eL)(w:World):
 Calls prog 318 #[.int .u64 u] w fun e w'=>e= .returned (.int .u64 (ko u:Nat))∧w=w':=by
 have he:IntKind.u64.wrap ↑u/4=((ko u:Nat):Int):=by rw [jF]at hu;rw [zE];unfold ko;omega
 rw [←he];clear he hu;go_enter func318,ntmps318
 go_wp2
 go_ret;exact⟨rfl,rfl⟩
theorem and1(k:Nat)(hk:k<18446744073709551616):bits .and .u64 (k:Int) 1=((k%2:Nat):Int):=by
 have h:=u64_and_nat k 1 hk (by decide)
 rw [Nat.and_one_is_mod]at h;exact h
theorem Xh(u:Nat)(hu:u<eL)(w:World):
 Calls prog 319 #[.int .u64 u] w fun e w'=>e= .returned (.int .u64 (kq u:Nat))∧w=w':=by
 have he:IntKind.u64.wrap (IntKind.u64.wrap (↑u+1)+bits BinOp.and IntKind.u64 (↑u/4) 1)/4=((kq u:Nat):Int):=by
  rw [jF]at hu;have:=and1 (u/4) (by omega)
  have e:((u/4:Nat):Int)=(u:Int)/4:=by omega
  rw [e]at this;rw [this,zE,zE];unfold kq;rw [jF];omega
 rw [←he];clear he hu;go_enter func319,ntmps319
 go_wp2
 go_ret;exact⟨rfl,rfl⟩
theorem Ks(x:Int)(w:World)(hx: -5000≤x∧x≤5000):
 Calls prog 272 #[.int .i64 x] w fun e w'=>e= .returned (.int .i64 (dP x))∧w=w':=by
 go_enter func272,ntmps272
 go_wp2
 go_ret;exact⟨rfl,rfl⟩
theorem R4(x:Int)(w:World)(hx: -5000≤x∧x≤5000):
 Calls prog 314 #[.int .i64 x] w fun e w'=>e= .returned (.int .i64 (fy x))∧w=w':=by
 go_enter func314,ntmps314
 go_wp2
 go_ret;exact⟨rfl,rfl⟩
theorem Xi(x:Int)(w:World)(hx: -5000≤x∧x≤5000):
 Calls prog 312 #[.int .i64 x] w fun e w'=>e= .returned (.int .i64 (vI x))∧w=w':=by
 go_enter func312,ntmps312
 go_wp2
 go_ret;exact⟨rfl,rfl⟩
open Go.RowKit FloM Go.Lib
def bY(l:List UInt8):List UInt8:=(l.reverse.dropWhile (· ==48)).reverse
theorem Gh:bY []=[]:=rfl
theorem lC(l:List UInt8)(c:UInt8):bY (l++[c])=if c=48 then bY l else l++[c]:=by
 unfold bY;rw [List.reverse_append,List.reverse_singleton,List.singleton_append,List.dropWhile_cons]
 by_cases h:c=48
 ·rw [zh (by simp [h]),zh h]
 ·rw [ze (by simp [h]),ze h,List.reverse_cons,List.reverse_reverse]
theorem ww(l:List UInt8)(k:Nat)(h:k<l.length):l.take (k+1)=l.take k++[l[k]]:=by
 rw [List.take_succ_eq_append_getElem h]
abbrev gS:UInt8→Value:=fun b=>Value.int .u8 (b.toNat:Int)
theorem Bl(enc:UInt8→Value)(w:World)(blk off:Nat)(d:Array UInt8):w.grownBy (Sort.putRow enc w blk off d) (some blk):=
 ⟨rfl,rfl,rfl,by rw [Sort.size_putRow];exact za _,fun i _ fa=>by
  have hn:blk≠i:=fun h=>fa (by rw [h])
  show(w.heap.modify blk _)[i]? =_;rw [Array.getElem?_modify,ze hn]⟩
theorem R5(u:Nat)(hu:u<18446744073709551616)(B cap:Nat)(w:World)(t:TypeId)(cs:Array Value)(hb:ai w B t cs)(hz: ∀j,j<nDigits u→cs[j]? =some (.int .u8 0)):
 Calls prog 289 #[.slice (some ⟨B,0,none⟩) (nDigits u) cap, .int .u64 u] w fun e w'=>
  e= .returned (.tuple #[])∧w.grownBy w' (some B)∧∃xO,ai w' B t xO∧∀j (hj:j<(decDigits u).length),xO[j]? =some (.int .u8 ((decDigits u)[j].toNat:Int)):=by
 have dq:(Array.replicate (nDigits u) (0:UInt8)).size=nDigits u:=by simp
 have hH:Sort.Holds gS w B 0 (Array.replicate (nDigits u) (0:UInt8)):=by
  intro j hj;rw [dq]at hj;refine⟨?_,?_⟩
  ·rw [Ih,hb.cell j,hz j hj]
   simp [gS,hj]
  ·rw [Ih];exact hb.frozen j
 have hd:u<10^(Array.replicate (nDigits u) (0:UInt8)).size:=by rw [dq];exact lt_pow_nDigits u
 have Vi:nDigits u≤20:=by exact nDigits_le20 u hu
 have:=Tryz.internal_strconv_formatBase10 B 0 cap u (Array.replicate (nDigits u) (0:UInt8)) w hH hd hu (by rw [dq];omega)
 rw [dq]at this;refine this.mono ?_;rintro e w' ⟨rfl,n,v',dk,rfl,hF⟩
 have Vj:ai ((Sort.putRow gS w B 0 dk).drewN n) B t (Sort.putCells gS 0 dk cs):=by
  show(w.heap.modify B _)[B]? =_;unfold ai at hb;rw [Array.getElem?_modify,zh rfl,hb]
  rfl
 refine⟨rfl,Gi (Bl _ w B 0 dk) n,_,Vj,fun j hj=> ?_⟩
 have hr:=row_is_numeral hF j hj;have hp:=Sort.holds_putRow gS w B 0 _ dk hH (by rw [hF.size,dq])
 have hl:=decDigits_length u;have:=(hp j (by rw [hF.size];omega)).1
 rw [Ih]at this;rw [hr,←Vj.cell j];exact this
theorem qI(u:Nat)(hu:u<18446744073709551616)(p:Int)(hp: -100000≤p∧p≤100000)(B:Nat)(w:World)(t:TypeId)(cs:Array Value)(hb:ai w B t cs)(hz: ∀j,j<32→cs[j]? =some (.int .u8 0)):
 Calls prog 270 #[.slice (some ⟨B,0,none⟩) 32 32, .int .u64 u, .int .i64 p, .int .i64 (nDigits u)] w fun e w'=>
  e= .returned (.tuple #[.int .i64 ((nDigits u:Nat)+p), .int .i64 ((bY (decDigits u)).length:Nat)])∧w.grownBy w' (some B)∧∃xO,ai w' B t xO∧∀j (hj:j<(decDigits u).length),xO[j]? =some (.int .u8 ((decDigits u)[j].toNat:Int)):=by
 have Vi:=nDigits_le20 u hu;have Ce:=nDigits_pos u;have hl:=decDigits_length u;have hc:=J (R5 u hu B 32 w t cs hb (fun j hj=>hz j (by omega)))
 generalize decDigits u=L at *;generalize nDigits u=nd at *;have HL:=J hl;clear hl hb hz;go_enter func270,ntmps270;go_wp2_with fail;refine hc.out.mono ?_;rintro e w1 ⟨rfl,hg,xO,abi,eb⟩;have HG:=J hg;have HC:=J eb;have HK:=J abi;clear hg eb abi
 go_wp2
 go_loop [3] (fun v=> ∃k:Nat,k≤nd∧v= .int .i64 k∧Hid (bY (L.take k)=bY L)) (fun v=>(RowKit.intOf v).toNat)
 case atStart=>exact⟨nd,za _,rfl,by rw [List.take_of_length_le (by rw [HL.out];exact za _)];rfl⟩
 case round=>
  obtain⟨k,hk,rfl,hr⟩:=hrel
  rcases zX k with h0|h0
  ·subst h0
   have JS:Hid ((bY L).length=0):=by
    have:=hr.out;rw [List.take_zero,Gh]at this;rw [←this];rfl
   go_wp2
   go_ret2
   rw [JS.out];exact⟨rfl,HG.out,xO,HK.out,HC.out⟩
  ·obtain⟨k',rfl⟩: ∃k',k=k'+1:=⟨k-1,by omega⟩
   have bw:k'<L.length:=by rw [HL.out];omega
   have eb:w1.cell? ⟨B,k',none⟩=some (.int .u8 (L[k'].toNat:Int)):=(HK.out.cell k').trans (HC.out k' bw);have hsn:=ww L k' bw;have gK:=lC (L.take k') L[k'];rw [←hsn]at gK;clear hsn
   have hcb:((L[k'].toNat:Int)==48)=decide (L[k']=48):=by
    have h48:(L[k']=48)↔L[k'].toNat=48:=by rw [←UInt8.toNat_inj];rfl
    rw [ZR,Zr,Zb,h48];omega
   generalize L[k']=c at *
   by_cases Ql:c=48
   ·rw [zh Ql]at gK
    have ht:((c.toNat:Int)==48)=true:=by rw [hcb];exact zc Ql
    have akF:Hid (bY (L.take k')=bY L):=by rw [←gK];exact hr.out
    clear gK hcb Ql hr
    go_wp2
    go_round
    case rel=>exact⟨k',by omega,by go_num,akF⟩
    case measure=>simp [RowKit.intOf]
   ·rw [ze Ql]at gK
    have ht:((c.toNat:Int)==48)=false:=by rw [hcb];exact zb Ql
    have JS:Hid ((bY L).length=k'+1):=by
     have h2:=hr.out;have h3:=HL.out;show(bY L).length=k'+1;rw [←h2,gK,List.length_take];omega
    clear gK hcb Ql hr
    go_wp2
    go_ret2
    rw [JS.out];exact⟨rfl,HG.out,xO,HK.out,HC.out⟩
theorem Bm:(prog.info? 5).map (fun i=>(i.zero,i.size,i.bytes))=some (some (.int .u8 0),1,1):=by kernel_rfl
def lh(B0:Nat)(w0 W:World)(v:Value)(xs:List UInt8):Prop:=W.ownsRow B0 5 1 v xs.length (xs.map gS)∧Below B0 w0 W∧B0≤W.heap.size
theorem lh.more{B0:Nat}{w0 W w':World}{v v':Value}{xs bs:List UInt8}{o:Obj}(hb:Below B0 w0 W)(hB:B0≤W.heap.size)
 (bS:W.ownsRow B0 5 1 v xs.length (xs.map gS))
 (ep:w'.ownsRow B0 5 1 v' (xs.length+bs.length) (xs.map gS++bs.map gS)) (hg:(W.alloc o).grownBy w' v.ownBlock):lh B0 w0 w' v' (xs++bs):=by
 refine⟨by rw [zS,List.map_append];exact ep,?_,zQ (by simp;omega) hg.size⟩
 refine(hb.alloc hB o).grown hg (by simp;omega) (fun k hk=> ?_)
 rcases bS.2 with⟨rfl,_⟩|⟨g,cap,Co,rfl,iE,_⟩
 ·simp [Value.ownBlock]at hk
 ·have:g=k:=by simpa [Value.ownBlock]using hk
  omega
theorem lh.step{B0:Nat}{w0 W:World}{v:Value}{xs:List UInt8}(h:lh B0 w0 W v xs){B:Nat}{t:TypeId}{cs:Array Value}(hB:ai W B t cs)(ht:5≠t)
 (vs:List Value) (bs:List UInt8) (hv:vs=bs.map gS) (om:xs.length+bs.length≤4096) {JT:Array Oper} {rest:List Oper} {a:Act} {Q:Exit→Act→World→Prop} {dst:Option Tmp} {s x:Operand} {ty:TypeId} {ps:String} {af:Array Edge}
 (hs:a.eval s=v) (hx:a.eval x= .slice (some ⟨W.heap.size,0,none⟩) bs.length bs.length)
 (k: ∀v' w',lh B0 w0 w' v' (xs++bs)→ai w' B t cs→wpList prog JT Q rest (a.put dst v') w'):wpList prog JT Q ({dst:=dst,op:= .call {callee:= .builtin .append,args:= #[s,x],argTypes:= #[180,180]},type:=ty,pos:=ps,after:=af,guard:=none}::rest) a (W.alloc (.cells vs.toArray 5)):=by
 obtain⟨i0,gF,gX,dw,eU⟩:=Zv Bm;obtain⟨bS,hb,hBs⟩:=h;subst hv
 have hr:aT (W.alloc (.cells (bs.map gS).toArray 5)) (W.heap.size+1) 1 (some ⟨W.heap.size,0,none⟩) bs.length (bs.map gS):=by
  refine⟨by simp,fun _=>⟨_,rfl,by simp,fun j u hu=> ?_⟩⟩
  have hbk:=ai.new W 5 (bs.map gS).toArray
  have adT:(⟨W.heap.size,0,none⟩:Addr).add j=⟨W.heap.size,j,none⟩:=by
   unfold Addr.add;split<;>simp_all
  rw [adT,hbk.cell j]
  simpa using hu
 refine aU (W.alloc (.cells (bs.map gS).toArray 5)) rfl s x 180 rfl B0 5 i0 _ 1 1 underlying180 gF gX dw eU rfl (by omega) v xs.length (xs.map gS) hs
  (bS.alloc _) _ _ bs.length _ (bs.map gS) hx hr (fun u hu=> ?_) (by simp only [maxLen];omega) (by omega) (by simp;omega) (fun v' w' ep hg _=> ?_)
 ·obtain⟨b,_,rfl⟩:=Ik.1 hu;rfl
 ·refine k v' w' (lh.more hb hBs bS ep hg) ((hB.alloc _).grown hg ?_)
  intro he;exact ee bS hB ht he.symm
theorem lh.stepOf{B0:Nat}{w0 W:World}{v:Value}{xs:List UInt8}(h:lh B0 w0 W v xs){B:Nat}{t:TypeId}{cs:Array Value}(hB:ai W B t cs)(ht:5≠t)
 (off cap:Nat) (bs:List UInt8) (hbs: ∀j u,bs[j]? =some u→cs[off+j]? =some (gS u)) (om:xs.length+bs.length≤4096) {JT:Array Oper} {rest:List Oper} {a:Act} {Q:Exit→Act→World→Prop} {dst:Option Tmp} {s x:Operand} {ty:TypeId} {ps:String} {af:Array Edge}
 (hs:a.eval s=v) (hx:a.eval x= .slice (some ⟨B,off,none⟩) bs.length cap)
 (k: ∀v' w',lh B0 w0 w' v' (xs++bs)→ai w' B t cs→wpList prog JT Q rest (a.put dst v') w'):wpList prog JT Q ({dst:=dst,op:= .call {callee:= .builtin .append,args:= #[s,x],argTypes:= #[180,180]},type:=ty,pos:=ps,after:=af,guard:=none}::rest) a W:=by
 obtain⟨i0,gF,gX,dw,eU⟩:=Zv Bm;obtain⟨bS,hb,hBs⟩:=h
 have hr:aT W W.heap.size 1 (some ⟨B,off,none⟩) bs.length (bs.map gS):=by
  refine⟨by simp,fun _=>⟨_,rfl,hB.lt,fun j u hu=> ?_⟩⟩
  have adT:(⟨B,off,none⟩:Addr).add j=⟨B,off+j,none⟩:=by
   unfold Addr.add
   split
   ·next h=>rw [h,Z4]
   ·rfl
  rw [adT,hB.cell];rw [zT]at hu
  rcases hj:bs[j]?with _|b
  ·rw [hj]at hu;cases hu
  ·rw [hj,ZO]at hu
   rw [←hu];exact hbs j b hj
 refine aU W rfl s x 180 rfl B0 5 i0 _ 1 1 underlying180 gF gX dw eU rfl (by omega) v xs.length (xs.map gS) hs
  bS _ _ bs.length _ (bs.map gS) hx hr (fun u hu=> ?_) (by simp only [maxLen];omega) (by omega) hBs (fun v' w' ep hg _=> ?_)
 ·obtain⟨b,_,rfl⟩:=Ik.1 hu;rfl
 ·refine k v' w' ⟨by rw [zS,List.map_append];exact ep,hb.grown hg hBs (fun k hk=> ?_),zQ hBs hg.size⟩ (hB.grown hg ?_)
  ·rcases bS.2 with⟨rfl,_⟩|⟨g,cap,Co,rfl,iE,_⟩
   ·simp [Value.ownBlock]at hk
   ·have:g=k:=by simpa [Value.ownBlock]using hk
    omega
  ·intro he
   exact ee bS hB ht he.symm
set_option maxHeartbeats 8000000
def im(w:World):Prop:=8<w.heap.size∧∀i,i<696→w.cell? ⟨8,i*2,none⟩=some (.int .u64 ((pw i).1:Int))∧w.cell? ⟨8,i*2+1,none⟩=some (.int .u64 ((pw i).2:Int))
theorem im.below{w w':World}{B:Nat}(h:im w)(hb:Below B w w')(hB:w.heap.size≤B):im w':=by
 refine⟨zy h.1 hb.size,fun i hi=> ?_⟩
 have h1:=h.1;rw [hb.cell (p:=⟨8,i*2,none⟩) (by show 8<B;omega),hb.cell (p:=⟨8,i*2+1,none⟩) (by show 8<B;omega)]
 exact h.2 i hi
theorem acK:(Go.Pinned.pow10Rows.all fun x=>decide (x.1<18446744073709551616)&&decide (x.2<18446744073709551616))=true:=by decide+kernel
theorem aaZ(i:Nat):(pw i).1<18446744073709551616∧(pw i).2<18446744073709551616:=by
 unfold pw
 rcases h:Go.Pinned.pow10Rows[i]?with _|x
 ·rw [ZX,h];decide
 ·rw [ZX,h]
  have hm:=zC h;have:=List.all_eq_true.1 acK x hm
  simpa using this
theorem pQ(x:Int)(xn hi lo:Nat)(s:Nat)(b:Nat)(w:World)(hb:ai w b 328 #[.int .u64 (hi:Int), .int .u64 (lo:Int), .int .i64 (s:Int)])(hs:s<64)(hx:x=(xn:Int))(hxn:xn<18446744073709551616)(Qo:hi<18446744073709551616)(FA:lo<18446744073709551616):Calls prog 315 #[.int .u64 x, .pointer (some ⟨b,0,none⟩)] w fun e w'=>e= .returned (.int .u64 (tj xn hi lo s:Nat))∧∃n,w'=w.drewN n:=by
 subst hx;exact Yd xn hi lo s b w (hb.cell 0) (hb.cell 1) (hb.cell 2) hs hxn Qo FA
theorem acL(x hi lo s:Nat)(hx:x<18446744073709551616)(Qo:hi<18446744073709551616):tj x hi lo s<eL:=by
 have hH:x*hi/eL<eL:=by
  rw [jF];exact Bz x hi hx Qo
 have hd: ∀a:Nat,a<eL→a/2^s<2^64:=fun a ha=>zW (ZI _ _) ha
 show tj x hi lo s<2^64;unfold tj;simp only
 split
 ·exact Nat.or_lt_two_pow (hd _ hH) (by decide)
 ·apply Nat.or_lt_two_pow
  ·apply hd
   split
   ·exact zU _ (by decide)
   ·exact hH
  ·split<;>decide
theorem tX(u d:Nat):lZ u d<eL:=zU _ (by decide)
theorem DC(k:Nat)(hk:k<9223372036854775808):bits .and .i64 (k:Int) 1=((k%2:Nat):Int):=by
 have h:=uE k 1 hk (by decide)
 rw [Nat.and_one_is_mod]at h;exact h
theorem DE(w w1:World)(o:Obj)(hg:(w.alloc o).grownBy w1 (some w.heap.size))(n:Nat):Below w.heap.size w (w1.drewN n):=
 below_drewN (((zg _ w).alloc (za _) o).grown hg (by simp) (fun k h=>by injection h with h;omega)) n
theorem M7(m z:Nat)(e:Int)(hz:12≤z∧z≤63)(QS:2^(z-1)≤m∧m+2^(z-1)<18446744073709551616)(hm:m≤18446744073709551615)(he:e= -1074-(z:Int)):IntKind.u64.wrap (↑m-IntKind.u64.wrap (2^((11+(-1085-e)).toNat-1)))=((m-2^(z-1):Nat):Int)∧IntKind.u64.wrap (↑m+IntKind.u64.wrap (2^((11+(-1085-e)).toNat-1)))=((m+2^(z-1):Nat):Int)∧bits BinOp.and IntKind.i64 (wrap64 (↑m/2^(11+(-1085-e)).toNat)) 1=((m/2^z%2:Nat):Int):=by
 have h1:(11+(-1085-e)).toNat=z:=by omega
 rw [h1];have h2:((2:Int)^(z-1))=((2^(z-1):Nat):Int):=by rw [Int.natCast_pow];rfl
 have h3:(2:Nat)^z≥2^12:=zF (by omega) hz.1
 have h4:(m:Int)/2^z=((m/2^z:Nat):Int):=by rw [Int.natCast_ediv,Int.natCast_pow];rfl
 have h5:m/2^z<2^52:=by
  apply Zh
  calc m<2^12*2^52:=by omega
   _≤2^z*2^52:=zn _ h3
 refine⟨?_,?_,?_⟩
 ·rw [h2,zE,zE]
  generalize 2^(z-1)=k at *;omega
 ·rw [h2,zE,zE]
  generalize 2^(z-1)=k at *;omega
 ·rw [h4,←DC _ (by omega)]
  generalize m/2^z=k at *;rw [show wrap64 (k:Int)=(k:Int)by unfold wrap64;omega]
abbrev iV(m:Nat)(e:Int)(w:World):Prop:=Calls prog 277 #[.int .u64 m, .int .i64 e] w fun e' w'=> ∃q,q=n_ (m-1024) (m+1024) m (pw (348-dP (e+11)).toNat).1 (pw (348-dP (e+11)).toNat).2 (-(e+fy (-dP (e+11))+3)).toNat (m/2048%2) (-dP (e+11))∧e'= .returned (.tuple #[.int .u64 (q.1:Nat), .int .i64 q.2])∧Below w.heap.size w w'
abbrev iW(m:Nat)(e:Int)(w:World)(z:Nat):Prop:=Calls prog 277 #[.int .u64 m, .int .i64 e] w fun e' w'=> ∃q,q=n_ (m-2^(z-1)) (m+2^(z-1)) m (pw 672).1 (pw 672).2 (-(e+1079)).toNat (m/2^z%2) 324∧e'= .returned (.tuple #[.int .u64 (q.1:Nat), .int .i64 q.2])∧Below w.heap.size w w'
theorem fO(m:Nat)(e:Int)(w:World):(∀(hm:m≤18446744073709549568) (uq:9223372036854775808≤m) (he: -1085≤e∧e≤960) (hsk:((m:Int)==9223372036854775808)=false) (ht:im w),iV m e w)∧(∀(hm:m≤18446744073709549568) (uq:9223372036854775808≤m) (he: -1085≤e∧e≤960) (he2:decide (-1085<e)=false) (hsk:((m:Int)==9223372036854775808)=true) (ht:im w),iV m e w)∧(∀(hm:m≤18446744073709549568) (uq:9223372036854775808≤m) (he: -1085<e∧e≤960) (hsk:((m:Int)==9223372036854775808)=true) (ht:im w),Calls prog 277 #[.int .u64 m, .int .i64 e] w fun e' w'=> ∃q,q=n_ (m-512) (m+1024) m (pw (348-vI (e+11)).toNat).1 (pw (348-vI (e+11)).toNat).2 (-(e+fy (-vI (e+11))+3)).toNat (m/2048%2) (-vI (e+11))∧e'= .returned (.tuple #[.int .u64 (q.1:Nat), .int .i64 q.2])∧Below w.heap.size w w')∧(∀(z:Nat) (hz:12≤z∧z≤63) (he:e= -1074-(z:Int)) (QS:2^(z-1)≤m∧m+2^(z-1)<18446744073709551616) (hm:m≤18446744073709551615) (uq:9223372036854775808≤m) (hsk:((m:Int)==9223372036854775808)=false) (_hd:decide (-1085<e)=false) (Wt:decide (-1085≤e)=false) (ht:im w),iW m e w z)∧(∀(z:Nat) (hz:12≤z∧z≤63) (he:e= -1074-(z:Int)) (QS:2^(z-1)≤m∧m+2^(z-1)<18446744073709551616) (hm:m≤18446744073709551615) (uq:9223372036854775808≤m) (hsk:((m:Int)==9223372036854775808)=true) (hd:decide (-1085<e)=false) (Wt:decide (-1085≤e)=false) (ht:im w),iW m e w z):=by
 unfold iV iW;refine⟨?_,?_,?_,?_,?_⟩;intro hm uq he hsk ht;have aj:=J (rfl:0=0)
 rotate_left;intro hm uq he he2 hsk ht;have aG:=J (rfl:0=0)
 rotate_left;intro hm uq he hsk ht;have aP:=J (rfl:0=0)
 rotate_left;intro z hz he QS hm uq hsk _hd Wt ht;have bk:=J (rfl:0=0)
 rotate_left;intro z hz he QS hm uq hsk hd Wt ht;have bz:=J (rfl:0=0)
 all_goals
  first
   |(first|replace bk:=bk|replace bz:=bz)
    have hq:dP (-1074)= -324:=by decide
    have hlp:fy 324=1076:=by decide
    have c10:Hid (∀w,Calls prog 272 #[.int .i64 (e+(11+(-1085-e)))] w fun e w'=>e= .returned (.int .i64 (-324))∧w=w'):=by
     have h0:e+(11+(-1085-e))= -1074:=by omega
     rw [h0,←hq];exact fun w=>Ks (-1074) w (by omega)
    have c2:Hid (∀w,Calls prog 314 #[.int .i64 324] w fun e w'=>e= .returned (.int .i64 1076)∧w=w'):=by
     rw [←hlp];exact fun w=>R4 324 w (by omega)
    clear hq hlp;have heb: -1137≤e∧e≤ -1086:=by omega
    obtain⟨s,Lq⟩: ∃s:Nat,(s:Int)= -(e+1076+3):=⟨(-(e+1076+3)).toNat,by omega⟩
    rw [show -(e+1079)=(s:Int)by omega,zv]
   |first
     |(first|replace aj:=aj|replace aG:=aG)
      have hq: -324≤dP (e+11)∧dP (e+11)≤293:=by unfold dP;omega
      have hs:0≤ -(e+fy (-dP (e+11))+3)∧ -(e+fy (-dP (e+11))+3)<64:=by unfold fy dP;omega
      have hl: -2000≤fy (-dP (e+11))∧fy (-dP (e+11))≤2000:=by unfold fy dP;omega
      have c10:=J (fun w=>Ks (e+11) w (by omega))
      generalize dP (e+11)=q at *
     |have hq: -324≤vI (e+11)∧vI (e+11)≤293:=by unfold vI;omega
      have hs:0≤ -(e+fy (-vI (e+11))+3)∧ -(e+fy (-vI (e+11))+3)<64:=by unfold fy vI;omega
      have hl: -2000≤fy (-vI (e+11))∧fy (-vI (e+11))≤2000:=by unfold fy vI;omega
      have c10:=J (fun w=>Xi (e+11) w (by omega))
      generalize vI (e+11)=q at *
    have c2:=J (fun w=>R4 (-q) w (by omega))
    generalize fy (-q)=lp at *;obtain⟨s,Lq⟩: ∃s:Nat,(s:Int)= -(e+lp+3):=⟨(-(e+lp+3)).toNat,by omega⟩
    obtain⟨i,hi⟩: ∃i:Nat,(i:Int)=348-q:=⟨(348-q).toNat,by omega⟩
    rw [←Lq,←hi,zv,zv]
  have Qs:s<64:=by omega
  first
   |(first|replace bk:=bk|replace bz:=bz)
    obtain⟨JI,Fu⟩:=aaZ 672
   |have hi6:i<696:=by omega
    obtain⟨JI,Fu⟩:=aaZ i
  have Cg:im (w.alloc (.cells #[.int .u64 0, .int .u64 0, .int .i64 0] 328)):=ht.below ((zg _ _).alloc (za _) _) (za _)
  first
   |(first|replace bk:=bk|replace bz:=bz)
    have aai:=J (fun(w:World) b v0 v1 v2 hb (Cg:im w)=>Kr e 324 1076 b w v0 v1 v2 hb 672 (by omega) (by omega) (pw 672).1 (pw 672).2 s (Cg.2 672 (by omega)).1 (Cg.2 672 (by omega)).2 (by omega) (by omega) Lq)
    generalize(pw 672).1=lQ at *;generalize(pw 672).2=vz at *
   |have aai:=J (fun(w:World) b v0 v1 v2 hb (Cg:im w)=>Kr e (-q) lp b w v0 v1 v2 hb i (by omega) hi6 (pw i).1 (pw i).2 s (Cg.2 i hi6).1 (Cg.2 i hi6).2 (by omega) (by omega) Lq)
    generalize(pw i).1=lQ at *;generalize(pw i).2=vz at *
  have hT:=J Cg
  first
   |(first|replace bk:=bk|replace bz:=bz)
    clear ht Cg Lq;obtain⟨emn,emx,eod⟩:=M7 m z e hz QS hm he;have EMN:=J emn;have EMX:=J emx;clear he emn emx;have Vv:m/2^z%2≤1:=by omega
    have hmn:m-2^(z-1)<18446744073709551616:=zW (Nat.sub_le _ _) (by omega)
    have Y9:m+2^(z-1)<18446744073709551616:=QS.2
   |clear ht Cg Lq hi hs
    have Cd:=DC (m/2048) (by omega)
    have Vv:m/2048%2≤1:=by omega
    have JZ:bits BinOp.and IntKind.i64 (↑m/2048) 1=((m/2048%2:Nat):Int):=by rw [←Cd];rfl
    clear Cd;generalize m/2048%2=vA at *
    first
     |(first|replace aj:=aj|replace aG:=aG)
      have hmn:m-1024<18446744073709551616:=by omega
     |have hmn:m-512<18446744073709551616:=by omega
    have Y9:m+1024<18446744073709551616:=by omega
  have ahh:m<18446744073709551616:=by omega
  first
   |(first|replace bk:=bk|replace bz:=bz)
    generalize m/2^z%2=vA at *;generalize m-2^(z-1)=mn at *;generalize m+2^(z-1)=mx at *;clear QS hz
   |skip
  go_enter func277,ntmps277;go_wp2_with fail;refine(c10.out _).mono ?_;rintro e w1 ⟨rfl,rfl⟩;go_wp2_with fail;refine(c2.out _).mono ?_;rintro e w1 ⟨rfl,rfl⟩;go_wp2_with fail;refine(aai.out _ _ _ _ _ (ai.new _ _ _) hT.out).mono ?_;rintro e w1 ⟨rfl,hb,hg⟩;have HB:=J hb;have HF:=J (fun n=>DE w w1 _ hg n)
  clear hb hg;go_wp2_with fail
  first
   |replace aP:=aP
    refine(pQ _ (m-512) lQ vz s _ _ HB.out Qs (by omega) hmn JI Fu).mono ?_
   |(first|replace aj:=aj|replace aG:=aG)
    refine(pQ _ (m-1024) lQ vz s _ _ HB.out Qs (by omega) hmn JI Fu).mono ?_
   |refine(pQ _ mn lQ vz s _ _ HB.out Qs EMN.out hmn JI Fu).mono ?_
  rintro e w2 ⟨rfl,n2,rfl⟩;go_wp2_with fail;refine(RZ _ vA _).mono ?_;rintro e w3 ⟨rfl,rfl⟩;go_wp2_with fail;refine(acb _ _).mono ?_;rintro e w3 ⟨rfl,rfl⟩
  first
   |replace aP:=aP
    obtain⟨A,HA⟩: ∃A,Hid (A=qK (oM (tj (m-512) lQ vz s) vA)):=⟨_,rfl⟩
   |(first|replace aj:=aj|replace aG:=aG)
    obtain⟨A,HA⟩: ∃A,Hid (A=qK (oM (tj (m-1024) lQ vz s) vA)):=⟨_,rfl⟩
   |obtain⟨A,HA⟩: ∃A,Hid (A=qK (oM (tj mn lQ vz s) vA)):=⟨_,rfl⟩
  rw [←HA.out];go_wp2_with fail
  first
   |(first|replace bk:=bk|replace bz:=bz)
    refine(pQ _ mx lQ vz s _ _ (HB.out.drewN n2) Qs EMX.out Y9 JI Fu).mono ?_
   |refine(pQ _ (m+1024) lQ vz s _ _ (HB.out.drewN n2) Qs (by omega) Y9 JI Fu).mono ?_
  rintro e w3 ⟨rfl,n3,rfl⟩;go_wp2_with fail;refine(R3 _ vA Vv _).mono ?_;rintro e w3 ⟨rfl,rfl⟩;go_wp2_with fail;refine(Xg _ (tX _ _) _).mono ?_;rintro e w3 ⟨rfl,rfl⟩
  first
   |(first|replace bk:=bk|replace bz:=bz)
    obtain⟨Bx,HBx⟩: ∃Bx,Hid (Bx=ko (lZ (tj mx lQ vz s) vA)):=⟨_,rfl⟩
   |obtain⟨Bx,HBx⟩: ∃Bx,Hid (Bx=ko (lZ (tj (m+1024) lQ vz s) vA)):=⟨_,rfl⟩
  have hBx:Bx<4611686018427387904:=by
   rw [HBx.out];unfold ko
   first
    |(first|replace bk:=bk|replace bz:=bz)
     have:=tX (tj mx lQ vz s) vA
    |have:=tX (tj (m+1024) lQ vz s) vA
   rw [jF]at this;omega
  rw [←HBx.out]
  first
   |replace aP:=aP
    have HP:Hid (n_ (m-512) (m+1024) m lQ vz s vA (-q)=if A≤Bx/10*10 then(Bx/10,1-(-q))else(if A<Bx then kq (tj m lQ vz s)else A,-(-q))):=by
     rw [HA.out,HBx.out];rfl
   |(first|replace aj:=aj|replace aG:=aG)
    have HP:Hid (n_ (m-1024) (m+1024) m lQ vz s vA (-q)=if A≤Bx/10*10 then(Bx/10,1-(-q))else(if A<Bx then kq (tj m lQ vz s)else A,-(-q))):=by
     rw [HA.out,HBx.out];rfl
   |have HP:Hid (n_ mn mx m lQ vz s vA (324)=if A≤Bx/10*10 then(Bx/10,1-(324))else(if A<Bx then kq (tj m lQ vz s)else A,-(324))):=by
     rw [HA.out,HBx.out];rfl
  by_cases hAB:A≤Bx/10*10
  ·go_wp2_with fail
   first
    |(first|replace bk:=bk|replace bz:=bz)
     refine zi (v:= .tuple #[.int .u64 ((Bx/10:Nat):Int), .int .i64 (1-(324))]) (by simp [results,results277,go_sem]<;>omega) rfl ⟨_,rfl,?_,HF.out _⟩
    |refine zi (v:= .tuple #[.int .u64 ((Bx/10:Nat):Int), .int .i64 (1-(-q))]) (by simp [results,results277,go_sem]<;>omega) rfl ⟨_,rfl,?_,HF.out _⟩
   rw [HP.out,zh hAB]
  ·by_cases bw:A<Bx
   ·go_wp2_with fail
    refine(pQ _ m lQ vz s _ _ (HB.out.drewN (n2+n3)) Qs rfl ahh JI Fu).mono ?_;rintro e w4 ⟨rfl,n4,rfl⟩;go_wp2_with fail;refine(Xh _ (acL _ _ _ _ ahh JI) _).mono ?_;rintro e w5 ⟨rfl,rfl⟩;obtain⟨C,HC⟩: ∃C,Hid (C=kq (tj m lQ vz s)):=⟨_,rfl⟩;rw [←HC.out];go_wp2_with fail
    first
     |(first|replace bk:=bk|replace bz:=bz)
      refine zi (v:= .tuple #[.int .u64 (C:Int), .int .i64 (-(324))]) (by simp [results,results277,go_sem]) rfl ⟨_,rfl,?_,HF.out _⟩
     |refine zi (v:= .tuple #[.int .u64 (C:Int), .int .i64 (-(-q))]) (by simp [results,results277,go_sem]) rfl ⟨_,rfl,?_,HF.out _⟩
    rw [HP.out,ze hAB,zh bw,HC.out]
   ·go_wp2_with fail
    first
     |(first|replace bk:=bk|replace bz:=bz)
      refine zi (v:= .tuple #[.int .u64 (A:Int), .int .i64 (-(324))]) (by simp [results,results277,go_sem]) rfl ⟨_,rfl,?_,HF.out _⟩
     |refine zi (v:= .tuple #[.int .u64 (A:Int), .int .i64 (-(-q))]) (by simp [results,results277,go_sem]) rfl ⟨_,rfl,?_,HF.out _⟩
    rw [HP.out,ze hAB,ze bw]
def Gz a b c:=(fO a b c).1
def M8 a b c:=(fO a b c).2.1
def GA a b c:=(fO a b c).2.2.1
def BA a b c:=(fO a b c).2.2.2.1
def BB a b c:=(fO a b c).2.2.2.2
def af0(w:World)(q:Nat×Int)(e':Ending)(w':World):Prop:=e'= .returned (.tuple #[.int .u64 (q.1:Nat), .int .i64 q.2])∧Below w.heap.size w w'
theorem wU{m:Nat}(h:m=9223372036854775808):((m:Int)==9223372036854775808)=true:=by rw [Zr];omega
theorem Af{m:Nat}(h:m≠9223372036854775808):((m:Int)==9223372036854775808)=false:=by rw [zf];omega
theorem Ag(u:Nat)(h0:0<u)(hu:u<9218868437227405312)(x y:Int)(hx:x=(li u:Nat))(hy:y=tl u)(w:World)(ht:im w):Calls prog 277 #[.int .u64 x, .int .i64 y] w (af0 w (aM u)):=by
 subst hx hy;unfold aM
 by_cases hz:u/2^52=0
 ·rw [zh hz]
  have hf:u%2^52≠0:=by omega
  have bw:u%2^52<2^52:=zU _ (by decide)
  have hl:(u%2^52).log2<52:=(Nat.log2_lt hf).2 bw;have hm:li u=u%2^52*2^(63-(u%2^52).log2):=by unfold li;rw [zh hz]
  have he:tl u= -1074-((63-(u%2^52).log2:Nat):Int):=by unfold tl;rw [zh hz]
  have h1:=Nat.log2_self_le hf;have h2:=Nat.lt_log2_self (n:=u%2^52);generalize u%2^52=fr at *;generalize hzz:63-fr.log2=z at *;have ahi:12≤z∧z≤63:=by omega
  have cT:9223372036854775808≤li u:=by
   rw [hm]
   calc 9223372036854775808=2^fr.log2*2^z:=by rw [←zu,show fr.log2+z=63 by omega]
    _≤fr*2^z:=zn _ h1
  have cB:li u+2^z≤18446744073709551616:=by
   rw [hm]
   calc fr*2^z+2^z=(fr+1)*2^z:=by rw [zV,zP]
    _≤2^(fr.log2+1)*2^z:=zn _ h2
    _=18446744073709551616:=by rw [←zu,show fr.log2+1+z=64 by omega]
  have hpz:(2:Nat)^z=2*2^(z-1):=by rw [←Nat.pow_succ'];congr 1;omega
  have hpp:=zo (z-1);have kZ:(2:Nat)^(z-1)≤2^62:=zF (by decide) (by omega)
  have hd:decide (-1085<tl u)=false:=zb (by omega)
  have Wt:decide (-1085≤tl u)=false:=zb (by omega)
  unfold Db
  by_cases hk:li u=9223372036854775808
  ·refine(BB _ _ w z ahi he ⟨by omega,by omega⟩ (by omega) cT (wU hk) hd Wt ht).mono ?_
   rintro e w' ⟨q,rfl,h⟩;exact h
  ·refine(BA _ _ w z ahi he ⟨by omega,by omega⟩ (by omega) cT (Af hk) hd Wt ht).mono ?_
   rintro e w' ⟨q,rfl,h⟩;exact h
 ·rw [ze hz]
  have hm:li u=(u%2^52+2^52)*2048:=by unfold li;rw [ze hz]
  have he:tl u=((u/2^52:Nat):Int)-1086:=by unfold tl;rw [ze hz]
  have hb:9223372036854775808≤li u∧li u≤18446744073709549568:=by omega
  have hee: -1085≤tl u∧tl u≤960:=by omega
  by_cases hk:u%2^52=0∧u/2^52≠1
  ·rw [zh hk]
   have hm9:li u=9223372036854775808:=by rw [hm,hk.1]
   refine(GA _ _ w hb.2 hb.1 ⟨by omega,hee.2⟩ (wU hm9) ht).mono ?_
   rintro e w' ⟨q,rfl,h⟩;exact h
  ·rw [ze hk]
   by_cases hk2:li u=9223372036854775808
   ·refine(M8 _ _ w hb.2 hb.1 hee (zb (by omega)) (wU hk2) ht).mono ?_
    rintro e w' ⟨q,rfl,h⟩;exact h
   ·refine(Gz _ _ w hb.2 hb.1 hee (Af hk2) ht).mono ?_
    rintro e w' ⟨q,rfl,h⟩;exact h
end Go.Proofs.YtcpmiplofbfmfaaGreatDoor
