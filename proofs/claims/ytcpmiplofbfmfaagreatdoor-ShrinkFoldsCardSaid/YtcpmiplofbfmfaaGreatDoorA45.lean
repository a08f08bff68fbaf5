/- Shrink: which primitives may be folded; the reference's Prim -/
import Derived.Test.YtcpmiplofbfmfaaGreatDoorA44
set_option linter.all false
set_option maxRecDepth 100000
set_option maxHeartbeats 2000000
namespace Go.Proofs.YtcpmiplofbfmfaaGreatDoor
open Go.Proofs.Tryz
open Go.Lib renaming hid→J
open Go.RowKit LamM CpsM FloM ShrM
theorem sT(S:List UInt8)(w:World):Calls prog 15 #[.string ⟨S.toArray⟩] w fun e w'=>e= .returned (.bool (decide (S∈bZ)))∧Below w.heap.size w w':=by
 obtain⟨R,hR⟩: ∃R,decide (S∈bZ)=R:=⟨_,rfl⟩;rw [hR];have HR:=J hR;clear hR;obtain⟨W,hW⟩: ∃W,w.alloc (.cells #[.string ⟨#[43]⟩, .string ⟨#[45]⟩, .string ⟨#[42]⟩, .string ⟨#[126]⟩, .string ⟨#[97,98,115]⟩, .string ⟨#[60]⟩, .string ⟨#[60,61]⟩, .string ⟨#[62]⟩, .string ⟨#[62,61]⟩, .string ⟨#[100,105,118]⟩, .string ⟨#[109,111,100]⟩, .string ⟨#[113,117,111,116]⟩, .string ⟨#[114,101,109]⟩, .string ⟨#[47]⟩, .string ⟨#[102,108,111,111,114]⟩, .string ⟨#[99,101,105,108]⟩, .string ⟨#[116,114,117,110,99]⟩, .string ⟨#[114,111,117,110,100]⟩, .string ⟨#[114,101,97,108]⟩, .string ⟨#[115,97,109,101]⟩, .string ⟨#[105,115,78,97,110]⟩, .string ⟨#[114,101,97,108,84,101,120,116]⟩, .string ⟨#[105,110,116,84,101,120,116]⟩, .string ⟨#[111,114,100]⟩, .string ⟨#[99,104,114]⟩, .string ⟨#[94]⟩, .string ⟨#[115,105,122,101]⟩, .string ⟨#[115,117,98]⟩, .string ⟨#[115,117,98,115,116,114,105,110,103]⟩, .string ⟨#[115,116,114]⟩, .string ⟨#[61]⟩, .string ⟨#[60,62]⟩] 9)=W:=⟨_,rfl⟩;go_enter func15,ntmps15;go_wp2_with fail;have HB:=J (show Below w.heap.size w W by rw [←hW];exact(zg _ _).alloc (za _) _)
 have HBk:=J (show ai W w.heap.size 9 #[.string ⟨#[43]⟩, .string ⟨#[45]⟩, .string ⟨#[42]⟩, .string ⟨#[126]⟩, .string ⟨#[97,98,115]⟩, .string ⟨#[60]⟩, .string ⟨#[60,61]⟩, .string ⟨#[62]⟩, .string ⟨#[62,61]⟩, .string ⟨#[100,105,118]⟩, .string ⟨#[109,111,100]⟩, .string ⟨#[113,117,111,116]⟩, .string ⟨#[114,101,109]⟩, .string ⟨#[47]⟩, .string ⟨#[102,108,111,111,114]⟩, .string ⟨#[99,101,105,108]⟩, .string ⟨#[116,114,117,110,99]⟩, .string ⟨#[114,111,117,110,100]⟩, .string ⟨#[114,101,97,108]⟩, .string ⟨#[115,97,109,101]⟩, .string ⟨#[105,115,78,97,110]⟩, .string ⟨#[114,101,97,108,84,101,120,116]⟩, .string ⟨#[105,110,116,84,101,120,116]⟩, .string ⟨#[111,114,100]⟩, .string ⟨#[99,104,114]⟩, .string ⟨#[94]⟩, .string ⟨#[115,105,122,101]⟩, .string ⟨#[115,117,98]⟩, .string ⟨#[115,117,98,115,116,114,105,110,103]⟩, .string ⟨#[115,116,114]⟩, .string ⟨#[61]⟩, .string ⟨#[60,62]⟩]by rw [←hW];exact ai.new _ _ _)
 clear hW
 go_loop [4] (fun ix=> ∃k:Nat,k≤32∧ix= .int .i64 (k:Int)∧Hid (S∉bZ.take k)) (fun ix=>32-(intOf ix).toNat)
 case atStart=>exact⟨0,zO _,rfl,J (by simp)⟩
 case round=>
  obtain⟨k,hk,rfl,HE⟩:=hrel
  rcases zj k 32 with bw|iE
  ·obtain⟨t,ht⟩: ∃t,bZ[k]? =some t:=⟨_,zk (show k<bZ.length from bw)⟩
   have c0:W.cell? ⟨w.heap.size,k,none⟩=some (.string ⟨t.toArray⟩):=by
    have h1:=HBk.out.cell k;rw [show(#[.string ⟨#[43]⟩, .string ⟨#[45]⟩, .string ⟨#[42]⟩, .string ⟨#[126]⟩, .string ⟨#[97,98,115]⟩, .string ⟨#[60]⟩, .string ⟨#[60,61]⟩, .string ⟨#[62]⟩, .string ⟨#[62,61]⟩, .string ⟨#[100,105,118]⟩, .string ⟨#[109,111,100]⟩, .string ⟨#[113,117,111,116]⟩, .string ⟨#[114,101,109]⟩, .string ⟨#[47]⟩, .string ⟨#[102,108,111,111,114]⟩, .string ⟨#[99,101,105,108]⟩, .string ⟨#[116,114,117,110,99]⟩, .string ⟨#[114,111,117,110,100]⟩, .string ⟨#[114,101,97,108]⟩, .string ⟨#[115,97,109,101]⟩, .string ⟨#[105,115,78,97,110]⟩, .string ⟨#[114,101,97,108,84,101,120,116]⟩, .string ⟨#[105,110,116,84,101,120,116]⟩, .string ⟨#[111,114,100]⟩, .string ⟨#[99,104,114]⟩, .string ⟨#[94]⟩, .string ⟨#[115,105,122,101]⟩, .string ⟨#[115,117,98]⟩, .string ⟨#[115,117,98,115,116,114,105,110,103]⟩, .string ⟨#[115,116,114]⟩, .string ⟨#[61]⟩, .string ⟨#[60,62]⟩]:Array Value)[k]? =(bZ.map fun t=>Value.string ⟨t.toArray⟩).toArray[k]?from rfl]at h1
    rw [h1];simp [ht]
   have dw:(k:Int)<32:=by omega
   have HT:=J (show bZ.take (k+1)=bZ.take k++[t]by rw [List.take_succ,ht];rfl)
   have HM:=J (zC ht);clear ht
   by_cases hq:t=S
   ·subst hq
    have q1:(t==t)=true:=by simp
    have hE:=J (show R=true by rw [←HR.out];exact zc HM.out)
    go_wp2_with fail
    go_ret;exact⟨by rw [hE.out];rfl,HB.out⟩
   ·have q1:(t==S)=false:=zf.2 hq
    have hE:=J (show S∉bZ.take (k+1)by rw [HT.out];intro h;rcases ZJ.1 h with h|h;exact HE.out h;exact hq (zt.1 h).symm)
    clear hq;go_wp2_with fail
    go_round
    case rel=>exact⟨k+1,by omega,by go_num,hE⟩
    case measure=>simp [intOf];omega
  ·have dw: ¬(k:Int)<32:=by omega
   have hE:=J (show R=false by rw [←HR.out];exact zb (by have:=HE.out;rwa [List.take_of_length_le (show bZ.length≤k from iE)]at this))
   go_wp2_with fail
   go_ret;exact⟨by rw [hE.out];rfl,HB.out⟩
theorem eB{L:List At}{n:Int}(h:(L.length:Int)=n)(e:n=1:=by rfl): ∃x,L=[x]:=by
 match L,h with
 |[x],_=>exact⟨x,rfl⟩
 |[],h=>simp at h;omega
 |_::_::_,h=>simp at h;omega
theorem bI{L:List At}{n:Int}(h:(L.length:Int)=n)(e:n=2:=by rfl): ∃x y,L=[x,y]:=by
 match L,h with
 |[x,y],_=>exact⟨x,y,rfl⟩
 |[],h=>simp at h;omega
 |[_],h=>simp at h;omega
 |_::_::_::_,h=>simp at h;omega
theorem PQ{L:List At}{n:Int}(h:(L.length:Int)=n)(e:n=3:=by rfl): ∃x y z,L=[x,y,z]:=by
 match L,h with
 |[x,y,z],_=>exact⟨x,y,z,rfl⟩
 |[],h=>simp at h;omega
 |[_],h=>simp at h;omega
 |[_,_],h=>simp at h;omega
 |_::_::_::_::_,h=>simp at h;omega
theorem UM(M:Nat)(v0 pv v2 v3 v4 v5 v6 v7 v8:Value)(j:Nat)(p:Pr)(hpt:ao[j]? =some p)(hn:p.nm∈bZ)(L:List At)(hl:(L.length:Int)=p.args)(ho: ∀a∈L,gI a)(v:Value)(w:World)(a9:PV w w.heap.size pv ao)(hM:ai w M 59 #[v0,pv,v2,v3,v4,v5,v6,v7,v8])(dW:VL w M v L):
 Calls prog 17 #[.pointer (some ⟨M,0,none⟩), .int .i64 (j:Int),v] w (dj M v0 pv v2 v3 v4 v5 v6 v7 v8 (aC p L) w):=by
 have hp:=zC hpt;simp only [ao,dS,ej,nD,ZJ,zx,zD,Zo]at hp
 rcases hp with(rfl|rfl|rfl|rfl|rfl|rfl|rfl|rfl|rfl)|(rfl|rfl|rfl|rfl|rfl|rfl|rfl|rfl|rfl)|(rfl|rfl|rfl|rfl)|(rfl|rfl|rfl|rfl)|rfl|rfl|rfl|rfl|rfl|rfl|rfl|rfl|rfl|rfl|rfl|rfl|rfl|rfl|rfl|rfl|rfl|rfl|rfl|rfl|rfl|rfl|rfl|rfl|rfl|rfl|rfl|rfl|rfl|rfl|rfl|rfl|rfl|rfl|rfl
 ·obtain⟨x,y,rfl⟩: ∃x y,L=[x,y]:=bI hl
  exact kV M v0 pv v2 v3 v4 v5 v6 v7 v8 j _ _ _ _ hpt rfl (by decide) (by decide) (by decide) x y (ho x (by simp)) (ho y (by simp)) v w a9 hM dW
 ·obtain⟨x,y,rfl⟩: ∃x y,L=[x,y]:=bI hl
  exact kV M v0 pv v2 v3 v4 v5 v6 v7 v8 j _ _ _ _ hpt rfl (by decide) (by decide) (by decide) x y (ho x (by simp)) (ho y (by simp)) v w a9 hM dW
 ·obtain⟨x,y,rfl⟩: ∃x y,L=[x,y]:=bI hl
  exact kV M v0 pv v2 v3 v4 v5 v6 v7 v8 j _ _ _ _ hpt rfl (by decide) (by decide) (by decide) x y (ho x (by simp)) (ho y (by simp)) v w a9 hM dW
 ·obtain⟨x,rfl⟩: ∃x,L=[x]:=eB hl
  exact ES M v0 pv v2 v3 v4 v5 v6 v7 v8 j _ _ _ _ hpt rfl x (ho x (by simp)) v w a9 hM dW
 ·obtain⟨x,rfl⟩: ∃x,L=[x]:=eB hl
  exact ES M v0 pv v2 v3 v4 v5 v6 v7 v8 j _ _ _ _ hpt rfl x (ho x (by simp)) v w a9 hM dW
 ·obtain⟨x,y,rfl⟩: ∃x y,L=[x,y]:=bI hl
  exact kV M v0 pv v2 v3 v4 v5 v6 v7 v8 j _ _ _ _ hpt rfl (by decide) (by decide) (by decide) x y (ho x (by simp)) (ho y (by simp)) v w a9 hM dW
 ·obtain⟨x,y,rfl⟩: ∃x y,L=[x,y]:=bI hl
  exact kV M v0 pv v2 v3 v4 v5 v6 v7 v8 j _ _ _ _ hpt rfl (by decide) (by decide) (by decide) x y (ho x (by simp)) (ho y (by simp)) v w a9 hM dW
 ·obtain⟨x,y,rfl⟩: ∃x y,L=[x,y]:=bI hl
  exact kV M v0 pv v2 v3 v4 v5 v6 v7 v8 j _ _ _ _ hpt rfl (by decide) (by decide) (by decide) x y (ho x (by simp)) (ho y (by simp)) v w a9 hM dW
 ·obtain⟨x,y,rfl⟩: ∃x y,L=[x,y]:=bI hl
  exact kV M v0 pv v2 v3 v4 v5 v6 v7 v8 j _ _ _ _ hpt rfl (by decide) (by decide) (by decide) x y (ho x (by simp)) (ho y (by simp)) v w a9 hM dW
 ·obtain⟨x,y,rfl⟩: ∃x y,L=[x,y]:=bI hl
  exact gJ M v0 pv v2 v3 v4 v5 v6 v7 v8 j _ _ _ _ hpt rfl x y (ho x (by simp)) (ho y (by simp)) v w a9 hM dW
 ·obtain⟨x,y,rfl⟩: ∃x y,L=[x,y]:=bI hl
  exact gJ M v0 pv v2 v3 v4 v5 v6 v7 v8 j _ _ _ _ hpt rfl x y (ho x (by simp)) (ho y (by simp)) v w a9 hM dW
 ·obtain⟨x,y,rfl⟩: ∃x y,L=[x,y]:=bI hl
  exact gJ M v0 pv v2 v3 v4 v5 v6 v7 v8 j _ _ _ _ hpt rfl x y (ho x (by simp)) (ho y (by simp)) v w a9 hM dW
 ·obtain⟨x,rfl⟩: ∃x,L=[x]:=eB hl
  exact xD M v0 pv v2 v3 v4 v5 v6 v7 v8 j _ _ _ _ hpt rfl x (ho x (by simp)) v w a9 hM dW
 ·obtain⟨x,rfl⟩: ∃x,L=[x]:=eB hl
  exact xD M v0 pv v2 v3 v4 v5 v6 v7 v8 j _ _ _ _ hpt rfl x (ho x (by simp)) v w a9 hM dW
 ·obtain⟨x,y,rfl⟩: ∃x y,L=[x,y]:=bI hl
  exact gJ M v0 pv v2 v3 v4 v5 v6 v7 v8 j _ _ _ _ hpt rfl x y (ho x (by simp)) (ho y (by simp)) v w a9 hM dW
 ·obtain⟨x,y,rfl⟩: ∃x y,L=[x,y]:=bI hl
  exact gJ M v0 pv v2 v3 v4 v5 v6 v7 v8 j _ _ _ _ hpt rfl x y (ho x (by simp)) (ho y (by simp)) v w a9 hM dW
 ·obtain⟨x,y,rfl⟩: ∃x y,L=[x,y]:=bI hl
  exact gJ M v0 pv v2 v3 v4 v5 v6 v7 v8 j _ _ _ _ hpt rfl x y (ho x (by simp)) (ho y (by simp)) v w a9 hM dW
 ·obtain⟨x,y,rfl⟩: ∃x y,L=[x,y]:=bI hl
  exact gJ M v0 pv v2 v3 v4 v5 v6 v7 v8 j _ _ _ _ hpt rfl x y (ho x (by simp)) (ho y (by simp)) v w a9 hM dW
 ·obtain⟨x,y,rfl⟩: ∃x y,L=[x,y]:=bI hl
  exact p_ M v0 pv v2 v3 v4 v5 v6 v7 v8 j _ _ _ _ hpt rfl x y (ho x (by simp)) (ho y (by simp)) v w a9 hM dW
 ·obtain⟨x,y,rfl⟩: ∃x y,L=[x,y]:=bI hl
  exact p_ M v0 pv v2 v3 v4 v5 v6 v7 v8 j _ _ _ _ hpt rfl x y (ho x (by simp)) (ho y (by simp)) v w a9 hM dW
 ·obtain⟨x,y,rfl⟩: ∃x y,L=[x,y]:=bI hl
  exact p_ M v0 pv v2 v3 v4 v5 v6 v7 v8 j _ _ _ _ hpt rfl x y (ho x (by simp)) (ho y (by simp)) v w a9 hM dW
 ·obtain⟨x,y,rfl⟩: ∃x y,L=[x,y]:=bI hl
  exact p_ M v0 pv v2 v3 v4 v5 v6 v7 v8 j _ _ _ _ hpt rfl x y (ho x (by simp)) (ho y (by simp)) v w a9 hM dW
 ·obtain⟨x,y,rfl⟩: ∃x y,L=[x,y]:=bI hl
  exact lP M v0 pv v2 v3 v4 v5 v6 v7 v8 j _ _ _ _ hpt rfl x y (ho x (by simp)) (ho y (by simp)) v w a9 hM dW
 ·obtain⟨x,y,rfl⟩: ∃x y,L=[x,y]:=bI hl
  exact lP M v0 pv v2 v3 v4 v5 v6 v7 v8 j _ _ _ _ hpt rfl x y (ho x (by simp)) (ho y (by simp)) v w a9 hM dW
 ·obtain⟨x,y,rfl⟩: ∃x y,L=[x,y]:=bI hl
  exact lP M v0 pv v2 v3 v4 v5 v6 v7 v8 j _ _ _ _ hpt rfl x y (ho x (by simp)) (ho y (by simp)) v w a9 hM dW
 ·obtain⟨x,y,rfl⟩: ∃x y,L=[x,y]:=bI hl
  exact lP M v0 pv v2 v3 v4 v5 v6 v7 v8 j _ _ _ _ hpt rfl x y (ho x (by simp)) (ho y (by simp)) v w a9 hM dW
 ·obtain⟨x,y,rfl⟩: ∃x y,L=[x,y]:=bI hl
  exact sS M v0 pv v2 v3 v4 v5 v6 v7 v8 j _ _ _ _ hpt rfl (by decide) x y (ho x (by simp)) (ho y (by simp)) v w a9 hM dW
 ·obtain⟨x,y,rfl⟩: ∃x y,L=[x,y]:=bI hl
  exact sS M v0 pv v2 v3 v4 v5 v6 v7 v8 j _ _ _ _ hpt rfl (by decide) x y (ho x (by simp)) (ho y (by simp)) v w a9 hM dW
 ·obtain⟨x,y,rfl⟩: ∃x y,L=[x,y]:=bI hl
  exact sS M v0 pv v2 v3 v4 v5 v6 v7 v8 j _ _ _ _ hpt rfl (by decide) x y (ho x (by simp)) (ho y (by simp)) v w a9 hM dW
 ·obtain⟨x,y,rfl⟩: ∃x y,L=[x,y]:=bI hl
  exact sS M v0 pv v2 v3 v4 v5 v6 v7 v8 j _ _ _ _ hpt rfl (by decide) x y (ho x (by simp)) (ho y (by simp)) v w a9 hM dW
 ·obtain⟨x,y,rfl⟩: ∃x y,L=[x,y]:=bI hl
  exact xE M v0 pv v2 v3 v4 v5 v6 v7 v8 j _ _ _ _ hpt rfl (by decide) x y (ho x (by simp)) (ho y (by simp)) v w a9 hM dW
 ·obtain⟨x,rfl⟩: ∃x,L=[x]:=eB hl
  exact ja M v0 pv v2 v3 v4 v5 v6 v7 v8 j _ _ _ _ hpt rfl (by decide) x (ho x (by simp)) v w a9 hM dW
 ·obtain⟨x,rfl⟩: ∃x,L=[x]:=eB hl
  exact ja M v0 pv v2 v3 v4 v5 v6 v7 v8 j _ _ _ _ hpt rfl (by decide) x (ho x (by simp)) v w a9 hM dW
 ·obtain⟨x,rfl⟩: ∃x,L=[x]:=eB hl
  exact ja M v0 pv v2 v3 v4 v5 v6 v7 v8 j _ _ _ _ hpt rfl (by decide) x (ho x (by simp)) v w a9 hM dW
 ·obtain⟨x,rfl⟩: ∃x,L=[x]:=eB hl
  exact ja M v0 pv v2 v3 v4 v5 v6 v7 v8 j _ _ _ _ hpt rfl (by decide) x (ho x (by simp)) v w a9 hM dW
 ·obtain⟨x,rfl⟩: ∃x,L=[x]:=eB hl
  exact EU M v0 pv v2 v3 v4 v5 v6 v7 v8 j _ _ _ _ hpt rfl rfl x (ho x (by simp)) v w a9 hM dW
 ·obtain⟨x,y,rfl⟩: ∃x y,L=[x,y]:=bI hl
  exact xE M v0 pv v2 v3 v4 v5 v6 v7 v8 j _ _ _ _ hpt rfl (by decide) x y (ho x (by simp)) (ho y (by simp)) v w a9 hM dW
 ·obtain⟨x,rfl⟩: ∃x,L=[x]:=eB hl
  exact ja M v0 pv v2 v3 v4 v5 v6 v7 v8 j _ _ _ _ hpt rfl (by decide) x (ho x (by simp)) v w a9 hM dW
 ·obtain⟨x,rfl⟩: ∃x,L=[x]:=eB hl
  exact ja M v0 pv v2 v3 v4 v5 v6 v7 v8 j _ _ _ _ hpt rfl (by decide) x (ho x (by simp)) v w a9 hM dW
 ·obtain⟨x,rfl⟩: ∃x,L=[x]:=eB hl
  exact Jz M v0 pv v2 v3 v4 v5 v6 v7 v8 j _ _ _ _ hpt rfl rfl x (ho x (by simp)) v w a9 hM dW
 ·exact absurd hn (by decide)
 ·exact absurd hn (by decide)
 ·obtain⟨x,rfl⟩: ∃x,L=[x]:=eB hl
  exact UG M v0 pv v2 v3 v4 v5 v6 v7 v8 j _ _ _ _ hpt rfl rfl x (ho x (by simp)) v w a9 hM dW
 ·obtain⟨x,rfl⟩: ∃x,L=[x]:=eB hl
  exact UI M v0 pv v2 v3 v4 v5 v6 v7 v8 j _ _ _ _ hpt rfl rfl x (ho x (by simp)) v w a9 hM dW
 ·obtain⟨x,y,rfl⟩: ∃x y,L=[x,y]:=bI hl
  exact UK M v0 pv v2 v3 v4 v5 v6 v7 v8 j _ _ _ _ hpt rfl rfl x y (ho x (by simp)) (ho y (by simp)) v w a9 hM dW
 ·obtain⟨x,rfl⟩: ∃x,L=[x]:=eB hl
  exact PP M v0 pv v2 v3 v4 v5 v6 v7 v8 j _ _ _ _ hpt rfl rfl x (ho x (by simp)) v w a9 hM dW
 ·obtain⟨x,y,rfl⟩: ∃x y,L=[x,y]:=bI hl
  exact UL M v0 pv v2 v3 v4 v5 v6 v7 v8 j _ _ _ _ hpt rfl rfl x y (ho x (by simp)) (ho y (by simp)) v w a9 hM dW
 ·obtain⟨x,y,z,rfl⟩: ∃x y z,L=[x,y,z]:=PQ hl
  exact UJ M v0 pv v2 v3 v4 v5 v6 v7 v8 j _ _ _ _ hpt rfl rfl x y z (ho x (by simp)) (ho y (by simp)) (ho z (by simp)) v w a9 hM dW
 ·obtain⟨x,rfl⟩: ∃x,L=[x]:=eB hl
  exact UH M v0 pv v2 v3 v4 v5 v6 v7 v8 j _ _ _ _ hpt rfl rfl x (ho x (by simp)) v w a9 hM dW
 ·obtain⟨x,y,rfl⟩: ∃x y,L=[x,y]:=bI hl
  exact YM M v0 pv v2 v3 v4 v5 v6 v7 v8 j _ _ _ _ hpt rfl rfl x y v w a9 hM dW
 ·obtain⟨x,y,rfl⟩: ∃x y,L=[x,y]:=bI hl
  exact YN M v0 pv v2 v3 v4 v5 v6 v7 v8 j _ _ _ _ hpt rfl rfl x y v w a9 hM dW
 ·exact absurd hn (by decide)
 ·exact absurd hn (by decide)
 ·exact absurd hn (by decide)
 ·exact absurd hn (by decide)
 ·exact absurd hn (by decide)
 ·exact absurd hn (by decide)
 ·exact absurd hn (by decide)
 ·exact absurd hn (by decide)
 ·exact absurd hn (by decide)
 ·exact absurd hn (by decide)
set_option maxHeartbeats 4000000
theorem qU(fG:Int):(∀(hp:fG<0) (L:List Fl) (v:Value) (w:World) (hN:NF w w.heap.size v L),Calls prog 5 #[.int .i64 fG,v] w (bO .no w))∧(∀(hp:61≤fG) (L:List Fl) (v:Value) (w:World) (hN:NF w w.heap.size v L),Calls prog 5 #[.int .i64 fG,v] w (bO .no w)):=by
 refine⟨?_,?_⟩
 all_goals intro hp L v w hN
 have aj:=J (rfl:0=0)
 all_goals
  obtain⟨NA,nc,rfl,_,_⟩:=hN.len;have HP:=J (fun w=>gc w)
  first
   |replace aj:=aj
    have r0:=zc hp
   |have r0:decide (fG<0)=false:=zb (by omega)
    have r1:=zc hp
  unfold bO at *;clear hN hp;go_enter func5,ntmps5;go_wp2_with (go_at_call 7;(with_reducible refine(HP.out _).mono ?_);rintro e w2 ⟨pv,rfl,a9,cB⟩;obtain⟨PA,qE,vf,iJ,iK⟩:=a9.len;rw [aN]at vf;subst vf;have BF:=J ((ai.new w 28 vq).below cB (by simp));have HB:=J (((zg w.heap.size w).alloc (za _) (.cells vq 28)).trans (cB.mono (by simp)));obtain⟨m0,m1,m2,m3,m4,m5,m6,m7,m8⟩:=aS BF.out;obtain⟨q0,q1,q2,q3,q4,q5,q6,q7,q8⟩:=cO BF.out;clear a9 cB iJ iK)
  obtain⟨z0,z1,z2,z3,z4,z5,z6,z7,z8⟩:=aS (d_ (r:= .no) BF.out);unfold ql at z0 z1 z2 z3 z4 z5 z6 z7 z8;simp only [rk,ri,rb,rt]at z0 z1 z2 z3 z4 z5 z6 z7 z8;refine zi (v:=jN .no) (by simp [results,results5,go_sem,rk,ri,rb,rt,rc,ro,z0,z1,z2,z3,z4,z5,z6,z7,z8]) rfl ⟨rfl,cI (r:= .no) HB.out (za _)⟩
def PR a:=(qU a).1
def JA a:=(qU a).2
theorem pq(y:Nat)(p:Pr)(hpt:ao[y]? =some p):(∀(hn:p.nm∉bZ) (L:List Fl) (v:Value) (w:World) (hN:NF w w.heap.size v L),Calls prog 5 #[.int .i64 (y:Int),v] w (bO .no w))∧(∀(hn:p.nm∈bZ) (L:List Fl) (hl:(L.length:Int)≠p.args) (v:Value) (w:World) (hN:NF w w.heap.size v L),Calls prog 5 #[.int .i64 (y:Int),v] w (bO .no w)):=by
 refine⟨?_,?_⟩;intro hn L v w hN;have aj:=J (rfl:0=0)
 rotate_left;intro hn L hl v w hN
 all_goals
  obtain⟨NA,nc,rfl,_,_⟩:=hN.len;have HP:=J (fun w=>gc w)
  have hy:y<61:=by have:=(zq.1 hpt).1;rw [aN]at this;exact this
  have r0:decide ((y:Int)<0)=false:=zb (by omega)
  have r1:decide (61≤(y:Int))=false:=zb (by omega)
  have JJ:(y:Int)<61:=by omega
  have Fw:(0:Int)≤(y:Int):=by omega
  have HF:=J (fun w=>sT p.nm w)
  first
   |replace aj:=aj
    rw [zb hn]at HF
   |rw [zc hn]at HF
    have hq:=ag hl;have vw:((L.length:Int)!=p.args)=true:=by simpa [bne]using hl
  unfold bO at *;clear hN hn;go_enter func5,ntmps5;go_wp2_with (first|(go_at_call 7;(with_reducible refine(HP.out _).mono ?_);rintro e w2 ⟨pv,rfl,a9,cB⟩;obtain⟨PA,qE,vf,iJ,iK⟩:=a9.len;rw [aN]at vf;subst vf;have BF:=J ((ai.new w 28 vq).below cB (by simp));have HB:=J (((zg w.heap.size w).alloc (za _) (.cells vq 28)).trans (cB.mono (by simp)));obtain⟨m0,m1,m2,m3,m4,m5,m6,m7,m8⟩:=aS BF.out;obtain⟨q0,q1,q2,q3,q4,q5,q6,q7,q8⟩:=cO BF.out;obtain⟨ty,rv,iH,ol,tb,lT,kX,qe,qf⟩:=a9.at_ hpt;have vy:=J (show(PA.add (y*5)).block<w2.heap.size by rw [ak];exact iH);replace lT:=bc (j:=0) lT;replace kX:=bc (j:=1) kX;clear ol iH;clear a9 cB iJ iK hpt)|(go_at_call 15;(with_reducible refine(HF.out _).mono ?_);rintro e w3 ⟨rfl,hb⟩;have BF3:=J (BF.out.below hb BF.out.lt);have dF:=J (HB.out.trans (hb.mono HB.out.size));replace kX:=(hb.cell (p:=⟨(PA.add (y*5)).block,(PA.add (y*5)).off+2,none⟩) vy.out).trans kX;clear m0 m1 m2 m3 m4 m5 m6 m7 m8 q0 q1 q2 q3 q4 q5 q6 q7 q8;obtain⟨m0,m1,m2,m3,m4,m5,m6,m7,m8⟩:=aS BF3.out;obtain⟨q0,q1,q2,q3,q4,q5,q6,q7,q8⟩:=cO BF3.out;clear hb))
  obtain⟨z0,z1,z2,z3,z4,z5,z6,z7,z8⟩:=aS (d_ (r:= .no) BF3.out);unfold ql at z0 z1 z2 z3 z4 z5 z6 z7 z8;simp only [rk,ri,rb,rt]at z0 z1 z2 z3 z4 z5 z6 z7 z8;refine zi (v:=jN .no) (by simp [results,results5,go_sem,rk,ri,rb,rt,rc,ro,z0,z1,z2,z3,z4,z5,z6,z7,z8]) rfl ⟨rfl,cI (r:= .no) dF.out (za _)⟩
def JB a b c:=(pq a b c).1
def PU a b c:=(pq a b c).2
end Go.Proofs.YtcpmiplofbfmfaaGreatDoor
set_option maxHeartbeats 8000000
namespace ShrM
open LamM CpsM FloM
theorem sU: ∀{L:List Fl} {As:List At} {t:Fl} {a:At},cX L=some As→eD t=some a→cX (L++[t])=some (As++[a])
 |[],As,t,a,h,h2=>by
  injection h with h;subst h
  show(match eD t with|none=>none|some a=>(cX []).map (a:: ·))=_
  rw [h2];rfl
 |x::l,As,t,a,h,h2=>by
  simp only [List.cons_append,cX]at h⊢
  cases hx:eD x with
  |none=>rw [hx]at h;cases h
  |some b=>
   rw [hx]at h;simp only at h⊢
   cases hl:cX l with
   |none=>rw [hl]at h;cases h
   |some Bs=>
    rw [hl]at h;injection h with h
    subst h;rw [sU hl h2];rfl
theorem sV: ∀{L:List Fl} {i:Nat} {t:Fl},L[i]? =some t→eD t=none→cX L=none
 |[],i,t,h,_=>by simp at h
 |x::l,0,t,h,h2=>by
  simp at h;subst h;simp only [cX];rw [h2]
 |x::l,i+1,t,h,h2=>by
  simp only [cX];rw [sV (L:=l) (i:=i) (by simpa using h) h2]
  cases eD x<;>rfl
theorem ve: ∀{L:List Fl} {As:List At},cX L=some As→As.length=L.length
 |[],As,h=>by injection h with h;subst h;rfl
 |x::l,As,h=>by
  simp only [cX]at h
  cases hx:eD x with
  |none=>rw [hx]at h;cases h
  |some b=>
   rw [hx]at h;simp only at h
   cases hl:cX l with
   |none=>rw [hl]at h;cases h
   |some Bs=>
    rw [hl]at h;injection h with h
    subst h;simp [ve hl]
theorem xF: ∀{L:List Fl} {As:List At},cX L=some As→(∀t∈L,0≤t.b∧t.b<2^64)→∀a∈As,Go.Proofs.YtcpmiplofbfmfaaGreatDoor.gI a
 |[],As,h,_=>by injection h with h;subst h;intro a ha;cases ha
 |x::l,As,h,hb=>by
  simp only [cX]at h
  cases hx:eD x with
  |none=>rw [hx]at h;cases h
  |some b=>
   rw [hx]at h;simp only at h
   cases hl:cX l with
   |none=>rw [hl]at h;cases h
   |some Bs=>
    rw [hl]at h;injection h with h
    subst h;intro a ha
    rcases zx.1 ha with rfl|ha
    ·have bJ:=hb x (by simp)
     unfold eD at hx
     repeat' split at hx
     all_goals first|(cases hx;done)|(injection hx with hx;subst hx)
     ·assumption
     ·exact Go.Proofs.YtcpmiplofbfmfaaGreatDoor.sy (by omega)
     ·assumption
    ·exact xF hl (fun t ht=>hb t (by simp [ht])) a ha
def UN:eo→Prop| .raise c=>0<c|_=>True
theorem nO{c:Prop}[Decidable c]{a b:eo}(ha:UN a)(hb:UN b):UN (if c then a else b):=by split<;>assumption
theorem xG(x:Int×Int):UN (aX x):=by
 unfold aX
 repeat' (first|exact True.intro|exact(by decide:(0:Int)<3)|exact(by decide:(0:Int)<4)|exact(by decide:(0:Int)<6)|refine nO ?_ ?_)
theorem UO(S:List UInt8)(a b:Int):UN (fg S a b):=by
 unfold fg
 repeat' (first|exact xG _|exact True.intro|refine nO ?_ ?_)
theorem PW(S:List UInt8)(a b:Nat):UN (go S a b):=by
 unfold go
 repeat' (first|exact True.intro|refine nO ?_ ?_)
theorem PY(S:List UInt8)(a:Nat):UN (kO S a):=by
 unfold kO
 repeat' (first|exact xG _|exact True.intro|refine nO ?_ ?_)
theorem UP(S:List UInt8)(l:List At):UN (bH S l):=by
 unfold bH
 repeat' (first|exact PW _ _ _|exact PY _ _|exact True.intro|refine nO ?_ ?_)
theorem PZ(S:List UInt8)(l:List At):UN (bB S l):=by
 unfold bB GJ GK GL
 repeat' (first|exact True.intro|exact(by decide:(0:Int)<2)|exact(by decide:(0:Int)<7)|exact(by decide:(0:Int)<8)|refine nO ?_ ?_)
theorem UQ(p:Pr)(l:List At):UN (aC p l):=by
 unfold aC ft yx nF bR
 repeat' (first|exact UO _ _ _|exact xG _|exact UP _ _|exact PZ _ _|exact True.intro|refine nO ?_ ?_)
end ShrM
namespace Go.Proofs.YtcpmiplofbfmfaaGreatDoor
open Go.Proofs.Tryz
open Go.Lib renaming hid→J
open Go.RowKit LamM CpsM FloM ShrM
theorem adq:(prog.info? 49).map (fun i=>(i.zero,i.size,i.bytes))=some (some (.agg aL),7,80):=by kernel_rfl
theorem adr:prog.underlying 46=some (.slice 49):=by kernel_rfl
def EV(r:eo):List Value:=[.int .i64 (eP r), .int .i64 (ri r), .int .u64 (rb r), .string ⟨(rt r).toArray⟩, .slice none 0 0, .int .i64 0, .pointer none]
def qV(As:List At):List Value:=As.flatMap fun a=>EV (dT a)
theorem JC(As:List At)(a:At):qV (As++[a])=qV As++EV (dT a):=by simp [qV]
theorem EW: ∀{As:List At} {i:Nat} {a:At} {j:Nat} {u:Value},As[i]? =some a→(gz (dT a))[j]? =some u→(qV As)[i*7+j]? =some u
 |[],i,a,j,u,h,_=>by simp at h
 |x::l,0,a,j,u,h,h2=>by
  simp at h;subst h;rw [Zk,Ih];have h3:(EV (dT x))[j]? =some u:=by rw [←h2];simp [EV]
  show(EV (dT x)++qV l)[j]? =some u;rw [List.getElem?_append_left (zq.1 h3).1];exact h3
 |x::l,i+1,a,j,u,h,h2=>by
  show(EV (dT x)++qV l)[(i+1)*7+j]? =some u;rw [List.getElem?_append_right (by show 7≤_;omega),show(i+1)*7+j-(EV (dT x)).length=i*7+j by show(i+1)*7+j-7=_;omega]
  exact EW (by simpa using h) h2
theorem ads{w:World}{P0 n:Nat}{ov:Value}{As:List At}(hO:w.ownsRow P0 49 7 ov n (qV As))(hn:As.length=n)(hl:n≤1000):VL w w.heap.size ov As:=by
 subst hn
 rcases hO.2 with⟨h,h0⟩|⟨g,cap,Co,h,_,_,pu,_⟩
 ·have:As=[]:=List.length_eq_zero_iff.1 h0
  subst this h;exact⟨none,0,rfl,za _,by decide,fun i t hit=>by simp at hit⟩
 ·subst h
  refine⟨some ⟨g,0,none⟩,cap,rfl,pu,by omega,fun i t hi=>⟨_,rfl,(zr hO g rfl).2,fun j u hu=> ?_⟩⟩
  have hk:=EW hi hu
  have bw:i*7+j<As.length*7:=by
   have h1:=(zq.1 hi).1;have h2:j<7:=(Array.getElem?_eq_some_iff.1 hu).1;omega
  rw [show(⟨g,0,none⟩:Addr).add (i*7+j)=⟨g,i*7+j,none⟩by unfold Addr.add;split<;>simp_all,zM hO _ bw]
  exact hk
theorem YO(r:eo): ∀u∈[.int .i64 (eP r), .int .i64 (ri r), .int .u64 (rb r), .string ⟨(rt r).toArray⟩, .slice none 0 0, .int .i64 0, .pointer none],Value.oneCell' u=true:=by
 intro u hu;simp only [zx,List.mem_nil_iff,Zo]at hu
 rcases hu with rfl|rfl|rfl|rfl|rfl|rfl|rfl<;>rfl
structure FdS(w0:World)(L:List Fl)(As:List At)(ov:Value)(k:Nat)(wr:World):Prop where
 bel:Below w0.heap.size w0 wr
 own:wr.ownsRow w0.heap.size 49 7 ov k (qV As)
 eqs:cX (L.take k)=some As
theorem FdS.next{w0 wr w':World}{L:List Fl}{As:List At}{ov:Value}{k:Nat}(h:FdS w0 L As ov k wr)(hb:Below wr.heap.size wr w'):FdS w0 L As ov k w':=⟨h.bel.trans (hb.mono h.bel.size),bj h.own hb,h.eqs⟩
theorem FdS.app{w0 wr w':World}{L:List Fl}{As:List At}{ov v2:Value}{k:Nat}{t:Fl}{a:At}(h:FdS w0 L As ov k wr)(ht:L[k]? =some t)(ha:eD t=some a)(bS:w'.ownsRow w0.heap.size 49 7 v2 (k+1) (qV As++EV (dT a)))(hg:wr.grownBy w' ov.ownBlock):FdS w0 L (As++[a]) v2 (k+1) w':=by
 refine⟨?_,by rw [JC];exact bS,?_⟩
 ·refine⟨hg.os.trans h.bel.os,hg.tape.trans h.bel.tape,hg.output.trans h.bel.output,zQ h.bel.size hg.size,fun i hi=> ?_⟩
  refine(hg.block i (zy hi h.bel.size) (fun e=> ?_)).trans (h.bel.block i hi)
  have:=(zr h.own i e.symm).1;omega
 ·have:L.take (k+1)=L.take k++[t]:=by rw [Io,ht];rfl
  rw [this];exact sU h.eqs ha
theorem UR(y:Nat)(p:Pr)(hpt:ao[y]? =some p)(hn:p.nm∈bZ)(L:List Fl)(hl:(L.length:Int)=p.args)(hb: ∀t∈L,0≤t.b∧t.b<2^64)(v:Value)(w:World)(hN:NF w w.heap.size v L):
 Calls prog 5 #[.int .i64 (y:Int),v] w (bO (js p L) w):=by
 obtain⟨i0,gF,lQ,yD,hi3⟩:=Zv adq
 have VS:p.args≤3:=by have: ∀q∈ao,q.args≤3:=by decide
                      exact this p (zC hpt)
 have hl3:L.length≤3:=by omega
 obtain⟨NA,nc,rfl,_,_⟩:=hN.len;have HP:=J (fun w=>gc w)
 have hy:y<61:=by have:=(zq.1 hpt).1;rw [aN]at this;exact this
 have r0:decide ((y:Int)<0)=false:=zb (by omega)
 have r1:decide (61≤(y:Int))=false:=zb (by omega)
 have JJ:(y:Int)<61:=by omega
 have Fw:(0:Int)≤(y:Int):=by omega
 have HF:=J (fun w=>sT p.nm w)
 rw [zc hn]at HF;have HNF:=J hN;have HQ:=J hl;have HLB:=J hb;have HNm:=J hn;have V8:=J hpt;obtain⟨R,hR⟩: ∃R,js p L=R:=⟨_,rfl⟩;rw [hR];have HR:=J hR;unfold bO at *;clear hN hn hl hb hR VS hpt;go_enter func5,ntmps5
 go_upto_region 4 with(first
  |(go_at_call 7;(with_reducible refine(HP.out _).mono ?_);rintro e w2 ⟨pv,rfl,a9,cB⟩;obtain⟨PA,qE,vf,iJ,iK⟩:=a9.len;rw [aN]at vf;subst vf;have BF:=J ((ai.new w 28 vq).below cB (by simp));have HB:=J (((zg w.heap.size w).alloc (za _) (.cells vq 28)).trans (cB.mono (by simp)));obtain⟨m0,m1,m2,m3,m4,m5,m6,m7,m8⟩:=aS BF.out;obtain⟨q0,q1,q2,q3,q4,q5,q6,q7,q8⟩:=cO BF.out;obtain⟨ty,rv,iH,ol,tb,lT,kX,qe,qf⟩:=a9.at_ V8.out;have vy:=J (show(PA.add (y*5)).block<w2.heap.size by rw [ak];exact iH);replace lT:=bc (j:=0) lT;replace kX:=bc (j:=1) kX;clear ol iH;rw [←HQ.out]at kX;have HPV:=J a9;clear a9 cB iJ iK)
  |(go_at_call 15;(with_reducible refine(HF.out _).mono ?_);rintro e w3 ⟨rfl,hb⟩;have BF3:=J (BF.out.below hb BF.out.lt);have dF:=J (HB.out.trans (hb.mono HB.out.size));replace kX:=(hb.cell (p:=⟨(PA.add (y*5)).block,(PA.add (y*5)).off+2,none⟩) vy.out).trans kX;clear m0 m1 m2 m3 m4 m5 m6 m7 m8 q0 q1 q2 q3 q4 q5 q6 q7 q8;obtain⟨m0,m1,m2,m3,m4,m5,m6,m7,m8⟩:=aS BF3.out;obtain⟨q0,q1,q2,q3,q4,q5,q6,q7,q8⟩:=cO BF3.out;have HBP:=J hb;clear hb))
 clear tb lT kX HB;have amm:=J (HPV.out.below ((HBP.out)));clear HPV vy HBP;go_wp2_with fail
 go_loopw [8,9] (fun ov ix wr=> ∃(k:Nat) (As:List At),k≤L.length∧ix= .int .i64 (k:Int)∧Hid (FdS w3 L As ov k wr)) (fun _ ix _=>L.length-(intOf ix).toNat)
 case atStart=>exact⟨0,[],zO _,rfl,J ⟨zg _ _,ZE _ _ _ _,rfl⟩⟩
 case round=>
  obtain⟨k,As,hk,rfl,HS⟩:=hrel;obtain⟨OA,oc,rfl⟩: ∃a c,u8= .slice a k c:=by obtain⟨a,c,e⟩:=eh HS.out.own;exact⟨a,c,e⟩
  clear m0 m1 m2 m3 m4 m5 m6 m7 m8 q0 q1 q2 q3 q4 q5 q6 q7 q8;have HBr:=J (show Below w.heap.size w wr from dF.out.trans (HS.out.bel.mono dF.out.size))
  have BFr:=J (BF3.out.below HS.out.bel BF3.out.lt)
  rcases zj k L.length with bw|iE
  ·obtain⟨t,ht⟩: ∃t,L[k]? =some t:=⟨_,zk bw⟩
   have HT:=J ht;obtain⟨cT,cB⟩:=HLB.out t (zC ht);obtain⟨u,hu⟩: ∃u:Nat,t.b=(u:Int):=⟨t.b.toNat,by omega⟩
   obtain⟨ad,vv,kv,av,hA,_,_,d0,d1,d2,d3,d4,d5,d6,d7,d8⟩:=(HNF.out.below HBr.out).at9 ht;subst hA;have HC:=J (fun w=>Hy t u (by omega) hu vv kv av w)
   have dw:(k:Int)<(L.length:Int):=by omega
   have Cp:=HS.out.bel.size;clear ht hu cT cB hk;unfold cG at HC
   cases s_:eD t with
   |none=>
    rw [s_]at HC;have HE:=J (show R= .no by rw [←HR.out];unfold js;rw [ze (by rintro(h|h);exact h HNm.out;exact h HQ.out),sV HT.out s_])
    clear s_;generalize Uv t=cr at *;simp only [aY,gz]at HC;generalize eP cr=e0 at *;generalize ri cr=e1 at *;generalize rb cr=e2 at *;generalize(rt cr).toArray=e3 at *;go_wp2_with (go_at_call 16;(with_reducible refine(HC.out _).mono ?_);rintro e w5 ⟨rfl,hb⟩;have BF5:=J ((BFr.out.below hb BFr.out.lt).alloc (.cells #[.int .i64 e0, .int .i64 e1, .int .u64 e2, .string ⟨e3⟩, .slice none 0 0, .int .i64 0, .pointer none] 49));have fE:=J (((HBr.out.trans (hb.mono HBr.out.size))).alloc (zQ HBr.out.size hb.size) (.cells #[.int .i64 e0, .int .i64 e1, .int .u64 e2, .string ⟨e3⟩, .slice none 0 0, .int .i64 0, .pointer none] 49));obtain⟨m0,m1,m2,m3,m4,m5,m6,m7,m8⟩:=aS BF5.out;obtain⟨q0,q1,q2,q3,q4,q5,q6,q7,q8⟩:=cO BF5.out;clear hb);rw [HE.out];obtain⟨z0,z1,z2,z3,z4,z5,z6,z7,z8⟩:=aS (d_ (r:= .no) BF5.out);unfold ql at z0 z1 z2 z3 z4 z5 z6 z7 z8;simp only [rk,ri,rb,rt]at z0 z1 z2 z3 z4 z5 z6 z7 z8;refine zi (v:=jN .no) (by simp [results,results5,go_sem,rk,ri,rb,rt,rc,ro,z0,z1,z2,z3,z4,z5,z6,z7,z8]) rfl ⟨rfl,cI (r:= .no) fE.out (za _)⟩
   |some a=>
    rw [s_,YB s_]at HC;have HCS:=J s_;clear s_;generalize hca:dT a=cr at *;have Wo:=J hca;clear hca
    go_wp2_with (first
     |(go_at_call 16;(with_reducible refine(HC.out _).mono ?_);rintro e w5 ⟨rfl,hb⟩;have Cq:=J (HS.out.next hb);have VI:=J (Cq.out.next (aA w5 (.cells (gz cr) 49) (.cells (gz cr) 49)));have FB:=Cq.out.bel.size;unfold gz at VI;clear hb)
     |(at_builtin;refine aU _ rfl _ _ 46 rfl w3.heap.size 49 i0 _ 7 80 adr gF lQ yD hi3 rfl (by decide) _ k (qV As) rfl VI.out.own _ _ _ _ [_,_,_,_,_,_,_] rfl (aT.blk' (am (by simp) _ _) rfl) (YO cr) (by unfold maxLen;omega) (by omega) (by simp;omega) ?_))
    intro ov2 w6 qY pE Qz;have HNX:=J (VI.out.app HT.out HCS.out (Wo.out▸qY) pE);clear qY pE Qz;go_wp2_with fail
    go_roundw
    case rel=>exact⟨k+1,As++[a],by omega,by go_num,HNX⟩
    case measure=>simp [intOf];omega
  ·have hkl:k=L.length:=by omega
   subst hkl;have dw: ¬(L.length:Int)<(L.length:Int):=by omega
   have HEQ:=J (show cX L=some As by have:=HS.out.eqs;rwa [List.take_of_length_le (za _)]at this)
   have HLA:=J (ve HEQ.out);have HVL:=J (ads HS.out.own HLA.out (by omega))
   obtain⟨r,hr⟩: ∃r,aC p As=r:=⟨_,rfl⟩;have HE:=J (show R=r by rw [←HR.out,←hr];unfold js;rw [ze (by rintro(h|h);exact h HNm.out;exact h HQ.out),HEQ.out])
   have HOK:=J (show UN r by rw [←hr];exact UQ _ _)
   have HMB:=J (ai.new wr 59 #[.slice none 0 0, .slice (some PA) 61 qE, .slice none 0 0, .slice none 0 0, .slice none 0 0, .int .i64 10, .int .i64 0, .slice none 0 0, .int .i64 0]);have HBA:=J ((zg wr.heap.size wr).alloc (za _) (.cells #[.slice none 0 0, .slice (some PA) 61 qE, .slice none 0 0, .slice none 0 0, .slice none 0 0, .int .i64 10, .int .i64 0, .slice none 0 0, .int .i64 0] 59));have J3:=J (UM wr.heap.size _ _ _ _ _ _ _ _ _ y p V8.out HNm.out As (by rw [HLA.out];exact HQ.out) (xF HEQ.out HLB.out) (.slice OA L.length oc) (wr.alloc (.cells #[.slice none 0 0, .slice (some PA) 61 qE, .slice none 0 0, .slice none 0 0, .slice none 0 0, .int .i64 10, .int .i64 0, .slice none 0 0, .int .i64 0] 59)) ((amm.out.below HS.out.bel).below HBA.out) HMB.out (HVL.out.keep (fun _ hp=>HBA.out.cell hp)))
   rw [hr]at J3;clear hr;have hsr:=HBr.out.size;have dq:w.heap.size<wr.heap.size:=BFr.out.lt;have Ww:=J (HBr.out.trans (HBA.out.mono HBr.out.size));have BFM:=J (BFr.out.below HBA.out BFr.out.lt);clear HVL HBA
   cases r with
    |raise cc=>
     obtain rfl:=HE.out;have J0:0<cc:=HOK.out;have Qa:=zc J0;have th:=J (J3.out.mono (fun e w' h=>(h.resolve_right (fun h=>by cases h.1)).2))
     clear J3;unfold aD at th;simp only [aY,gz,eP,ri,rb,rt,rc]at th;go_wp2_with (go_at_call 17;(with_reducible refine(th.out).mono ?_);rintro e w5 ⟨rfl,hb⟩;have Q2:=J ((HMB.out.below hb HMB.out.lt).alloc (.cells #[.int .i64 0, .int .i64 0, .int .u64 0, .string ⟨#[]⟩, .slice none 0 0, .int .i64 0, .pointer none] 49));have Cm:=J ((BFM.out.below hb BFM.out.lt).alloc (.cells #[.int .i64 0, .int .i64 0, .int .u64 0, .string ⟨#[]⟩, .slice none 0 0, .int .i64 0, .pointer none] 49));have fE:=J (Ww.out.trans (hb.mono Ww.out.size));have lS:=J (fE.out.alloc fE.out.size (.cells #[.int .i64 0, .int .i64 0, .int .u64 0, .string ⟨#[]⟩, .slice none 0 0, .int .i64 0, .pointer none] 49));have b8:=Q2.out.cell 8;simp at b8;obtain⟨m0,m1,m2,m3,m4,m5,m6,m7,m8⟩:=aS Cm.out;obtain⟨q0,q1,q2,q3,q4,q5,q6,q7,q8⟩:=cO Cm.out;clear hb);obtain⟨z0,z1,z2,z3,z4,z5,z6,z7,z8⟩:=aS (d_ (r:= .raise cc) Cm.out);unfold ql at z0 z1 z2 z3 z4 z5 z6 z7 z8;simp only [rk,ri,rb,rt]at z0 z1 z2 z3 z4 z5 z6 z7 z8;refine zi (v:=jN (.raise cc)) (by simp [results,results5,go_sem,rk,ri,rb,rt,rc,ro,z0,z1,z2,z3,z4,z5,z6,z7,z8]) rfl ⟨rfl,cI (r:= .raise cc) lS.out (za _)⟩
    |int nn=>
     obtain rfl:=HE.out;have th:=J (J3.out.mono (fun e w' h=>(h.resolve_right (fun h=>by cases h.1)).2))
     clear J3;unfold aD at th;simp only [aY,gz,eP,ri,rb,rt,rc]at th;go_wp2_with (go_at_call 17;(with_reducible refine(th.out).mono ?_);rintro e w5 ⟨rfl,hb⟩;have Q2:=J ((HMB.out.below hb HMB.out.lt).alloc (.cells #[.int .i64 1, .int .i64 nn, .int .u64 0, .string ⟨#[]⟩, .slice none 0 0, .int .i64 0, .pointer none] 49));have Cm:=J ((BFM.out.below hb BFM.out.lt).alloc (.cells #[.int .i64 1, .int .i64 nn, .int .u64 0, .string ⟨#[]⟩, .slice none 0 0, .int .i64 0, .pointer none] 49));have fE:=J (Ww.out.trans (hb.mono Ww.out.size));have lS:=J (fE.out.alloc fE.out.size (.cells #[.int .i64 1, .int .i64 nn, .int .u64 0, .string ⟨#[]⟩, .slice none 0 0, .int .i64 0, .pointer none] 49));have b8:=Q2.out.cell 8;simp at b8;obtain⟨m0,m1,m2,m3,m4,m5,m6,m7,m8⟩:=aS Cm.out;obtain⟨q0,q1,q2,q3,q4,q5,q6,q7,q8⟩:=cO Cm.out;clear hb);obtain⟨z0,z1,z2,z3,z4,z5,z6,z7,z8⟩:=aS (d_ (r:= .int nn) Cm.out);unfold ql at z0 z1 z2 z3 z4 z5 z6 z7 z8;simp only [rk,ri,rb,rt]at z0 z1 z2 z3 z4 z5 z6 z7 z8;refine zi (v:=jN (.int nn)) (by simp [results,results5,go_sem,rk,ri,rb,rt,rc,ro,z0,z1,z2,z3,z4,z5,z6,z7,z8]) rfl ⟨rfl,cI (r:= .int nn) lS.out (za _)⟩
    |real bb=>
     obtain rfl:=HE.out;have th:=J (J3.out.mono (fun e w' h=>(h.resolve_right (fun h=>by cases h.1)).2))
     clear J3;unfold aD at th;simp only [aY,gz,eP,ri,rb,rt,rc]at th;go_wp2_with (go_at_call 17;(with_reducible refine(th.out).mono ?_);rintro e w5 ⟨rfl,hb⟩;have Q2:=J ((HMB.out.below hb HMB.out.lt).alloc (.cells #[.int .i64 2, .int .i64 0, .int .u64 (bb:Int), .string ⟨#[]⟩, .slice none 0 0, .int .i64 0, .pointer none] 49));have Cm:=J ((BFM.out.below hb BFM.out.lt).alloc (.cells #[.int .i64 2, .int .i64 0, .int .u64 (bb:Int), .string ⟨#[]⟩, .slice none 0 0, .int .i64 0, .pointer none] 49));have fE:=J (Ww.out.trans (hb.mono Ww.out.size));have lS:=J (fE.out.alloc fE.out.size (.cells #[.int .i64 2, .int .i64 0, .int .u64 (bb:Int), .string ⟨#[]⟩, .slice none 0 0, .int .i64 0, .pointer none] 49));have b8:=Q2.out.cell 8;simp at b8;obtain⟨m0,m1,m2,m3,m4,m5,m6,m7,m8⟩:=aS Cm.out;obtain⟨q0,q1,q2,q3,q4,q5,q6,q7,q8⟩:=cO Cm.out;clear hb);obtain⟨z0,z1,z2,z3,z4,z5,z6,z7,z8⟩:=aS (d_ (r:= .real bb) Cm.out);unfold ql at z0 z1 z2 z3 z4 z5 z6 z7 z8;simp only [rk,ri,rb,rt]at z0 z1 z2 z3 z4 z5 z6 z7 z8;refine zi (v:=jN (.real bb)) (by simp [results,results5,go_sem,rk,ri,rb,rt,rc,ro,z0,z1,z2,z3,z4,z5,z6,z7,z8]) rfl ⟨rfl,cI (r:= .real bb) lS.out (za _)⟩
    |str ss=>
     obtain rfl:=HE.out;have th:=J (J3.out.mono (fun e w' h=>(h.resolve_right (fun h=>by cases h.1)).2))
     clear J3;unfold aD at th;simp only [aY,gz,eP,ri,rb,rt,rc]at th;go_wp2_with (go_at_call 17;(with_reducible refine(th.out).mono ?_);rintro e w5 ⟨rfl,hb⟩;have Q2:=J ((HMB.out.below hb HMB.out.lt).alloc (.cells #[.int .i64 3, .int .i64 0, .int .u64 0, .string ⟨ss.toArray⟩, .slice none 0 0, .int .i64 0, .pointer none] 49));have Cm:=J ((BFM.out.below hb BFM.out.lt).alloc (.cells #[.int .i64 3, .int .i64 0, .int .u64 0, .string ⟨ss.toArray⟩, .slice none 0 0, .int .i64 0, .pointer none] 49));have fE:=J (Ww.out.trans (hb.mono Ww.out.size));have lS:=J (fE.out.alloc fE.out.size (.cells #[.int .i64 3, .int .i64 0, .int .u64 0, .string ⟨ss.toArray⟩, .slice none 0 0, .int .i64 0, .pointer none] 49));have b8:=Q2.out.cell 8;simp at b8;obtain⟨m0,m1,m2,m3,m4,m5,m6,m7,m8⟩:=aS Cm.out;obtain⟨q0,q1,q2,q3,q4,q5,q6,q7,q8⟩:=cO Cm.out;clear hb);obtain⟨z0,z1,z2,z3,z4,z5,z6,z7,z8⟩:=aS (d_ (r:= .str ss) Cm.out);unfold ql at z0 z1 z2 z3 z4 z5 z6 z7 z8;simp only [rk,ri,rb,rt]at z0 z1 z2 z3 z4 z5 z6 z7 z8;refine zi (v:=jN (.str ss)) (by simp [results,results5,go_sem,rk,ri,rb,rt,rc,ro,z0,z1,z2,z3,z4,z5,z6,z7,z8]) rfl ⟨rfl,cI (r:= .str ss) lS.out (za _)⟩
    |no=>
     obtain rfl:=HE.out;have th:=J (J3.out.mono (fun e w' h=>(h.resolve_left (fun h=>by cases h.1)).2))
     clear J3;simp only [aY,gz]at th;go_wp2_with (go_at_call 17;(with_reducible refine(th.out).mono ?_);rintro e w5 ⟨r',c,rfl,hm,ho⟩;generalize eP r'=e0 at *;generalize ri r'=e1 at *;generalize rb r'=e2 at *;generalize(rt r').toArray=e3 at *;have Q2:=J (hm.alloc (.cells #[.int .i64 e0, .int .i64 e1, .int .u64 e2, .string ⟨e3⟩, .slice none 0 0, .int .i64 0, .pointer none] 49));have Cm:=J ((BFM.out.only ho (by simp;omega)).alloc (.cells #[.int .i64 e0, .int .i64 e1, .int .u64 e2, .string ⟨e3⟩, .slice none 0 0, .int .i64 0, .pointer none] 49));have fE:=J (show Below w.heap.size w w5 from dl Ww.out ho (fun k hk=>by have:=zt.1 hk;omega) Ww.out.size);have lS:=J (fE.out.alloc fE.out.size (.cells #[.int .i64 e0, .int .i64 e1, .int .u64 e2, .string ⟨e3⟩, .slice none 0 0, .int .i64 0, .pointer none] 49));have b8:=Q2.out.cell 8;simp at b8;obtain⟨m0,m1,m2,m3,m4,m5,m6,m7,m8⟩:=aS Cm.out;obtain⟨q0,q1,q2,q3,q4,q5,q6,q7,q8⟩:=cO Cm.out;clear hm ho)
     obtain⟨z0,z1,z2,z3,z4,z5,z6,z7,z8⟩:=aS (d_ (r:= .no) Cm.out);unfold ql at z0 z1 z2 z3 z4 z5 z6 z7 z8;simp only [rk,ri,rb,rt]at z0 z1 z2 z3 z4 z5 z6 z7 z8;refine zi (v:=jN (.no)) (by simp [results,results5,go_sem,rk,ri,rb,rt,rc,ro,z0,z1,z2,z3,z4,z5,z6,z7,z8]) rfl ⟨rfl,cI (r:= .no) lS.out (za _)⟩
end Go.Proofs.YtcpmiplofbfmfaaGreatDoor
