/- Shrink: the reference's Fold, whole: both tell the same. -/
import Derived.Test.YtcpmiplofbfmfaaGreatDoorA45
set_option linter.all false
namespace Go.Proofs.YtcpmiplofbfmfaaGreatDoor
open Go.Proofs.Tryz
open Go.RowKit LamM CpsM FloM ShrM
theorem P3(fG:Int)(L:List Fl)(v:Value)(w:World)(hb: ∀t∈L,0≤t.b∧t.b<2^64)(hN:NF w w.heap.size v L):
 Calls prog 5 #[.int .i64 fG,v] w (bO (Ap fG L) w):=by
 unfold Ap
 by_cases h0:fG<0
 ·rw [zh h0];exact PR fG h0 L v w hN
 rw [ze h0];obtain⟨y,rfl⟩: ∃y:Nat,fG=(y:Int):=⟨fG.toNat,by omega⟩
 rw [zv]
 cases hpt:ao[y]?with
 |none=>
  have hy:61≤y:=by have:=List.getElem?_eq_none_iff.1 hpt;rw [aN]at this;exact this
  exact JA y (by omega) L v w hN
 |some p=>
  show Calls _ _ _ _ (bO (mK p L) w);rw [Pq p (zC hpt) L]
  by_cases hn:p.nm∈bZ
  ·by_cases hl:(L.length:Int)=p.args
   ·exact UR y p hpt hn L hl hb v w hN
   ·rw [show js p L= .no by unfold js;rw [zh (.inr hl)]]
    exact PU y p hpt hn L hl v w hN
  ·rw [show js p L= .no by unfold js;rw [zh (.inl hn)]]
   exact JB y p hpt hn L v w hN
set_option maxRecDepth 100000
set_option maxHeartbeats 8000000
open Go.Lib renaming hid→J
open Go.RowKit LamM CpsM FloM ShrM Go.Maps
theorem Nx(fG:Int)(L:List Fl)(v:Value)(w:World)(hE:gV w)(hb: ∀t∈L,0≤t.b∧t.b<2^64)(hN:NF w w.heap.size v L):
 Calls prog 3 #[.int .i64 fG,v] w (iq w):=by
 obtain⟨NA,nc,rfl,_,_⟩:=hN.len;have HS:=J (Aq fG L _ w hE hb hN);obtain⟨q,hq⟩: ∃q,Ap fG L=q:=⟨_,rfl⟩;rw [hq]at HS;have HR:=J (fun w' (h:Below w.heap.size w w')=>P3 fG L _ w' hb (hN.below h))
 rw [hq]at HR;have HE:=J hE;obtain⟨k,hk⟩: ∃k,rk q=k:=⟨_,rfl⟩;obtain⟨i,hi⟩: ∃i,ri q=i:=⟨_,rfl⟩;obtain⟨b,hbb⟩: ∃b,(rb q:Int)=b:=⟨_,rfl⟩;obtain⟨t,ht⟩: ∃t,rt q=t:=⟨_,rfl⟩;obtain⟨c,hc⟩: ∃c,rc q=c:=⟨_,rfl⟩;obtain⟨o,ho⟩: ∃o,ro q=o:=⟨_,rfl⟩;have q1:(o==o)=true:=by cases o<;>rfl
 have q2:(c==c)=true:=be rfl;have q3:(k==k)=true:=be rfl;have q4:(i==i)=true:=be rfl;have q5:(b==b)=true:=be rfl;unfold bO jN acZ at HS HR;rw [hk,hi,hbb,ht,hc,ho]at HS HR;clear hE hb hN hq hk hi hbb ht hc ho;unfold iq;go_enter func3,ntmps3;go_upto_region 2 with(go_at_call 4;(with_reducible refine(HS.out).mono ?_);rintro e w1 ⟨rfl,cT⟩;have bp:=J cT;clear cT)
 obtain⟨W1,QW⟩: ∃W1,w1.alloc (.cells #[.int .i64 k, .int .i64 0, .int .i64 0, .int .i64 i, .int .u64 b, .string ⟨t.toArray⟩, .slice none 0 0, .slice none 0 0, .slice none 0 0] 28)=W1:=⟨_,rfl⟩;have cT:Below w1.heap.size w1 W1:=by rw [←QW];exact(zg _ _).alloc (za _) _
 have HA:=J (show ai W1 w1.heap.size 28 #[.int .i64 k, .int .i64 0, .int .i64 0, .int .i64 i, .int .u64 b, .string ⟨t.toArray⟩, .slice none 0 0, .slice none 0 0, .slice none 0 0]by rw [←QW];exact ai.new _ _ _)
 have dz:=bp.out.trans (cT.mono bp.out.size);have ahs:=J dz;have HRW:=J (HR.out W1 dz);rw [QW];clear QW cT dz;go_upto_region 3 with(go_at_call 5;(with_reducible refine(HRW.out).mono ?_);rintro e w2 ⟨rfl,cB⟩;have bM:=J cB;clear cB)
 obtain⟨W2,rV⟩: ∃W2,w2.alloc (.cells #[.int .i64 k, .int .i64 0, .int .i64 0, .int .i64 i, .int .u64 b, .string ⟨t.toArray⟩, .slice none 0 0, .slice none 0 0, .slice none 0 0] 28)=W2:=⟨_,rfl⟩;have cB:Below w2.heap.size w2 W2:=by rw [←rV];exact(zg _ _).alloc (za _) _
 have HBB:=J (show ai W2 w2.heap.size 28 #[.int .i64 k, .int .i64 0, .int .i64 0, .int .i64 i, .int .u64 b, .string ⟨t.toArray⟩, .slice none 0 0, .slice none 0 0, .slice none 0 0]by rw [←rV];exact ai.new _ _ _)
 have hw2:=bM.out.trans (cB.mono bM.out.size);have tq:=J (HA.out.below hw2 HA.out.lt);have hw:=ahs.out.trans (hw2.mono ahs.out.size);have ahr:=J hw;have HAW:=J (NS W2 (HE.out.below hw (za _)));unfold iq at HAW;rw [rV];clear rV cB hw2 hw;obtain⟨a0,a1,a2,a3,a4,a5,a6,a7,a8⟩:=aS tq.out;obtain⟨b0,b1,b2,b3,b4,b5,b6,b7,b8⟩:=aS HBB.out;go_wp2_with (go_at_call 6;(with_reducible refine(HAW.out).mono ?_);rintro e w3 ⟨rfl,kZ⟩;have dF:=J (ahr.out.trans (kZ.mono ahr.out.size));clear kZ);go_ret;exact⟨rfl,dF.out⟩
end Go.Proofs.YtcpmiplofbfmfaaGreatDoor
