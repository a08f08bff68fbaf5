/- The reference's shortest: its loop ends with the library's d -/
import Derived.Test.YtcpmiplofbfmfaaGreatDoorA22
import Derived.Lib.BufferRead
import Derived.Lib.AtoiErrMem
set_option linter.all false
set_option maxRecDepth 100000
set_option maxHeartbeats 4000000
namespace Go.Proofs.YtcpmiplofbfmfaaGreatDoor
open Go.Proofs.Tryz
open Lib renaming hid→J
open Go.RowKit FloM
def acF(w:World)(u:Nat)(e:Ending)(w':World):Prop:=e= .returned (.tuple #[.string ⟨(y_ u).toArray⟩, .int .i64 (Bv u)])∧Below w.heap.size w w'
theorem Bw(u:Nat)(h0:0<u)(hu:u<cap)(w:World):Calls prog 184 #[.int .u64 (u:Int)] w (acF w u):=by
 have Ws:rg u=u:=by unfold rg;have:cap=2047*2^52:=rfl;omega
 have hI:=J (fun w=>lF u (by have:cap=2047*2^52:=rfl;omega) w)
 have hP:pp u=(up u:Int)-1074:=by unfold pp;rw [Ws]
 have Vh:up u≤2045:=by unfold up;have:cap=2047*2^52:=rfl;omega
 rw [Ws]at hI;generalize pp u=P at *;have HPW:=J (fun vm w hm=>MF u h0 hu (bP u) vm P w hP hm)
 have HCU:=J (fun vm s w h1 h2 hm=>XJ u (bP u) vm P s w hP hu h1 h2 hm)
 have Wq:=J (fun vk vm k s w h1 h2 h3 hk hm=>SG u (bP u) vk vm k P s w hP hu h1 h2 h3 hk hm)
 have HEN:=J (fun e h1 h2=>C_ u h0 hu e h1 h2)
 have Vg:u<2^63:=Nat.lt_trans hu np;have HU:=J hu;clear h0 hu Ws hP;generalize bP u=b at *;generalize mg u=M at *;go_enter func184,ntmps184;go_wp2_with fail;refine(hI.out _).mono ?_;rintro e w1 ⟨v1,rfl,j8,bW⟩;obtain⟨A1,k1,rfl⟩:=j8.shape;generalize nd M=lm at *;have dx:=ai.new w1 198 #[.bool b, .slice A1 lm k1, .int .i64 P];have hW:=bW.alloc bW.size (.cells #[.bool b, .slice A1 lm k1, .int .i64 P] 198);have hmW:=j8.below ((zg w1.heap.size w1).alloc (za _) (.cells #[.bool b, .slice A1 lm k1, .int .i64 P] 198));obtain⟨c0,c1,c2⟩:=aH dx;have qy:=bW.size;have xN:=dx.lt;have rK:=J j8;have bp:=J bW;have tu:=J dx;have ux:=J hmW;have HW:=J hW;clear j8 bW dx hW hmW;go_wp2_with fail;generalize w1.alloc (.cells #[.bool b, .slice A1 lm k1, .int .i64 P] 198)=W at *;refine(HPW.out _ _ ux.out).mono ?_;rintro e w2 ⟨x,rfl,h1,h2,gY,hx2,ba⟩;have aeg:=J (HEN.out x h1 h2);have H1:=J h1;have H2:=J h2;have bM:=J ba;have x_:=HW.out.size;clear h1 h2 ba c0 c1 c2;go_wp2_with fail
 go_loopw [6,7,8,9,10,11] (fun i k up a b s wr=> ∃n:Nat,i= .int .i64 n∧1≤n∧n≤17∧(∀m:Nat,1≤m→m<n→¬jU u (x-m))∧Below W.heap.size W wr) (fun i _ _ _ _ _ _=>18-(intOf i).toNat)
 case atStart=>exact⟨1,rfl,by omega,by omega,fun m h1 h2=>by omega,bM.out⟩
 case round=>
  obtain⟨n,rfl,lj,gW,hf,bu⟩:=hrel;obtain⟨o,ho⟩: ∃o:Nat,o=1:=⟨1,rfl⟩;have HF:=J hf;have HB:=J bu;have hs:=bu.size;have HBR:=J (tu.out.below bu xN);have HMR:=J (ux.out.below bu);have hkb:gr u (x-n)<2^59:=zy (Dr (n:=n) H1.out) (zQ (zF (by decide) gW) (by decide))
  obtain⟨K,hK⟩: ∃K,K=gr u (x-n):=⟨_,rfl⟩;obtain⟨R1,hR1⟩: ∃R,R=rq (K*tA (x-n)*KK) (tB (x-n)):=⟨_,rfl⟩;obtain⟨R2,hR2⟩: ∃R,R=rq ((K+o)*tA (x-n)*KK) (tB (x-n)):=⟨_,rfl⟩;have HC:=J (fun vm w hm=>hK▸HCU.out vm (x-n) w (by omega) (by omega) hm)
  rw [←hK]at hkb;have Qq:nd K≤4:=kt (by omega)
  have ag6:nd (K+o)≤4:=kt (by omega)
  have HNK:=J Qq;have aqn:=J ag6;have HNO:=J (show nd o≤1 by rw [ho];decide)
  have HD1:=J (fun v w hd=>hR1▸Kz v K (x-n) w (by omega) (by omega) (by omega) hd)
  have HD2:=J (fun v w hd=>hR2▸Kz v (K+o) (x-n) w (by omega) (by omega) (by omega) hd)
  have HR1:=J hR1;have nX:=J hR2;have HK:=J hK;have HO:=J ho;have HKB:=J hkb;clear hf bu hR1 hR2 hK Qq ag6 ho hkb;obtain⟨c0,c1,c2⟩:=aH HBR.out;go_wp2_with fail;refine(HC.out _ _ HMR.out).mono ?_;rintro e w3 ⟨v3,rfl,ll,_,bq⟩;have ou:=J ll;have dF:=J (HB.out.trans (bq.mono hs));have Cp:=dF.out.size;clear ll bq c0 c1 c2;go_wp2_with fail;have yH:Hid (D (w3.alloc (.cells #[.int .u16 1] 254)) (.slice (some ⟨w3.heap.size,0,none⟩) 1 1) o):=by show D _ _ _;rw [HO.out];exact sl w3
  refine(Di v3 _ K o _ (by have:=HNK.out;omega) (by have:=HNO.out;omega) (ou.out.below ((zg w3.heap.size w3).alloc (za _) _)) yH.out).mono ?_
  rintro e w4 ⟨v4,rfl,vg,_,cu⟩;have yE:=J vg;have aef:=J (((zg w3.heap.size w3).alloc (za _) (.cells #[.int .u16 1] 254)).trans (cu.mono (by simp)))
  have ce:=J (dF.out.trans (aef.out.mono Cp));have Y_:=ce.out.size;clear vg cu yH;go_wp2_with fail;refine(HD1.out v3 w4 (ou.out.below aef.out)).mono ?_;rintro e w5 ⟨rfl,bT⟩;have ak7:=J ((ou.out.below aef.out).below bT);have YZ:=J (yE.out.below bT);have fE:=J (ce.out.trans (bT.mono Y_));have FB:=fE.out.size;clear bT;go_wp2_with fail;refine(HD2.out v4 w5 YZ.out).mono ?_;rintro e w6 ⟨rfl,fC⟩;have Vt:=J (ak7.out.below fC);have adR:=J (YZ.out.below fC);have lS:=J (fE.out.trans (fC.mono FB));have vY:=lS.out.size;clear fC
  by_cases hA:R1=u
  ·have a1:((R1:Int)==(u:Int))=true:=by rw [Zr];omega
   have HA:Hid (mX u (gr u (x-n)) (x-n)):=by show mX _ _ _;unfold mX;rw [←HK.out,←HR1.out];exact hA
   clear hA
   by_cases hB:R2=u
   have mz:=J (rfl:0=0)
   all_goals
    first
     |replace mz:=mz
      have b1:((R2:Int)==(u:Int))=true:=by rw [Zr];omega
      have HB':Hid (mX u (gr u (x-n)+1) (x-n)):=by show mX _ _ _;unfold mX;rw [←HK.out,←HO.out,←nX.out];exact hB
      clear hB;obtain⟨c0,c1,c2⟩:=aH (tu.out.below lS.out xN);go_wp2_with fail;refine(Wq.out v3 _ K (x-n) w6 (by omega) (by omega) (by have:=HKB.out;omega) Vt.out (ux.out.below lS.out)).mono ?_
      rintro e w9 ⟨v9,rfl,Vc,abr⟩;obtain⟨k,hk⟩: ∃k,k=(if 2*(val u*tB (x-n))<(2*K+1)*(tA (x-n)*KK)∨(2*(val u*tB (x-n))=(2*K+1)*(tA (x-n)*KK)∧K%2=0)then K else K+1):=⟨_,rfl⟩
      rw [←hk]at Vc;have FC:Hid (nT u (x-n) k):= .inl ⟨HA,HB',by rw [hk,HK.out]⟩
      have HK9:=J Vc;have QM:=J (lS.out.trans (abr.mono vY));clear Vc abr hk c0 c1 c2
     |have b1:((R2:Int)==(u:Int))=false:=by rw [zf];omega
      have Qk: ¬mX u (gr u (x-n)+1) (x-n):=by unfold mX;rw [←HK.out,←HO.out,←nX.out];exact hB
      have FC:Hid (nT u (x-n) K):= .inr (.inl ⟨HA,Qk,HK.out⟩);have HK9:=Vt;have QM:=lS;clear hB Qk
    obtain⟨hk0,iP,vj⟩:=rz aeg.out lj HF.out FC.out H1.out H2.out
    first
     |replace mz:=mz
      have QU:(l5 (k)).length≤1000:=by
       rcases vj with⟨_,h,_,_⟩|⟨_,_,h,_,_⟩
       ·rw [h];omega
       ·rw [h];decide
      have Qq:nd (k)≤1000:=zQ (kt (zW iP (zW (zF (by decide) gW) (by decide)))) (by decide)
      have Ly:=J (ky v9 (k) w9 Qq QU HK9.out)
     |have QU:(l5 (K)).length≤1000:=by
       rcases vj with⟨_,h,_,_⟩|⟨_,_,h,_,_⟩
       ·rw [h];omega
       ·rw [h];decide
      have Qq:nd (K)≤1000:=zQ (kt (zW iP (zW (zF (by decide) gW) (by decide)))) (by decide)
      have Ly:=J (ky v3 (K) w6 Qq QU HK9.out)
    have hs9:=QM.out.size;clear hk0 iP QU Qq
    rcases vj with⟨_,hl,ht,he⟩|⟨hn,Wk,hz,ht,he⟩
    have xS:=J (rfl:0=0)
    all_goals
     first
      |replace xS:=xS
       rw [ht]at Ly hl
      |rw [hz]at Ly
     have HEE:=J he
     first
      |replace xS:=xS
       clear ht he;generalize hT:y_ u=T at *;have Fc:=J hT;clear hT
      |have Fc:=J ht
       clear Wk hz ht he;subst hn
     go_wp2_with fail
     refine Ly.out.mono ?_;rintro e w10 ⟨rfl,xT⟩;have aee:=J (QM.out.trans (xT.mono hs9));clear xT;go_wp2_with fail
     go_ret2
     refine⟨?_,HW.out.trans (aee.out.mono x_)⟩
     first
      |replace xS:=xS
       rw [Fc.out,←HEE.out]
      |rw [←Fc.out,←HEE.out]
     rfl
  ·have a1:((R1:Int)==(u:Int))=false:=by rw [zf];omega
   have hA': ¬mX u (gr u (x-n)) (x-n):=by unfold mX;rw [←HK.out,←HR1.out];exact hA
   by_cases hB:R2=u
   ·have b1:((R2:Int)==(u:Int))=true:=by rw [Zr];omega
    have HB':Hid (mX u (gr u (x-n)+1) (x-n)):=by show mX _ _ _;unfold mX;rw [←HK.out,←HO.out,←nX.out];exact hB
    have FC:Hid (nT u (x-n) (K+o)):= .inr (.inr ⟨hA',HB',by rw [HK.out,HO.out]⟩)
    have HK9:=adR;have QM:=lS;clear hB hA hA';obtain⟨hk0,iP,vj⟩:=rz aeg.out lj HF.out FC.out H1.out H2.out
    have QU:(l5 (K+o)).length≤1000:=by
     rcases vj with⟨_,h,_,_⟩|⟨_,_,h,_,_⟩
     ·rw [h];omega
     ·rw [h];decide
    have Qq:nd (K+o)≤1000:=zQ (kt (zW iP (zW (zF (by decide) gW) (by decide)))) (by decide)
    have Ly:=J (ky v4 (K+o) w6 Qq QU HK9.out);have hs9:=QM.out.size;clear hk0 iP QU Qq
    rcases vj with⟨_,hl,ht,he⟩|⟨hn,Wk,hz,ht,he⟩
    have xS:=J (rfl:0=0)
    all_goals
     first
      |replace xS:=xS
       rw [ht]at Ly hl
      |rw [hz]at Ly
     have HEE:=J he
     first
      |replace xS:=xS
       clear ht he;generalize hT:y_ u=T at *;have Fc:=J hT;clear hT
      |have Fc:=J ht
       clear Wk hz ht he;subst hn
     go_wp2_with fail
     refine Ly.out.mono ?_;rintro e w10 ⟨rfl,xT⟩;have aee:=J (QM.out.trans (xT.mono hs9));clear xT;go_wp2_with fail
     go_ret2
     refine⟨?_,HW.out.trans (aee.out.mono x_)⟩
     first
      |replace xS:=xS
       rw [Fc.out,←HEE.out]
      |rw [←Fc.out,←HEE.out]
     rfl
   ·have b1:((R2:Int)==(u:Int))=false:=by rw [zf];omega
    have Qk: ¬mX u (gr u (x-n)+1) (x-n):=by unfold mX;rw [←HK.out,←HO.out,←nX.out];exact hB
    have Lp: ¬jU u (x-n):=fun h=>h.elim hA' Qk
    have Cr: ∀m:Nat,1≤m→m<n+1→¬jU u (x-m):=fun m h1 h2=>by
     rcases zj m n with h|h
     ·exact HF.out m h1 h
     ·obtain rfl:m=n:=by omega
      exact Lp
    have hn3:n≤16:=by
     obtain⟨n0,h1,h2,h3⟩:=aeg.out.1
     rcases zj n 17 with h|h
     ·omega
     ·exact absurd h3 (Cr n0 h1 (by omega))
    have HFN:=J Cr;clear hB hA hA' Qk Lp Cr;go_wp2_with fail
    go_roundw
    case rel=>exact⟨n+1,by go_num,by omega,by omega,HFN.out,lS.out⟩
    case measure=>simp [intOf];omega
theorem Ab{f:Nat→Prop}: ∀n:Nat,f 0→¬f n→∃m,m<n∧f m∧¬f (m+1)
 |0,h0,hn=>absurd h0 hn
 |n+1,h0,hn=>by
  by_cases h:f n
  ·exact⟨n,by omega,h,hn⟩
  ·obtain⟨m,h1,h2⟩:=Ab n h0 h
   exact⟨m,by omega,h2⟩
theorem SH(u:Nat)(h0:0<u)(hu:u<cap): ∃e:Int,val u*tB e<tA e*KK∧tA (e-1)*KK≤val u*tB (e-1)∧ -400≤e∧e≤310:=by
 have Vh:up u≤2045:=by unfold up;have:cap=2047*2^52:=rfl;omega
 have qB:bl (mg u)≤53:=(kl _ _).2 (lB u);have QS:mg u≠0:=fun h=>by have:=fX.1 h;omega
 obtain⟨P,hP⟩: ∃P:Int,P=(up u:Int)-1074:=⟨_,rfl⟩;have hb:=Gv QS;have hg:=(pO u P _ hP).1 (Dq (mg u) P QS (by omega) (by omega))
 have qC: -400≤jK ((bl (mg u):Int)+P):=by
  unfold jK
  rcases Zy ((bl (mg u):Int)+P) 0 with h|h
  ·obtain⟨y,hy⟩: ∃y:Int,(bl (mg u):Int)+P= -y:=⟨-((bl (mg u):Int)+P),by omega⟩
   rw [hy,Int.neg_mul,Int.neg_tdiv,ZH (by omega)]
   omega
  ·rw [ZH (by omega)]
   omega
 have hf0:tA (-400)*KK≤val u*tB (-400):=by
  refine vH (-400) (jK ((bl (mg u):Int)+P)+400).toNat ?_
  rwa [show(-400:Int)+((jK ((bl (mg u):Int)+P)+400).toNat:Int)=jK ((bl (mg u):Int)+P)by omega]
 have Qp:tA (-400+((0:Nat):Int))*KK≤val u*tB (-400+((0:Nat):Int)):=by
  rw [show(-400:Int)+((0:Nat):Int)= -400 from rfl];exact hf0
 have Y5: ¬tA (-400+((710:Nat):Int))*KK≤val u*tB (-400+((710:Nat):Int)):=Nat.not_le_of_lt (aaV hu (by decide))
 obtain⟨m,h1,h2,h3⟩:=Ab (f:=fun n:Nat=>tA (-400+(n:Int))*KK≤val u*tB (-400+(n:Int))) 710 Qp Y5
 refine⟨-400+(m:Int)+1,?_,?_,by omega,by omega⟩
 ·have:=Nat.lt_of_not_le h3
  rwa [show -400+((m+1:Nat):Int)= -400+(m:Int)+1 by omega]at this
 ·rw [show -400+(m:Int)+1-1= -400+(m:Int)by omega];exact h2
theorem SI{f:Nat→Prop}: ∀n:Nat,f n→∃m,m≤n∧f m∧∀j,j<m→¬f j
 |0,h=>⟨0,by omega,h,fun j hj=>by omega⟩
 |n+1,h=>by
  by_cases h2: ∃j,j≤n∧f j
  ·obtain⟨j,hj,hf⟩:=h2
   obtain⟨m,h3,h4⟩:=first_of_lt n j hj hf;exact⟨m,by omega,h4⟩
  ·exact⟨n+1,by omega,h,fun j hj hf=>h2 ⟨j,by omega,hf⟩⟩
where
 first_of_lt {f:Nat→Prop}: ∀(n j:Nat),j≤n→f j→∃m,m≤n∧f m∧∀i,i<m→¬f i
 |0,j,hj,hf=>⟨j,hj,hf,fun i hi=>by omega⟩
 |n+1,j,hj,hf=>by
  by_cases h2: ∃i,i≤n∧f i
  ·obtain⟨i,hi,hfi⟩:=h2
   obtain⟨m,h3,h4⟩:=first_of_lt n i hi hfi;exact⟨m,by omega,h4⟩
  ·exact⟨j,by omega,hf,fun i hi hfi=>h2 ⟨i,by omega,hfi⟩⟩
theorem SJ{u:Nat}{s:Int}(h:jU u s): ∃k,nT u s k:=by
 by_cases hA:mX u (gr u s) s
 ·by_cases hB:mX u (gr u s+1) s
  ·exact⟨_, .inl ⟨hA,hB,rfl⟩⟩
  ·exact⟨_, .inr (.inl ⟨hA,hB,rfl⟩)⟩
 ·exact⟨_, .inr (.inr ⟨hA,h.resolve_left hA,rfl⟩)⟩
theorem so(u:Nat)(h0:0<u)(hu:u<cap):1≤(y_ u).length∧(y_ u).length≤17∧ -400≤Bv u∧Bv u≤311∧0<(aM u).1:=by
 obtain⟨e,h1,h2,h3,h4⟩:=SH u h0 hu;have hE:=C_ u h0 hu e h1 h2;obtain⟨n0,k1,k2,k3⟩:=hE.1;obtain⟨m,j1,j2,j3⟩:=SI (f:=fun m:Nat=>1≤m∧jU u (e-m)) n0 ⟨k1,k3⟩
 obtain⟨k,hk⟩:=SJ j2.2;have hs:=rz hE j2.1 (fun i lQ yD h=>j3 i yD ⟨lQ,h⟩) hk h1 h2
 have Ce:0<(aM u).1:=by
  obtain⟨_,E,q,p,_,_,_,hx⟩:=hE.2 m k j2.1 (fun i lQ yD h=>j3 i yD ⟨lQ,h⟩) hk
  refine Nat.pos_of_ne_zero fun h=> ?_
  rw [h,Zk]at hx;have:=zL hs.1 (Zz (n:=E-m) (show 0<10 by decide))
  omega
 obtain⟨_,_,hc⟩:=hs
 rcases hc with⟨_,hl,ht,he⟩|⟨_,_,_,ht,he⟩
 ·rw [←ht,hl,←he]
  exact⟨j2.1,by omega,h3,by omega,Ce⟩
 ·rw [←ht,←he]
  exact⟨by decide,by decide,by omega,by omega,Ce⟩
theorem wG(x:Nat):x%eL/4<18446744073709551616:=by
 have:x%eL<eL:=zU _ (by decide)
 have e:eL=18446744073709551616:=by decide
 omega
theorem By(mn mx m hi lo s vA:Nat)(p:Int):(n_ mn mx m hi lo s vA p).1<18446744073709551616∧((n_ mn mx m hi lo s vA p).2=1-p∨(n_ mn mx m hi lo s vA p).2= -p):=by
 unfold n_;simp only
 split
 ·refine⟨?_, .inl rfl⟩
  have bw:ko (lZ (tj mx hi lo s) vA)<18446744073709551616:=by
   unfold ko lZ;exact wG _
  show _/10<_;omega
 ·refine⟨?_, .inr rfl⟩
  show(if _ then kq _ else qK _)<_
  split
  ·exact wG _
  ·exact wG _
theorem Do(u:Nat)(h0:0<u)(hu:u<cap):Good (aM u):=by
 obtain⟨_,_,_,_,hp⟩:=so u h0 hu;have hc:cap=2047*2^52:=rfl
 have QP:(aM u).1<18446744073709551616∧ -400≤(aM u).2∧(aM u).2≤400:=by
  unfold aM
  split
  ·have:=By (li u-2^(63-(u%2^52).log2-1)) (li u+2^(63-(u%2^52).log2-1)) (li u) (pw 672).1 (pw 672).2 (-(tl u+1079)).toNat (li u/2^(63-(u%2^52).log2)%2) 324
   unfold Db;generalize n_ _ _ _ _ _ _ _ _=z at *;omega
  ·rename_i h1
   have he:tl u=((u/2^52:Nat):Int)-1086:=by unfold tl;rw [ze h1]
   have hx:1≤u/2^52∧u/2^52≤2046:=by omega
   rw [he];generalize u/2^52=x at *
   split
   ·unfold aaN
    have:=fun mn mx m hi lo s vA=>By mn mx m hi lo s vA (-vI ((x:Int)-1086+11))
    have hs: -400<vI ((x:Int)-1086+11)∧vI ((x:Int)-1086+11)<399:=by unfold vI;omega
    generalize vI ((x:Int)-1086+11)=y at *;have h9:=this (li u-512) (li u+1024) (li u) (pw (348-y).toNat).1 (pw (348-y).toNat).2 (-((x:Int)-1086+fy (-y)+3)).toNat (li u/2048%2);generalize n_ _ _ _ _ _ _ _ _=z at *;omega
   ·unfold Kt
    have:=fun mn mx m hi lo s vA=>By mn mx m hi lo s vA (-dP ((x:Int)-1086+11))
    have hs: -400<dP ((x:Int)-1086+11)∧dP ((x:Int)-1086+11)<399:=by unfold dP;omega
    generalize dP ((x:Int)-1086+11)=y at *;have h9:=this (li u-1024) (li u+1024) (li u) (pw (348-y).toNat).1 (pw (348-y).toNat).2 (-((x:Int)-1086+fy (-y)+3)).toNat (li u/2048%2);generalize n_ _ _ _ _ _ _ _ _=z at *;omega
 exact⟨hp,QP.1,QP.2.1,QP.2.2,SX hp⟩
set_option maxHeartbeats 1600000
theorem sB(k:Nat)(hk:k<2048):bits .and .i64 (k:Int) 2047=(k:Int):=by
 have h:=uE k 2047 (by omega) (by decide)
 have h2:=Z3 k 11;rw [show(2:Nat)^11-1=2047 by decide,show(2:Nat)^11=2048 by decide,zA hk]at h2
 rw [h2]at h;exact h
theorem wV(u:Nat)(hu:u<18446744073709551616):bits .and .u64 (u:Int) 4503599627370495=((u%4503599627370496:Nat):Int):=by
 have h:=u64_and_nat u 4503599627370495 hu (by decide)
 have h2:=Z3 u 52;rw [show(2:Nat)^52-1=4503599627370495 by decide,show(2:Nat)^52=4503599627370496 by decide]at h2
 rw [h2]at h;exact h
theorem M9(f:Nat)(hf:f<4503599627370496):bits .or .u64 (f:Int) 4503599627370496=((f+4503599627370496:Nat):Int):=by
 have h:=u64_or_nat f 4503599627370496 (by omega) (by decide)
 have h2:=Nat.two_pow_add_eq_or_of_lt (i:=52) (b:=f) (by omega) 1
 rw [show(2:Nat)^52*1=4503599627370496 by decide,Nat.or_comm]at h2
 rw [←h2,Nat.add_comm]at h;exact h
theorem mH: ∀(f x n:Nat),2^n≤x→x<2^(n+1)→n<f→Lib.bitLenAux f x=n+1
 |0,_,_,_,_,h=>absurd h (Nat.not_lt_zero _)
 |f+1,x,n,h1,h2,h=>by
  have hx:x≠0:=by have:=zo n;omega
  unfold Lib.bitLenAux;rw [ze hx]
  cases n with
  |zero=>
   have:x/2=0:=by simp at h1 h2;omega
   rw [this]
   cases f<;>simp [Lib.bitLenAux]
  |succ n=>
   rw [mH f (x/2) n (by rw [zH]at h1;omega) (by rw [zH]at h2;omega) (by omega)]
   omega
theorem yv(x n:Nat)(h1:2^n≤x)(h2:x<2^(n+1))(hn:n<64):Lib.bitLen x=n+1:=mH 64 x n h1 h2 hn
theorem Ah{x n:Nat}(h1:2^n≤x)(h2:x<2^(n+1))(hn:n<64):Lib.bitLen x=n+1:=by
 exact yv x n h1 h2 hn
theorem KL: ∀j,j<32→((List.replicate 32 (Value.int .u8 0)).toArray)[j]? =some (.int .u8 0):=by
 intro j hj;rw [List.getElem?_toArray,List.getElem?_replicate,zh hj]
theorem uP{L:List UInt8}{c:UInt8}{T:List UInt8}(h:bY L=c::T):T.length+1≤L.length∧L[0]? =some c∧∀(j:Nat) (u:UInt8),T[j]? =some u→L[1+j]? =some u:=by
 obtain⟨k,hk,hl⟩:=qH L;rw [h]at hk hl;have Lt:k=T.length+1:=by rw [hl];rfl
 have xI:(L.take k).length=T.length+1:=by rw [←hk];rfl
 rw [List.length_take]at xI;refine⟨by omega,?_,fun j u hu=> ?_⟩
 ·have:(L.take k)[0]? =some c:=by rw [←hk];rfl
  rw [List.getElem?_take]at this
  split at this
  ·exact this
  ·cases this
 ·have:(L.take k)[1+j]? =some u:=by rw [←hk,Nat.add_comm];exact hu
  rw [List.getElem?_take]at this
  split at this
  ·exact this
  ·cases this
theorem DF(n:Nat)(h:n≤20):max (wrap64 (n:Int)) 0=(n:Int):=by
 rw [zN (n:Int) ⟨by omega,by omega⟩]
 omega
theorem BC{L:List UInt8}{xO:Array Value}(s_: ∀j (hj:j<L.length),xO[j]? =some (.int .u8 (L[j].toNat:Int))){j:Nat}{u:UInt8}(h:L[j]? =some u):xO[j]? =some (gS u):=by
 obtain⟨hj,he⟩:=zq.1 h;rw [s_ j hj,he]
theorem M_(B0:Nat)(w0:World)(v:Value)(u:Nat)(w:World)(iG:lh B0 w0 w v [])(hu:u<9218868437227405312)(ex fr:Nat)(hex:u=ex*4503599627370496+fr)(rT:fr<4503599627370496)(h1:1≤ex)(hx2:ex≤2046)(ht:gV w)
 (Ff:Good (aM u)):
 Calls prog 215 #[v, .float .f64 u, .int .u8 101, .int .i64 (-1)] w (uO B0 w0 (tF (aM u))):=by
 have hn:((u:Int)/9223372036854775808 !=0)=false:=by
  have:(u:Int)/9223372036854775808=0:=by omega
  rw [this];rfl
 have eE:bits .and .i64 (↑u/4503599627370496) 2047=(ex:Int):=by
  have:(u:Int)/4503599627370496=(ex:Int):=by omega
  rw [this];exact sB ex (by omega)
 have eF:bits .and .u64 ↑u 4503599627370495=(fr:Int):=by
  rw [wV u (by omega),show u%4503599627370496=fr by omega]
 have eO:bits .or .u64 ↑fr 4503599627370496=((fr+4503599627370496:Nat):Int):=M9 fr rT;have t1:((ex:Int)==2047)=false:=by rw [zf];omega
 have t2:((ex:Int)==0)=false:=by rw [zf];omega
 have t3:(((fr+4503599627370496:Nat):Int)==0)=false:=by rw [zf];omega
 have cL:=J (fun w=>yV (fr+4503599627370496) 53 w (by omega) (Ah (n:=52) (by omega) (by omega) (by decide)))
 have hms:Hid ((fr+4503599627370496)*2048=li u):=by
  show _=li u;unfold li;rw [ze (by omega),show u%2^52=fr by omega]
 have hes:Hid ((ex:Int)-1086=tl u):=by
  show _=tl u;unfold tl;rw [ze (by omega),show u/2^52=ex by omega]
 have cS:=J (fun x y hx hy w ht=>Ag u (by omega) hu x y hx hy w ht)
 have HT:=J ht;have HG:=J Ff;have HB:=J iG;have aqy:fr+4503599627370496<9007199254740992:=by omega
 generalize fr+4503599627370496=mt at *;generalize aM u=q at *;clear ht hex Ff iG;go_enter func215,ntmps215;go_wp2_with fail;go_quiet (fail);go_wp2_with fail;refine(cL.out _).mono ?_;rintro e w1 ⟨rfl,rfl⟩;go_wp2_with fail;refine(cS.out _ _ (by rw [←hms.out];omega) (by rw [←hes.out];omega) _ ((HT.out.drewN nq).alloc _).pow).mono ?_
 rintro e w1 ⟨rfl,gZ⟩;obtain⟨qC,xX,U0,Wu,hg5⟩:=HG.out;have dD:=J gZ
 obtain⟨c,T,gK⟩: ∃c T,bY (Lib.decDigits q.1)=c::T:=by
  rcases h:bY (Lib.decDigits q.1)with _|⟨c,T⟩
  ·exact absurd h hg5
  ·exact⟨c,T,rfl⟩
 have Fb:=J gK;clear gZ hg5 gK;obtain⟨d,p⟩:=q;simp only at qC xX U0 Wu;go_wp2_with fail;have HE1:=J (((HT.out.drewN nq).alloc (.cells (List.replicate 32 (Value.int .u8 0)).toArray 284)).below dD.out (za _));have Cc:=J ((ai.new (w.drewN nq) 284 (List.replicate 32 (Value.int .u8 0)).toArray).below dD.out (by simp))
 have bp:=J (((HB.out.below (below_drewN (zg _ _) nq)).below ((zg _ _).alloc (za _) (.cells (List.replicate 32 (Value.int .u8 0)).toArray 284))).below dD.out);clear HT cS cL hms hes eE eF eO t1 t2 t3
 go_region_with (first
  |(go_at_call 271;refine(qG _ _ qC xX ((HE1.out).drewN 1)).mono ?_;rintro e w2 ⟨rfl,rfl⟩)
  |(go_at_call 270;refine(qI d xX p ⟨by omega,by omega⟩ _ _ _ _ (Cc.out.drewN 1) KL).mono ?_;rintro e w2 ⟨rfl,rU,xO,hk2,Vu⟩;have HGR:=J rU;have ot:=J hk2;have HCS:=J Vu;clear rU hk2 Vu))
 have hln:(bY (Lib.decDigits d)).length=T.length+1:=by rw [Fb.out];rfl
 go_wp2_with fail
 obtain⟨hT,hL0,hLT⟩:=uP Fb.out;have Vi:=Lib.nDigits_le20 d xX;have JY:T.length≤20:=by rw [ZZ]at hT;omega
 have Ce:=Lib.nDigits_pos d;have Fe:=(bp.out.drewN 1).other (Cc.out.drewN 1) (by decide) HB.out.2.2 HGR.out
 have qb: -900≤(Lib.nDigits d:Int)+p∧(Lib.nDigits d:Int)+p≤900:=by omega
 have hE:=Kn B0 w0 w2 v w.heap.size 284 xO (↑(Lib.nDigits d)+p) c T (↑T.length+1) (max (wrap64 ↑T.length) 0) Fe ot.out (by decide) JY (BC HCS.out hL0) (fun j u hu=>BC HCS.out (hLT j u hu)) qb rfl (DF T.length JY)
 refine hE.mono ?_;clear hE Fe qb;rintro e w3 ⟨v',rfl,Cs⟩;have HF:=J Cs;clear Cs hT hL0 hLT Vi JY Ce hln;go_wp2_with fail;go_ret;refine⟨v',rfl,?_⟩
 have he:tF (d,p)=ct c T (decide ((Lib.nDigits d:Int)+p-1<0)) ((Lib.nDigits d:Int)+p-1).natAbs:=by
  unfold tF;simp only [Fb.out]
 rw [he];exact HF.out
theorem af3:(madeCells #[Value.int .u8 0] 24).size=24:=by simp [madeCells]
def Z24:Array Value:=madeCells #[Value.int .u8 0] 24
theorem acM(w:World):(Instr.makeSlice 180 (Value.int .i64 0) (Value.int .i64 (max 3 24))).run prog w= .ok (.slice (some ⟨w.heap.size,0,none⟩) 0 24) (w.alloc (.cells Z24 5)):=by
 obtain⟨i0,gF,gX,dw,eU⟩:=Zv Bm;rw [show(max 3 24:Int)=24 by decide]
 have h:=run_make (P:=prog) w 180 5 i0 _ underlying180 gF gX .i64 .i64 0 24 (by decide) (by decide) (by rw [eU];decide) (by decide)
 rw [dw]at h;exact h
theorem lh.new(w:World):lh w.heap.size w (w.alloc (.cells Z24 5)) (.slice (some ⟨w.heap.size,0,none⟩) 0 24) []:=by
 refine⟨⟨rfl, .inr ⟨w.heap.size,24,Z24,rfl,za _,heap_alloc_new w _,by decide,by decide,af3,rfl⟩⟩,(zg _ _).alloc (za _) _,by simp⟩
theorem lh.string{B0:Nat}{w0 W:World}{v:Value}{xs:List UInt8}(h:lh B0 w0 W v xs):
 (convert 180 9 v).run prog W= .ok (.string ⟨xs.toArray⟩) W:=by
 rcases h.1.2 with⟨rfl,h0⟩|⟨g,cap,Co,rfl,_,hh,_⟩
 ·have:xs=[]:=List.eq_nil_of_length_eq_zero h0
  subst this;exact Lib.run_convert_nil_bytes W 180 9 5 0 underlying180 underlying5 underlying9
 ·refine run_convert_bytes_back W 180 9 5 ⟨g,0,none⟩ cap xs underlying180 underlying5 underlying9 (fun j hj=> ?_)
  refine h.1.cells (g:=g) rfl j _ ?_;rw [zT,zk hj]
  rfl
def aa0(w:World)(X:List UInt8)(e:Ending)(w':World):Prop:=e= .returned (.string ⟨X.toArray⟩)∧Below w.heap.size w w'
theorem SZ(B0:Nat)(w0:World)(v:Value)(u:Nat)(w:World)(iG:lh B0 w0 w v [])(h0:0<u)(hu:u<4503599627370496)(ht:gV w)
 (Ff:Good (aM u)):
 Calls prog 215 #[v, .float .f64 u, .int .u8 101, .int .i64 (-1)] w (uO B0 w0 (tF (aM u))):=by
 have hn:((u:Int)/9223372036854775808 !=0)=false:=by
  have:(u:Int)/9223372036854775808=0:=by omega
  rw [this];rfl
 have eE:bits .and .i64 (↑u/4503599627370496) 2047=0:=by
  have:(u:Int)/4503599627370496=((0:Nat):Int):=by omega
  rw [this];exact sB 0 (by omega)
 have eF:bits .and .u64 ↑u 4503599627370495=(u:Int):=by
  rw [wV u (by omega),show u%4503599627370496=u by omega]
 have t3:((u:Int)==0)=false:=by rw [zf];omega
 obtain⟨l,hl⟩: ∃l,l=u.log2:=⟨_,rfl⟩;have xN:=Nat.log2_self_le (show u≠0 by omega)
 have hl2:=Nat.lt_log2_self (n:=u);rw [←hl]at xN hl2;have hl3:l<52:=by rw [hl];exact(Nat.log2_lt (by omega)).2 hu
 have cL:=J (fun w=>yV u (l+1) w (by omega) (Ah (n:=l) xN hl2 (by omega)))
 have Vg:u%2^52=u:=by omega
 have hms:Hid (IntKind.u64.wrap ((u:Int)*2^(63-l))=((li u:Nat):Int)):=by
  show _=_;have hm:li u=u*2^(63-l):=by unfold li;rw [zh (by omega),Vg,hl]
  have bw:u*2^(63-l)<18446744073709551616:=by
   calc u*2^(63-l)<2^(l+1)*2^(63-l):=Nat.mul_lt_mul_of_pos_right hl2 (zo _)
    _=18446744073709551616:=by rw [←zu,show l+1+(63-l)=64 by omega]
  have e:(u:Int)*2^(63-l)=((u*2^(63-l):Nat):Int):=by rw [Zd,Int.natCast_pow];rfl
  rw [hm,e,zE];omega
 have hes:Hid (-1074-((63-l:Nat):Int)=tl u):=by
  show _=tl u;unfold tl;rw [zh (by omega),Vg,hl]
 have cS:=J (fun x y hx hy w ht=>Ag u h0 (by omega) x y hx hy w ht)
 have HT:=J ht;have HG:=J Ff;have HB:=J iG;generalize aM u=q at *;clear ht Ff iG xN hl2 Vg hl;go_enter func215,ntmps215;go_wp2_with fail;go_quiet (fail);go_wp2_with fail;refine(cL.out _).mono ?_;rintro e w1 ⟨rfl,rfl⟩;go_wp2_with fail;refine(cS.out _ _ hms.out (by rw [←hes.out];omega) _ ((HT.out.drewN nq).alloc _).pow).mono ?_
 rintro e w1 ⟨rfl,gZ⟩;obtain⟨qC,xX,U0,Wu,hg5⟩:=HG.out;have dD:=J gZ
 obtain⟨c,T,gK⟩: ∃c T,bY (Lib.decDigits q.1)=c::T:=by
  rcases h:bY (Lib.decDigits q.1)with _|⟨c,T⟩
  ·exact absurd h hg5
  ·exact⟨c,T,rfl⟩
 have Fb:=J gK;clear gZ hg5 gK;obtain⟨d,p⟩:=q;simp only at qC xX U0 Wu;go_wp2_with fail;have HE1:=J (((HT.out.drewN nq).alloc (.cells (List.replicate 32 (Value.int .u8 0)).toArray 284)).below dD.out (za _));have Cc:=J ((ai.new (w.drewN nq) 284 (List.replicate 32 (Value.int .u8 0)).toArray).below dD.out (by simp))
 have bp:=J (((HB.out.below (below_drewN (zg _ _) nq)).below ((zg _ _).alloc (za _) (.cells (List.replicate 32 (Value.int .u8 0)).toArray 284))).below dD.out);clear HT cS cL hms hes eE eF t3 hn
 go_region_with (first
  |(go_at_call 271;refine(qG _ _ qC xX ((HE1.out).drewN 1)).mono ?_;rintro e w2 ⟨rfl,rfl⟩)
  |(go_at_call 270;refine(qI d xX p ⟨by omega,by omega⟩ _ _ _ _ (Cc.out.drewN 1) KL).mono ?_;rintro e w2 ⟨rfl,rU,xO,hk2,Vu⟩;have HGR:=J rU;have ot:=J hk2;have HCS:=J Vu;clear rU hk2 Vu))
 have hln:(bY (Lib.decDigits d)).length=T.length+1:=by rw [Fb.out];rfl
 go_wp2_with fail
 obtain⟨hT,hL0,hLT⟩:=uP Fb.out;have Vi:=Lib.nDigits_le20 d xX;have JY:T.length≤20:=by rw [ZZ]at hT;omega
 have Ce:=Lib.nDigits_pos d;have Fe:=(bp.out.drewN 1).other (Cc.out.drewN 1) (by decide) HB.out.2.2 HGR.out
 have qb: -900≤(Lib.nDigits d:Int)+p∧(Lib.nDigits d:Int)+p≤900:=by omega
 have hE:=Kn B0 w0 w2 v w.heap.size 284 xO (↑(Lib.nDigits d)+p) c T (↑T.length+1) (max (wrap64 ↑T.length) 0) Fe ot.out (by decide) JY (BC HCS.out hL0) (fun j u hu=>BC HCS.out (hLT j u hu)) qb rfl (DF T.length JY)
 refine hE.mono ?_;clear hE Fe qb;rintro e w3 ⟨v',rfl,Cs⟩;have HF:=J Cs;clear Cs hT hL0 hLT Vi JY Ce hln;go_wp2_with fail;go_ret;refine⟨v',rfl,?_⟩
 have he:tF (d,p)=ct c T (decide ((Lib.nDigits d:Int)+p-1<0)) ((Lib.nDigits d:Int)+p-1).natAbs:=by
  unfold tF;simp only [Fb.out]
 rw [he];exact HF.out
theorem S0(B0:Nat)(w0:World)(v:Value)(u:Nat)(w:World)(iG:lh B0 w0 w v [])(h0:0<u)(hu:u<cap)(ht:gV w):
 Calls prog 215 #[v, .float .f64 u, .int .u8 101, .int .i64 (-1)] w (uO B0 w0 (tF (aM u))):=by
 have hc:cap=2047*2^52:=rfl
 rcases zj u 4503599627370496 with h|h
 ·exact SZ B0 w0 v u w iG h0 h ht (Do u h0 hu)
 ·exact M_ B0 w0 v u w iG (by omega) (u/4503599627370496) (u%4503599627370496) (by omega) (by omega) (by omega) (by omega) ht (Do u h0 hu)
theorem XW(u:Nat)(w:World)(h0:0<u)(hu:u<cap)(ht:gV w):
 Calls prog 151 #[.float .f64 u, .int .u8 101, .int .i64 (-1), .int .i64 64] w (aa0 w (tF (aM u))):=by
 have HC:=J (fun B0 w0 v w iG ht=>S0 B0 w0 v u w iG h0 hu ht)
 have HT:=J ht;clear h0 hu ht;generalize tF (aM u)=X at *;have hmk:=acM;go_enter func151,ntmps151;go_wp2_with fail;refine(HC.out w.heap.size w _ _ (lh.new w) (HT.out.alloc _)).mono ?_;rintro e w3 ⟨v',rfl,Cs⟩;have gK:=Cs.string;have HB:=J Cs;clear Cs
 go_wp2
 go_ret;exact⟨rfl,HB.out.2.1⟩
theorem S3(u:Nat)(w:World)(h0:0<u)(hu:u<cap)(ht:gV w):
 Calls prog 87 #[.float .f64 u, .int .u8 101, .int .i64 (-1), .int .i64 64] w (aa0 w (tF (aM u))):=by
 have HC:=J (XW u w h0 hu ht);clear h0 hu ht;generalize tF (aM u)=X at *;go_enter func87,ntmps87;go_wp2_with fail;refine HC.out.mono ?_;rintro e w3 ⟨rfl,Cs⟩;have HB:=J Cs;clear Cs
 go_wp2
 go_ret;exact⟨rfl,HB.out⟩
theorem To:cap=9218868437227405312:=by decide
theorem gx(u:Nat)(hu:u<2^64)(w:World):Calls prog 167 #[.int .u64 u] w fun e w'=>e= .returned (.bool (decide (cap<rg u)))∧w=w':=by
 have hb:=kM u hu
 have hd:decide (cap<rg u)=decide ((9218868437227405312:Int)<((fZ u:Nat):Int)):=by
  rw [decide_eq_decide,To];show 9218868437227405312<fZ u↔_;omega
 rw [hd];generalize fZ u=r at *;clear hu hd;go_enter func167,ntmps167
 go_wp2
 go_ret;exact⟨rfl,rfl⟩
theorem mI(u:Nat)(hu:u<2^64)(w:World):Calls prog 180 #[.int .u64 u] w fun e w'=>e= .returned (.bool (decide (rg u=cap)))∧w=w':=by
 have hb:=kM u hu
 have hd:decide (rg u=cap)=(((fZ u:Nat):Int)==(9218868437227405312:Int)):=by
  rw [To,ZR,Zb,Zr];show fZ u=9218868437227405312↔_;omega
 rw [hd];generalize fZ u=r at *;clear hu hd;go_enter func180,ntmps180
 go_wp2
 go_ret;exact⟨rfl,rfl⟩
theorem wW(u:Nat)(hu:u<2^64)(w:World):Calls prog 99 #[.int .u64 u] w fun e w'=>e= .returned (.int .u64 (aw u:Nat))∧w=w':=by
 have hn:=fun w=>gx u hu w
 unfold aw
 by_cases h:cap<rg u
 focus
  rw [zh h];simp only [zc h]at hn
 rotate_left
 focus
  rw [ze h];simp only [zb h]at hn
 all_goals
  clear h hu;go_enter func99,ntmps99;go_wp2_with (go_at_call 167;refine(hn _).mono ?_;rintro e w' ⟨rfl,rfl⟩);go_ret;exact⟨rfl,rfl⟩
def qk(u:Nat):Nat:=if cap<rg u then 9221120237041090560 else qL u
theorem KM(u:Nat):fZ u<2^64:=zy (zU _ (by decide)) (by decide)
theorem Tp{u:Nat}(h:u<2^64):qL u<2^64:=by unfold qL;split<;>omega
theorem KN{u:Nat}(h:u<2^64):qk u<2^64:=by
 unfold qk;split
 ·decide
 ·exact Tp h
theorem fY{u:Nat}(h:cap<rg u):aw u=9221120237041090560:=zh h
theorem tJ{u:Nat}(h:rg u≤cap):aw u=u:=ze (by omega)
theorem wz:cap<rg 9221120237041090560:=by decide
theorem Dc(u:Nat):aw (aw u)=aw u:=by
 rcases zj cap (rg u)with h|h
 ·rw [fY h];exact fY wz
 ·rw [tJ h,tJ h]
theorem R_(u:Nat):aw (wT u)=aw (qk u):=by
 unfold wT qk
 split
 ·next h=>rw [fY h,fY wz]
 ·rfl
set_option maxHeartbeats 400000
theorem Rc(x:Nat)(hx:x<2^63)(w:World):Calls prog 116 #[.int .i64 (x:Int)] w (jq w (Bc x)):=by
 have xK:(x:Int)≤9223372036854775807:=by omega
 have HX:=J hx;have d1:decide ((x:Int)<0)=false:=zb (by omega)
 have HE:=J (C6 (x:Int));clear hx;go_enter func116,ntmps116;go_wp2_with fail;refine(pN x _ (by have:=HX.out;omega)).mono ?_
 rintro e w2 ⟨v2,rfl,hv2,_,ba⟩;obtain⟨A2,c2,rfl⟩:=hv2.shape;have ln:=J hv2;have bM:=J ba;have hs2:=ba.size;clear hv2 ba;go_wp2_with fail;refine(kr false false _ x 0 _ (by have:=kt (x:=x) (by have:=HX.out;omega);omega) (by omega) (by omega) ln.out).mono ?_
 rintro e w3 ⟨rfl,bq⟩;have dF:=J bq;clear bq;go_wp2_with fail;go_ret;refine⟨?_,bM.out.trans (dF.out.mono hs2)⟩;rw [HE.out]
 rfl
theorem Rd(x:Nat)(xK:0<x)(hx:x≤2^63)(w:World):Calls prog 116 #[.int .i64 (-(x:Int))] w (jq w (Bc (-(x:Int)))):=by
 have HX:=J hx;have d1:decide (-(x:Int)<0)=true:=zc (by omega)
 have HE:=J (C6 (-(x:Int)));have Qh:IntKind.u64.wrap (-(IntKind.u64.wrap (-(x:Int))))=(x:Int):=by rw [zE,zE];omega
 clear hx;go_enter func116,ntmps116;go_wp2_with fail;refine(pN x _ (by have:=HX.out;omega)).mono ?_
 rintro e w2 ⟨v2,rfl,hv2,_,ba⟩;obtain⟨A2,c2,rfl⟩:=hv2.shape;have ln:=J hv2;have bM:=J ba;have hs2:=ba.size;clear hv2 ba;go_wp2_with fail;refine(kr true false _ x 0 _ (by have:=kt (x:=x) (by have:=HX.out;omega);omega) (by omega) (by omega) ln.out).mono ?_
 rintro e w3 ⟨rfl,bq⟩;have dF:=J bq;clear bq;go_wp2_with fail;go_ret;refine⟨?_,bM.out.trans (dF.out.mono hs2)⟩;rw [HE.out,Int.natAbs_neg,Int.natAbs_natCast,d1]
 rfl
theorem Re(n:Int)(h1: -9223372036854775808≤n)(h2:n≤9223372036854775807)(w:World):Calls prog 116 #[.int .i64 n] w (jq w (Bc n)):=by
 rcases Zy n 0 with h|h
 ·obtain⟨x,rfl⟩: ∃x:Nat,n= -(x:Int):=⟨n.natAbs,by omega⟩
  exact Rd x (by omega) (by omega) w
 ·obtain⟨x,rfl⟩: ∃x:Nat,n=(x:Int):=⟨n.toNat,by omega⟩
  exact Rc x (by omega) w
theorem aca(n:Int):Bc n<2^64:=by unfold Bc;exact afI _ _ (afK _ _)
set_option maxHeartbeats 2000000
theorem aaQ(T:List UInt8)(n:Nat)(h:n≤3):uM T (-(n:Int))=[48,46]++List.replicate n 48++T:=by
 unfold uM;rw [zh (by omega),zh (by omega),Int.neg_neg,zv]
theorem aaR(T:List UInt8)(m:Nat)(h0:0<m)(h:m≤15)(hl:T.length≤m):uM T (m:Int)=T++List.replicate (m-T.length) 48++[46,48]:=by
 unfold uM;rw [zh (by omega),ze (by omega),zv,zh hl]
theorem aaS(T:List UInt8)(m:Nat)(h0:0<m)(h:m≤15)(hl:m<T.length):uM T (m:Int)=T.take m++[46]++T.drop m:=by
 unfold uM;rw [zh (by omega),ze (by omega),zv,ze (by omega)]
theorem aaT(c:UInt8)(R:List UInt8)(m:Nat)(h:15<m):uM (c::R) (m:Int)=[c]++[46]++(if R=[]then [48]else R)++[69]++Lib.decDigits (m-1):=by
 unfold uM;rw [ze (show¬((m:Int)≤15∧ -3≤(m:Int))by omega),ze (show¬(m:Int)<1 by omega),show((m:Int)-1).toNat=m-1 by omega]
 rfl
theorem aaU(c:UInt8)(R:List UInt8)(m:Nat)(h:3<m):uM (c::R) (-(m:Int))=[c]++[46]++(if R=[]then [48]else R)++[69]++([126]++Lib.decDigits (m+1)):=by
 unfold uM;rw [ze (show¬(-(m:Int)≤15∧ -3≤ -(m:Int))by omega),zh (show -(m:Int)<1 by omega),show(1- -(m:Int)).toNat=m+1 by omega]
 rfl
theorem Gu{s X:ByteArray}(h:s=X):Ending.returned (.string s)= .returned (.string X):=by rw [h]
structure XK(u:Nat)(T:List UInt8)(E:Int):Prop where
 nan: ∀w,Calls prog 167 #[.int .u64 u] w fun e w'=>e= .returned (.bool false)∧w=w'
 inf: ∀w,Calls prog 180 #[.int .u64 u] w fun e w'=>e= .returned (.bool false)∧w=w'
 sho: ∀w,Calls prog 184 #[.int .u64 u] w fun e w'=>e= .returned (.tuple #[.string ⟨T.toArray⟩, .int .i64 E])∧Below w.heap.size w w'
theorem XL(u:Nat)(T:List UInt8)(n:Nat)(hT:T.length≤17)(h:n≤3)(s0:bits .and .u64 (u:Int) 9223372036854775808=0)(z0:((u:Int)==0)=false)(HC:Hid (XK u T (-(n:Int))))(w:World):
 Calls prog 111 #[.int .u64 u] w (jG w (uM T (-(n:Int)))):=by
 rw [aaQ T n h];go_enter func111,ntmps111
 go_wp2_with (first
  |(go_at_call 167;refine(HC.out.nan _).mono ?_;rintro e w' ⟨rfl,rfl⟩)
  |(go_at_call 180;refine(HC.out.inf _).mono ?_;rintro e w' ⟨rfl,rfl⟩)
  |(go_at_call 184;refine(HC.out.sho _).mono ?_;rintro e w1 ⟨rfl,cT⟩;have bp:=J cT;clear cT)
  |(go_at_call 185;go_simp;refine(uL n _ (by omega)).mono ?_;rintro e w' ⟨rfl,rfl⟩))
 go_ret;refine⟨Gu (s:=_) ?_,bp.out⟩;apply ByteArray.ext;simp
theorem XM(u:Nat)(T:List UInt8)(m:Nat)(hT:T.length≤17)(h0:0<m)(h:m≤15)(hl:T.length≤m)(s0:bits .and .u64 (u:Int) 9223372036854775808=0)(z0:((u:Int)==0)=false)(HC:Hid (XK u T (m:Int)))(w:World):
 Calls prog 111 #[.int .u64 u] w (jG w (uM T (m:Int))):=by
 rw [aaR T m h0 h hl];obtain⟨d,hd⟩: ∃d:Nat,d=m-T.length:=⟨_,rfl⟩;rw [←hd];have Wt:(m:Int)-(T.length:Int)=(d:Int):=by omega
 have HD:=J (uL d);have hd3:d≤15:=by omega
 clear hd;go_enter func111,ntmps111
 go_wp2_with (first
  |(go_at_call 167;refine(HC.out.nan _).mono ?_;rintro e w' ⟨rfl,rfl⟩)
  |(go_at_call 180;refine(HC.out.inf _).mono ?_;rintro e w' ⟨rfl,rfl⟩)
  |(go_at_call 184;refine(HC.out.sho _).mono ?_;rintro e w1 ⟨rfl,cT⟩;have bp:=J cT;clear cT)
  |(go_at_call 185;go_simp;refine(HD.out _ (by omega)).mono ?_;rintro e w' ⟨rfl,rfl⟩))
 go_ret;refine⟨Gu (s:=_) ?_,bp.out⟩;apply ByteArray.ext;simp
theorem XN(u:Nat)(T:List UInt8)(m:Nat)(hT:T.length≤17)(h0:0<m)(h:m≤15)(hl:m<T.length)(s0:bits .and .u64 (u:Int) 9223372036854775808=0)(z0:((u:Int)==0)=false)(HC:Hid (XK u T (m:Int)))(w:World):
 Calls prog 111 #[.int .u64 u] w (jG w (uM T (m:Int))):=by
 rw [aaS T m h0 h hl];go_enter func111,ntmps111
 go_wp2_with (first
  |(go_at_call 167;refine(HC.out.nan _).mono ?_;rintro e w' ⟨rfl,rfl⟩)
  |(go_at_call 180;refine(HC.out.inf _).mono ?_;rintro e w' ⟨rfl,rfl⟩)
  |(go_at_call 184;refine(HC.out.sho _).mono ?_;rintro e w1 ⟨rfl,cT⟩;have bp:=J cT;clear cT))
 go_region
 go_wp2
 go_ret;refine⟨Gu (s:=_) ?_,bp.out.drew⟩;rw [ef,eg];apply ByteArray.ext;simp
end Go.Proofs.YtcpmiplofbfmfaaGreatDoor
