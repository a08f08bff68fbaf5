/- Shrink: texts: the program's. -/
import Derived.Test.YtcpmiplofbfmfaaGreatDoorA34
import Derived.Lib.Join
set_option linter.all false
set_option maxRecDepth 100000
set_option maxHeartbeats 4000000
namespace Go.Proofs.YtcpmiplofbfmfaaGreatDoor
open Go.Proofs.Tryz
open Go.Lib renaming hid→J
open Go.RowKit LamM CpsM FloM ShrM
def ju(s:List UInt8)(c:Int)(w:World)(e:Ending)(w':World):Prop:=e= .returned (.tuple #[.string ⟨s.toArray⟩, .int .i64 c])∧Below w.heap.size w w'
theorem Ps(n:Int):Lib.replace (Lib.itoa n) [45] [126] 1=qq n:=by
 rw [Dv];unfold qq
 split
 ·rfl
 ·congr 1;omega
theorem adk(n:Int)(hn:ax n=true)(w:World)(hE:gV w):Calls prog 164 #[.int .i64 n, .int .i64 10] w (jG w (Lib.itoa n)):=by
 have h:=bF hn;refine(Tryz.strconv_FormatInt_10 n (by omega) (by omega) w hE.tab).mono ?_
 rintro e w' ⟨rfl,k,os,rfl⟩;exact⟨rfl,wM w k os⟩
theorem vR: ∀(k u:Nat),u<10^(k+1)→Lib.nDigits u≤k+1
 |0,u,h=>by rw [Z9 (by simpa using h)];omega
 |k+1,u,h=>by
  by_cases h1:u<10
  ·rw [Z9 h1];omega
  ·rw [Lib.nDigits_big h1]
   have:=vR k (u/10) (by rw [zH]at h;omega)
   omega
theorem Pt(n:Int)(hn:ax n=true):(Lib.itoa n).length≤21:=by
 have h:=bF hn
 have e: ∀u,u≤4611686018427387904→(Lib.decDigits u).length≤20:=fun u hu=>by
  rw [ZZ];exact vR 19 u (by omega)
 unfold Lib.itoa
 split
 ·have:=e n.natAbs (by omega);simp;omega
 ·have:=e n.toNat (by omega);omega
theorem Ur(n:Int)(hn:ax n=true)(w:World)(hE:gV w):Calls prog 89 #[.string ⟨(Lib.itoa n).toArray⟩, .string ⟨#[45]⟩, .string ⟨#[126]⟩, .int .i64 1] w (jG w (qq n)):=by
 obtain⟨m,hm⟩:=hE.mxl;have hl:=Pt n hn;have hs:(ByteArray.mk (Lib.itoa n).toArray).size=(Lib.itoa n).length:=by simp [ByteArray.size]
 have hcn:Lib.countB ⟨(Lib.itoa n).toArray⟩ ⟨#[45]⟩≤(Lib.itoa n).length+1:=Lib.count_le _ _
 have h:=Tryz.strings_Replace ⟨(Lib.itoa n).toArray⟩ ⟨#[45]⟩ ⟨#[126]⟩ 1 m w (by rw [hs];omega) hm (by decide) (by
  rw [hs,show(ByteArray.mk #[126]).size=1 from rfl];omega)
 rw [show Lib.replace (ByteArray.mk (Lib.itoa n).toArray).data.toList (ByteArray.mk #[45]).data.toList (ByteArray.mk #[126]).data.toList 1=qq n from Ps n]at h
 exact h
theorem Pu(n:Int)(hn:ax n=true)(w:World)(hE:gV w):Calls prog 94 #[.int .i64 n] w (ju (qq n) 0 w):=by
 have HR:=J (fun w=>eZ n w)
 rw [hn]at HR;have HF:=J (adk n hn w hE);have HP:=J (fun w1 (hb:Below w.heap.size w w1)=>Ur n hn w1 (hE.below hb (za _)))
 unfold ju;unfold jG at HF HP;generalize Lib.itoa n=a at *;generalize qq n=d at *;clear hn;go_enter func94,ntmps94;go_wp2_with (first|(go_at_call 49;(with_reducible refine(HR.out _).q ?_))|(go_at_call 164;(with_reducible refine(HF.out).mono ?_);rintro e w1 ⟨rfl,hb⟩;have bp:=J hb;clear hb)|(go_at_call 89;(with_reducible refine(HP.out _ bp.out).mono ?_);rintro e w2 ⟨rfl,hb⟩;have bM:=J (bp.out.trans (hb.mono bp.out.size));clear hb))
 go_ret2
 exact⟨rfl,bM.out⟩
theorem Pv(k:Nat)(hk:k≤255)(w:World):(convert 180 9 (.slice (some ⟨w.heap.size,0,none⟩) 1 1)).run prog (w.alloc (.cells #[.int .u8 (k:Int)] 5))= .ok (.string ⟨#[UInt8.ofNat k]⟩) (w.alloc (.cells #[.int .u8 (k:Int)] 5)):=by
 have h:=run_convert_bytes_back (P:=prog) (w.alloc (.cells #[.int .u8 (k:Int)] 5)) 180 9 5 ⟨w.heap.size,0,none⟩ 1 [UInt8.ofNat k] underlying180 underlying5 underlying9 (fun j hj=>by
  have hj0:j=0:=by simp at hj;omega
  subst hj0;rw [ZV,(ai.new w 5 #[.int .u8 (k:Int)]).cell 0];simp;omega)
 exact h
theorem sN(n:Int)(h0:0≤n)(h1:n≤255)(w:World):(Calls prog 95 #[.int .i64 n] w (ju [UInt8.ofNat n.toNat] 0 w))∧(Calls prog 121 #[.int .i64 n] w (ju [UInt8.ofNat n.toNat] 0 w)):=by
 refine⟨?_,?_⟩;have aj:=J (rfl:0=0)
 all_goals
  unfold ju;obtain⟨k,rfl⟩: ∃k:Nat,n=(k:Int):=⟨n.toNat,by omega⟩
  have e:IntKind.u8.wrap (k:Int)=(k:Int):=by simp [IntKind.wrap,IntKind.signed,IntKind.bits];omega
  have q1:decide ((k:Int)<0)=false:=zb (by omega)
  have q2:decide ((255:Int)<(k:Int))=false:=zb (by omega)
  have hc:=Pv k (by omega) w
  rw [zv]
  first
   |replace aj:=aj
    go_enter func95,ntmps95
   |go_enter func121,ntmps121
  go_wp2_with fail
  go_ret2
  exact⟨rfl,(zg _ _).alloc (za _) _⟩
def Us a b c d:=(sN a b c d).1
def Ut a b c d:=(sN a b c d).2
theorem Ld: ∀s t:List UInt8,Lib.compareBytes s t=kR s t
 |[],[]=>rfl
 |[],_::_=>rfl
 |_::_,[]=>rfl
 |a::s,b::t=>by
  show(if a<b then -1 else if b<a then 1 else Lib.compareBytes s t)=(if a<b then -1 else if b<a then 1 else kR s t)
  rw [Ld s t]
theorem Uu(s t:List UInt8)(w:World):Calls prog 13 #[.string ⟨s.toArray⟩, .string ⟨t.toArray⟩] w fun e w'=>e= .returned (.int .i64 (kR s t))∧w=w':=by
 have HF:=J (fun w=>(Tryz.strings_Compare ⟨s.toArray⟩ ⟨t.toArray⟩ w).mono fun e w' (h:e= .returned (.int .i64 (Lib.compareBytes s t))∧w'=w)=>(show e= .returned (.int .i64 (kR s t))∧w=w' from⟨by rw [h.1,Ld],h.2.symm⟩))
 generalize kR s t=c at *;go_enter func13,ntmps13;go_wp2_with (go_at_call 51;(with_reducible refine(HF.out _).q ?_));go_ret;exact⟨rfl,rfl⟩
theorem Pw(t:List UInt8)(ht:t.length≤65536)(w:World):Calls prog 166 #[.string ⟨t.toArray⟩] w (jG w t):=by
 have HF:=J (fun w=>Tryz.stringslite_Clone ⟨t.toArray⟩ w (by rw [eA];omega))
 unfold jG;clear ht;go_enter func166,ntmps166;go_wp2_with (go_at_call 232;(with_reducible refine(HF.out _).mono ?_);rintro e w1 ⟨rfl,hb⟩;have HB:=J hb;clear hb);go_ret;exact⟨rfl,HB.out⟩
theorem jw(s:List UInt8)(w:World):Calls prog 56 #[.string ⟨s.toArray⟩] w fun e w'=>e= .returned (.bool (decide (s.length≤65536)))∧w=w':=by
 have hs:=eA s
 by_cases h:s.length≤65536
 focus
  have q:decide ((s.length:Int)≤65536)=true:=zc (by omega)
  rw [zc h]
 rotate_left
 focus
  have q:decide ((s.length:Int)≤65536)=false:=zb (by omega)
  rw [zb h]
 all_goals
  go_enter func56,ntmps56;go_wp2_with fail;go_ret;exact⟨rfl,rfl⟩
theorem BS(s:List UInt8)(k:Nat)(hk:k<s.length):(ByteArray.mk s.toArray)[k]'(by simpa [ByteArray.size]using hk)=s.getD k 0:=by
 rw [ZX,zk hk]
 rfl
theorem Hv(s:List UInt8)(a b:Nat):(ByteArray.mk s.toArray).extract a b=⟨((s.take b).drop a).toArray⟩:=by
 apply ByteArray.ext;rw [ByteArray.data_extract];simp [List.extract_eq_take_drop,List.drop_take]
abbrev pe:=fun p0=> ∀(s:List UInt8) (hs:s.length≤65536) (i:Int) (w:World),Calls prog p0 #[.string ⟨s.toArray⟩, .int .i64 i] w (R2 (if 0≤i∧i<(s.length:Int)then(((s.getD i.toNat 0).toNat:Int),0)else(0,32)) w)
theorem xw:pe 97∧pe 123:=by
 unfold pe;refine⟨?_,?_⟩
 all_goals intro s hs i w
 have aj:=J (rfl:0=0)
 rotate_left;have aG:=J (rfl:0=0)
 all_goals
  first
   |replace aj:=aj
    have HZ:=J (fun w=>kT s w)
   |have HZ:=J (fun w=>jw s w)
  rw [zc hs]at HZ;have dq:=eA s;unfold R2
  by_cases h0:0≤i
  ·obtain⟨k,rfl⟩: ∃k:Nat,i=(k:Int):=⟨i.toNat,by omega⟩
   have q1:decide ((k:Int)<0)=false:=zb (by omega)
   by_cases h1:k<s.length
   have mz:=J (rfl:0=0)
   all_goals
    first
     |replace mz:=mz
      rw [zh ⟨h0,by omega⟩,zv,←BS s k h1]
      have q2:decide ((s.length:Int)≤(k:Int))=false:=zb (by omega)
      have q3:decide (s.length≤k)=false:=zb (by omega)
      have hk:k<(ByteArray.mk s.toArray).size:=by rw [dq];exact h1
      have hw:wrap64 (((ByteArray.mk s.toArray)[k]'hk).toNat:Int)=(((ByteArray.mk s.toArray)[k]'hk).toNat:Int):=zN _ (by have:=UInt8.toNat_lt ((ByteArray.mk s.toArray)[k]'hk);omega)
     |rw [ze (by omega)]
      have q2:decide ((s.length:Int)≤(k:Int))=true:=zc (by omega)
      have q3:decide (s.length≤k)=true:=zc (by omega)
    clear hs
    first
     |replace aj:=aj
      go_enter func97,ntmps97
     |go_enter func123,ntmps123
    go_wp2_with ((first|replace aj:=aj;go_at_call 50|replace aG:=aG;go_at_call 56);(with_reducible refine(HZ.out _).q ?_))
    go_ret2
    first
     |replace mz:=mz
      exact⟨ZW (fun z=>Ending.returned (.tuple #[.int .i64 z, .int .i64 0])) hw,rfl⟩
     |exact⟨rfl,rfl⟩
  ·rw [ze (by omega)]
   have q1:decide (i<0)=true:=zc (by omega)
   clear hs
   first
    |replace aj:=aj
     go_enter func97,ntmps97
    |go_enter func123,ntmps123
   go_wp2_with ((first|replace aj:=aj;go_at_call 50|replace aG:=aG;go_at_call 56);(with_reducible refine(HZ.out _).q ?_))
   go_ret2
   exact⟨rfl,rfl⟩
def adl:=xw.1
def adm:=xw.2
abbrev pg:=fun p0=> ∀(s:List UInt8) (hs:s.length≤65536) (i n:Int) (hi:i≤4611686018427387903) (hn:n≤4611686018427387903) (w:World),Calls prog p0 #[.string ⟨s.toArray⟩, .int .i64 i, .int .i64 n] w (if 0≤i∧0≤n∧i≤(s.length:Int)∧n≤(s.length:Int)-i then ju ((s.drop i.toNat).take n.toNat) 0 w else ju [] 32 w)
theorem xx:pg 98∧pg 124:=by
 unfold pg;refine⟨?_,?_⟩
 all_goals intro s hs i n hi hn w
 have aj:=J (rfl:0=0)
 rotate_left;have aG:=J (rfl:0=0)
 all_goals
  first
   |replace aj:=aj
    have HZ:=J (fun w=>kT s w)
   |have HZ:=J (fun w=>jw s w)
  rw [zc hs]at HZ;have dq:=eA s
  first
   |replace aj:=aj
    have HK:=J (fun(t:List UInt8) (ht:t.length≤65536) (w:World)=>Pw t ht w)
   |skip
  by_cases h0:0≤i
  ·obtain⟨k,rfl⟩: ∃k:Nat,i=(k:Int):=⟨i.toNat,by omega⟩
   have q1:decide ((k:Int)<0)=false:=zb (by omega)
   by_cases h1:0≤n
   ·obtain⟨m,rfl⟩: ∃m:Nat,n=(m:Int):=⟨n.toNat,by omega⟩
    have q2:decide ((m:Int)<0)=false:=zb (by omega)
    by_cases h2:k≤s.length
    ·have q3:decide ((s.length:Int)<(k:Int))=false:=zb (by omega)
     have q4:decide (s.length<k)=false:=zb (by omega)
     have w1:wrap64 ((s.length:Int)-(k:Int))=(s.length:Int)-(k:Int):=zN _ (by omega)
     by_cases h3:(m:Int)≤(s.length:Int)-(k:Int)
     have VC:=J (rfl:0=0)
     all_goals
      first
          |replace VC:=VC
           rw [zh ⟨h0,h1,by omega,h3⟩,zv,zv]
           have q5:decide ((s.length:Int)-(k:Int)<(m:Int))=false:=zb (by omega)
           have w2:wrap64 ((k:Int)+(m:Int))=(k:Int)+(m:Int):=zN _ (by omega)
           have e1:((k:Int)+(m:Int)).toNat=k+m:=by omega
           have e2:(ByteArray.mk s.toArray).extract k (k+m)=⟨((s.drop k).take m).toArray⟩:=by
            rw [Hv,List.drop_take,Nat.add_sub_cancel_left]
           have hl:((s.drop k).take m).length≤65536:=by simp;omega
           have b2:(k:Int)+(m:Int)≤(s.length:Int):=by clear w1 w2;omega
           generalize(s.drop k).take m=t at *;have b1:(k:Int)≤(k:Int)+(m:Int):=Int.le_add_of_nonneg_right h1;have b3:(0:Int)≤(k:Int)+(m:Int):=by omega
          |rw [ze (by omega)]
           have q5:decide ((s.length:Int)-(k:Int)<(m:Int))=true:=zc (by omega)
      unfold ju;clear hs h0 h1 h3
      first
          |replace aj:=aj
           go_enter func98,ntmps98
          |go_enter func124,ntmps124
      first
          |replace VC:=VC
           (first|replace aj:=aj;go_wp2_with (first|(go_at_call 50;(with_reducible refine(HZ.out _).q ?_))|(go_at_call 166;(with_reducible refine(HK.out t hl _).mono ?_);rintro e w1 ⟨rfl,hb⟩;have HB:=J hb;clear hb))|go_wp2_with (go_at_call 56;(with_reducible refine(HZ.out _).q ?_)))
          |go_wp2_with ((first|replace aj:=aj;go_at_call 50|replace aG:=aG;go_at_call 56);(with_reducible refine(HZ.out _).q ?_))
      go_ret2
      first
          |replace VC:=VC
           first
            |replace aj:=aj
             exact⟨rfl,HB.out⟩
            |exact⟨rfl,zg _ _⟩
          |exact⟨rfl,zg _ _⟩
    ·rw [ze (by omega)]
     have q3:decide ((s.length:Int)<(k:Int))=true:=zc (by omega)
     have q4:decide (s.length<k)=true:=zc (by omega)
     unfold ju;clear hs h0 h1 h2
     first
      |replace aj:=aj
       go_enter func98,ntmps98
      |go_enter func124,ntmps124
     go_wp2_with ((first|replace aj:=aj;go_at_call 50|replace aG:=aG;go_at_call 56);(with_reducible refine(HZ.out _).q ?_))
     go_ret2
     exact⟨rfl,zg _ _⟩
   ·rw [ze (by omega)]
    have q2:decide (n<0)=true:=zc (by omega)
    unfold ju;clear hs h0 h1
    first
     |replace aj:=aj
      go_enter func98,ntmps98
     |go_enter func124,ntmps124
    go_wp2_with ((first|replace aj:=aj;go_at_call 50|replace aG:=aG;go_at_call 56);(with_reducible refine(HZ.out _).q ?_))
    go_ret2
    exact⟨rfl,zg _ _⟩
  ·rw [ze (by omega)]
   have q1:decide (i<0)=true:=zc (by omega)
   unfold ju;clear hs h0
   first
    |replace aj:=aj
     go_enter func98,ntmps98
    |go_enter func124,ntmps124
   go_wp2_with ((first|replace aj:=aj;go_at_call 50|replace aG:=aG;go_at_call 56);(with_reducible refine(HZ.out _).q ?_))
   go_ret2
   exact⟨rfl,zg _ _⟩
def adn:=xx.1
def ado:=xx.2
set_option maxHeartbeats 2000000
theorem DT(s t:List UInt8):Lib.join [s,t] []=s++t:=by simp [Lib.join]
theorem TH(g c:Nat)(s t:List UInt8)(hs:s.length≤65536)(ht:t.length≤65536)(hc:2≤c)(w:World)(h0:w.cell? ⟨g,0,none⟩=some (.string ⟨s.toArray⟩))(h1:w.cell? ⟨g,1,none⟩=some (.string ⟨t.toArray⟩)):Calls prog 96 #[.slice (some ⟨g,0,none⟩) 2 c] w (if s.length+t.length≤65536 then ju (s++t) 0 w else ju [] 2 w):=by
 have hS:=eA s;have hT:=eA t;have HA:=J (fun w=>kT s w)
 have HB:=J (fun w=>kT t w)
 rw [zc hs]at HA;rw [zc ht]at HB;have w1:wrap64 (0+(s.length:Int))=(s.length:Int):=by rw [Int.zero_add];exact zN _ (by omega)
 have w0:wrap64 (s.length:Int)=(s.length:Int):=zN _ (by omega)
 have w2:wrap64 ((s.length:Int)+(t.length:Int))=(s.length:Int)+(t.length:Int):=zN _ (by omega)
 have q1:decide ((65536:Int)<(s.length:Int))=false:=zb (by omega)
 have HJ:=J (show Calls prog 165 #[.slice (some ⟨g,0,none⟩) 2 c, .string ⟨#[]⟩] w fun e w'=>e= .returned (.string ⟨(s++t).toArray⟩)∧Below w.heap.size w w' by
  have h:=Tryz.strings_Join g 0 c [⟨s.toArray⟩,⟨t.toArray⟩] ⟨#[]⟩ w (fun j x hx=>by
   match j,hx with
   |0,hx=>obtain rfl:ByteArray.mk s.toArray=x:=by simpa using hx
          exact h0
   |1,hx=>obtain rfl:ByteArray.mk t.toArray=x:=by simpa using hx
          exact h1
   |j+2,hx=>simp at hx) (jj h0) (by simp) hc (by show(Lib.join [s,t] []).length≤_;rw [DT];simp;omega)
  rw [show Lib.join ([ByteArray.mk s.toArray,ByteArray.mk t.toArray].map (·.data.toList)) (ByteArray.mk #[]).data.toList=s++t from DT s t]at h
  exact h)
 generalize hu:s++t=u at *;clear hu
 by_cases hl:s.length+t.length≤65536
 have fD:=J (rfl:0=0)
 all_goals
  first
   |replace fD:=fD
    rw [zh hl];have q2:decide ((65536:Int)<(s.length:Int)+(t.length:Int))=false:=zb (by omega)
   |rw [ze hl]
    have q2:decide ((65536:Int)<(s.length:Int)+(t.length:Int))=true:=zc (by omega)
  unfold ju;clear hs ht hl;go_enter func96,ntmps96;go_wp2_with fail;refine Zi 3 ?_;rw [zI];go_wp2_with (go_at_call 50;(with_reducible refine(HA.out _).q ?_));rw [zI];go_wp2_with (go_at_call 50;(with_reducible refine(HB.out _).q ?_));rw [zI];go_wp2_with fail;refine Zi 3 ?_;rw [zI];go_wp2_with fail;rw [zI];go_wp2_with fail
  first
   |replace fD:=fD
    rw [zI];go_wp2_with (go_at_call 165;(with_reducible refine(HJ.out).mono ?_);rintro e w1 ⟨rfl,hb⟩;have HB:=J hb;clear hb)
   |skip
  go_ret2
  first
   |replace fD:=fD
    exact⟨rfl,HB.out⟩
   |exact⟨rfl,zg _ _⟩
theorem Nq{s t:List UInt8}{k:Nat}(h1:k<s.length)(h2:k<t.length):kR (s.drop k) (t.drop k)=if s.getD k 0<t.getD k 0 then -1 else if t.getD k 0<s.getD k 0 then 1 else kR (s.drop (k+1)) (t.drop (k+1)):=by
 rw [Zw h1,Zw h2];rw [ZX,ZX,zk h1,zk h2]
 rfl
theorem DU{s t:List UInt8}{k:Nat}(h1:k≤s.length)(h2:k≤t.length)(h3:k=s.length∨k=t.length):kR (s.drop k) (t.drop k)=if s.length<t.length then -1 else if t.length<s.length then 1 else 0:=by
 by_cases a:k<s.length<;>by_cases b:k<t.length
 ·omega
 ·rw [show t.drop k=[]from Zx (by omega),Zw a,ze (by omega),zh (by omega)];rfl
 ·rw [show s.drop k=[]from Zx (by omega),Zw b,zh (by omega)];rfl
 ·rw [show s.drop k=[]from Zx (by omega),show t.drop k=[]from Zx (by omega),ze (by omega),ze (by omega)];rfl
theorem acX(s t:List UInt8)(hs:s.length≤140737488355328)(ht:t.length≤140737488355328)(w:World):Calls prog 113 #[.string ⟨s.toArray⟩, .string ⟨t.toArray⟩] w fun e w'=>e= .returned (.int .i64 (kR s t))∧∃n,w'=w.drewN n:=by
 have hS:=eA s;have hT:=eA t;obtain⟨r,hr⟩: ∃r,kR s t=r:=⟨_,rfl⟩;rw [hr];have HR:=J hr;clear hr;go_enter func113,ntmps113;go_wp2_with fail
 go_loopw [5] (fun ix wr=>Hid (∃n,wr=w.drewN n)∧∃k:Nat,k≤s.length∧k≤t.length∧ix= .int .i64 (k:Int)∧Hid (kR (s.drop k) (t.drop k)=r)) (fun ix _=>s.length-(intOf ix).toNat)
 case atStart=>exact⟨J ⟨0,rfl⟩,0,zO _,zO _,rfl,J HR.out⟩
 case round=>
  obtain⟨HW,k,iP,hk2,rfl,HE⟩:=hrel;have AN:=J (fun m=>show∃n,wr.drewN m=w.drewN n by obtain⟨n,hn⟩:=HW.out;exact⟨n+m,by rw [hn,Im]⟩)
  clear HW
  rcases zj k s.length with h1|h1
  ·have p1:(k:Int)<(s.length:Int):=by omega
   rcases zj k t.length with h2|h2
   ·have p2:(k:Int)<(t.length:Int):=by omega
    have HD:=J ((Nq h1 h2).symm.trans HE.out);have ka:k<(ByteArray.mk s.toArray).size:=by rw [hS];exact h1
    have kb:k<(ByteArray.mk t.toArray).size:=by rw [hT];exact h2
    rw [←BS s k h1,←BS t k h2]at HD
    by_cases vU:(ByteArray.mk s.toArray)[k]'ka<(ByteArray.mk t.toArray)[k]'kb
    ·have HV:=J (show(-1:Int)=r by have:=HD.out;rw [zh vU]at this;exact this)
     have b1:decide (((ByteArray.mk s.toArray)[k]'ka).toNat<((ByteArray.mk t.toArray)[k]'kb).toNat)=true:=zc (UInt8.lt_iff_toNat_lt.1 vU);clear HD vU HE iP hk2;go_upto_region 4 with fail
     go_quiet (fail)
     go_wp2_with fail
     go_ret
     first|exact⟨by rw [←HV.out];rfl,AN.out _⟩|exact⟨by rw [←HV.out];rfl,abB AN.out _ _⟩
    ·have b1:decide (((ByteArray.mk s.toArray)[k]'ka).toNat<((ByteArray.mk t.toArray)[k]'kb).toNat)=false:=zb (fun h=>vU (UInt8.lt_iff_toNat_lt.2 h))
     by_cases U_:(ByteArray.mk t.toArray)[k]'kb<(ByteArray.mk s.toArray)[k]'ka
     have VC:=J (rfl:0=0)
     all_goals
      first
       |replace VC:=VC
        have HV:=J (show(1:Int)=r by have:=HD.out;rw [ze vU,zh U_]at this;exact this)
        have b2:decide (((ByteArray.mk t.toArray)[k]'kb).toNat<((ByteArray.mk s.toArray)[k]'ka).toNat)=true:=zc (UInt8.lt_iff_toNat_lt.1 U_);clear HD vU U_ HE iP hk2
       |have HV:=J (show kR (s.drop (k+1)) (t.drop (k+1))=r by have:=HD.out;rw [ze vU,ze U_]at this;exact this)
        have b2:decide (((ByteArray.mk t.toArray)[k]'kb).toNat<((ByteArray.mk s.toArray)[k]'ka).toNat)=false:=zb (fun h=>U_ (UInt8.lt_iff_toNat_lt.2 h))
        clear HD vU U_ HE
      go_upto_region 4 with fail
      go_quiet (fail)
      go_upto_region 6 with fail
      go_quiet (fail)
      go_wp2_with fail
      first
       |replace VC:=VC
        go_ret
        first|exact⟨by rw [←HV.out];rfl,AN.out _⟩|exact⟨by rw [←HV.out];rfl,abB AN.out _ _⟩
       |go_roundw
        case rel=>exact⟨J (by first|exact AN.out _|exact abB AN.out _ _),k+1,by omega,by omega,by go_num,HV⟩
        case measure=>simp [intOf];omega
   ·have HV:=J (show(if s.length<t.length then(-1:Int)else if t.length<s.length then 1 else 0)=r from(DU iP hk2 (by omega)).symm.trans HE.out)
    have p2: ¬(k:Int)<(t.length:Int):=by omega
    have b1:decide (s.length<t.length)=false:=zb (by omega)
    have b2:decide (t.length<s.length)=true:=zc (by omega)
    have HW:=J (show(1:Int)=r by have:=HV.out;rw [ze (by omega),zh (by omega)]at this;exact this)
    clear HE iP hk2 HV;go_wp2_with fail;go_ret;exact⟨by rw [←HW.out];rfl,AN.out 0⟩
  ·have HV:=J (show(if s.length<t.length then(-1:Int)else if t.length<s.length then 1 else 0)=r from(DU iP hk2 (by omega)).symm.trans HE.out)
   have p1: ¬(k:Int)<(s.length:Int):=by omega
   rcases zj s.length t.length with h2|h2
   focus
    have b1:decide (s.length<t.length)=true:=zc h2;have HW:=J (show(-1:Int)=r by have:=HV.out;rw [zh h2]at this;exact this)
   rotate_left
   focus
    have b1:decide (s.length<t.length)=false:=zb (by omega)
    have b2:decide (t.length<s.length)=false:=zb (by omega)
    have HW:=J (show(0:Int)=r by have:=HV.out;rw [ze (by omega),ze (by omega)]at this;exact this)
   all_goals
    clear HE iP hk2 HV;go_wp2_with fail;go_ret;exact⟨by rw [←HW.out];rfl,AN.out 0⟩
theorem acY:(prog.info? 5).map (fun i=>(i.zero,i.size,i.bytes))=some (some (.int .u8 0),1,1):=by kernel_rfl
theorem uU(s:List UInt8):Lib.strCells ⟨s.toArray⟩=s.map fun b=>Value.int .u8 b.toNat:=by simp [Lib.strCells]
theorem TI{w:World}{base:Nat}{v:Value}{l:List UInt8}(h:w.ownsRow base 5 1 v l.length (l.map fun b=>Value.int .u8 b.toNat)):(convert 180 9 v).run prog w= .ok (.string ⟨l.toArray⟩) w:=by
 rcases h.2 with⟨rfl,h0⟩|⟨g,cap,Co,rfl,_⟩
 ·have hl:l=[]:=List.eq_nil_of_length_eq_zero h0
  subst hl;exact run_convert_bytes_nil (P:=prog) w 180 5 underlying180 underlying5 0 0 9 underlying9
 ·refine run_convert_bytes_back (P:=prog) w 180 9 5 ⟨g,0,none⟩ cap l underlying180 underlying5 underlying9 (fun j hj=> ?_)
  exact h.cells (g:=g) rfl j _ (by rw [zT,zk hj];rfl)
theorem TJ(g c:Nat)(s t:List UInt8)(hs:s.length≤65536)(ht:t.length≤65536)(w:World)(h0:w.cell? ⟨g,0,none⟩=some (.string ⟨s.toArray⟩))(h1:w.cell? ⟨g,1,none⟩=some (.string ⟨t.toArray⟩)):Calls prog 122 #[.slice (some ⟨g,0,none⟩) 2 c] w (if s.length+t.length≤65536 then ju (s++t) 0 w else ju [] 2 w):=by
 have hS:=eA s;have hT:=eA t;have HA:=J (fun w=>jw s w)
 have HB:=J (fun w=>jw t w)
 rw [zc hs]at HA;rw [zc ht]at HB;have w0:wrap64 (s.length:Int)=(s.length:Int):=zN _ (by omega)
 have w1:wrap64 (0+(s.length:Int))=(s.length:Int):=by rw [Int.zero_add];exact zN _ (by omega)
 have w2:wrap64 ((s.length:Int)+(t.length:Int))=(s.length:Int)+(t.length:Int):=zN _ (by omega)
 have q1:decide ((65536:Int)<(s.length:Int))=false:=zb (by omega)
 obtain⟨i0,gF,gX,dw,eU⟩:=Zv acY;have Wg:=J (jj h0);have HS:=J hs;have HT:=J ht
 by_cases hl:s.length+t.length≤65536
 have fD:=J (rfl:0=0)
 all_goals
  first
   |replace fD:=fD
    rw [zh hl];have q2:decide ((65536:Int)<(s.length:Int)+(t.length:Int))=false:=zb (by omega)
   |rw [ze hl]
    have q2:decide ((65536:Int)<(s.length:Int)+(t.length:Int))=true:=zc (by omega)
  unfold ju;clear hs ht hl;go_enter func122,ntmps122;go_wp2_with fail;refine Zi 3 ?_;rw [zI];go_wp2_with (go_at_call 56;(with_reducible refine(HA.out _).q ?_));rw [zI];go_wp2_with (go_at_call 56;(with_reducible refine(HB.out _).q ?_));rw [zI];go_wp2_with fail;refine Zi 3 ?_;rw [zI];go_wp2_with (at_builtin;refine Lib.wpList_append_own_string _ rfl _ _ 180 9 rfl w.heap.size 5 i0 underlying180 underlying9 gF gX dw eU (.slice none 0 0) 0 [] rfl (ZE _ _ _ _) ⟨s.toArray⟩ rfl (by rw [hS];unfold maxLen;have:=HS.out;omega) (by rw [hS];have:=HS.out;omega) (za _) ?_;intro v1 w3 ho1 qC lj;have oi:=J ho1;have HG1:=J qC;clear ho1 qC lj)
  have Qa:w3.cell? ⟨g,1,none⟩=some (.string ⟨t.toArray⟩):=(World.grownBy.cell_far HG1.out ⟨g,1,none⟩ Wg.out (by intro e;cases e)).trans h1
  have rQ:=J (show Below w.heap.size w w3 from(zg _ _).grown HG1.out (za _) (fun j hj=>by cases hj))
  clear h0 h1 HG1;rw [zI]
  first
   |replace fD:=fD
    go_wp2_with (at_builtin;refine Lib.wpList_append_own_string _ rfl _ _ 180 9 rfl w.heap.size 5 i0 underlying180 underlying9 gF gX dw eU v1 _ _ rfl oi.out ⟨t.toArray⟩ rfl (by rw [hS,hT];unfold maxLen;have:=HS.out;have:=HT.out;omega) (by rw [hS,hT];have:=HS.out;have:=HT.out;omega) rQ.out.size ?_;intro v2 w4 JZ xX gW;have rR:=J JZ;have ce:=J (rQ.out.grown xX rQ.out.size (fun j hj=>(zr oi.out j hj).1));clear JZ xX gW)
    have hcv:=TI (w:=w4) (base:=w.heap.size) (v:=v2) (l:=s++t) (by
     have h:=rR.out;rw [hS,hT,uU,uU,Ih,List.nil_append,←List.map_append]at h
     rwa [zS])
    rw [zI]
   |skip
  go_wp2_with fail
  go_ret2
  first
   |replace fD:=fD
    exact⟨rfl,ce.out⟩
   |exact⟨rfl,rQ.out⟩
set_option maxHeartbeats 6000000
theorem NZ(n:Int)(w:World):Calls prog 52 #[.string ⟨#[114,101,97,108]⟩, .int .i64 n] w (aq (.real (aw (Bc n))) w):=by
 have HI:=J (fun w=>XY n w)
 have HT:=J (fun x w=>iY x w)
 generalize Bc n=q at *;unfold aq at *
 cases p0:decide (0≤n)<;>cases p1:decide (n≤255)
 all_goals
  go_enter func52,ntmps52;go_wp2_with (first|(go_at_call 93;(with_reducible refine(HI.out _).q ?_))|(go_at_call 33;(with_reducible refine(HT.out q _).mono ?_);rintro e w1 ⟨rfl,hb⟩;have BX:=J ((ai.new w 38 bC).below hb (by simp));have HB:=J (((zg w.heap.size w).alloc (za _) (.cells bC 38)).trans (hb.mono (by simp)));obtain⟨c0,c1,c2,c3,c4,c5,c6,c7,c8,c9,c10⟩:=ah BX.out;obtain⟨f0,f1,f2,f3,f4,f5,f6,f7,f8,f9,ox⟩:=aO BX.out;clear hb))
  obtain⟨z0,z1,z2,z3,z4,z5,z6,z7,z8,z9,cF⟩:=ah (aK (r:= .real (aw q)) BX.out);unfold cD at z0 z1 z2 z3 z4 z5 z6 z7 z8 z9 cF;refine zi (v:=eM (.real (aw q))) (by simp [results,results52,go_sem,z0,z1,z2,z3,z4,z5,z6,z7,z8,z9,cF]) rfl ⟨rfl,au HB.out (za _)⟩
theorem N0(n:Int)(hn:ax n=true)(w:World)(hE:gV w):Calls prog 52 #[.string ⟨#[105,110,116,84,101,120,116]⟩, .int .i64 n] w (aq (.str (qq n)) w):=by
 have HI:=J (Pu n hn (w.alloc (.cells bC 38)) (hE.alloc _));have HT:=J (fun x w=>mO x w)
 generalize qq n=q at *;unfold aq ju at *;clear hn hE
 cases p0:decide (0≤n)<;>cases p1:decide (n≤255)
 all_goals
  go_enter func52,ntmps52;go_wp2_with (first|(go_at_call 94;(with_reducible refine(HI.out).mono ?_);rintro e w1 ⟨rfl,hb⟩;have rJ:=J ((ai.new w 38 bC).below hb (by simp));have bp:=J (((zg w.heap.size w).alloc (za _) (.cells bC 38)).trans (hb.mono (by simp)));clear hb)|(go_at_call 42;(with_reducible refine(HT.out q _).mono ?_);rintro e w2 ⟨rfl,hb⟩;have BX:=J (rJ.out.below hb rJ.out.lt);have HB:=J (bp.out.trans (hb.mono bp.out.size));obtain⟨c0,c1,c2,c3,c4,c5,c6,c7,c8,c9,c10⟩:=ah BX.out;obtain⟨f0,f1,f2,f3,f4,f5,f6,f7,f8,f9,ox⟩:=aO BX.out;clear hb))
  obtain⟨z0,z1,z2,z3,z4,z5,z6,z7,z8,z9,cF⟩:=ah (aK (r:= .str q) BX.out);unfold cD at z0 z1 z2 z3 z4 z5 z6 z7 z8 z9 cF;refine zi (v:=eM (.str q)) (by simp [results,results52,go_sem,z0,z1,z2,z3,z4,z5,z6,z7,z8,z9,cF]) rfl ⟨rfl,au HB.out (za _)⟩
theorem sK(n:Int)(h0:0≤n)(h1:n≤255)(w:World):(Calls prog 52 #[.string ⟨#[111,114,100]⟩, .int .i64 n] w (aq (.int n) w))∧(Calls prog 52 #[.string ⟨#[99,104,114]⟩, .int .i64 n] w (aq (.int n) w)):=by
 refine⟨?_,?_⟩
 all_goals
  have HT:=J (fun x w=>kS x w)
  have p0:=zc h0;have p1:=zc h1;unfold aq at *;clear h0 h1;go_enter func52,ntmps52;go_wp2_with (go_at_call 73;(with_reducible refine(HT.out n _).mono ?_);rintro e w1 ⟨rfl,hb⟩;have BX:=J ((ai.new w 38 bC).below hb (by simp));have HB:=J (((zg w.heap.size w).alloc (za _) (.cells bC 38)).trans (hb.mono (by simp)));obtain⟨c0,c1,c2,c3,c4,c5,c6,c7,c8,c9,c10⟩:=ah BX.out;obtain⟨f0,f1,f2,f3,f4,f5,f6,f7,f8,f9,ox⟩:=aO BX.out;clear hb)
  obtain⟨z0,z1,z2,z3,z4,z5,z6,z7,z8,z9,cF⟩:=ah (aK (r:= .int n) BX.out);unfold cD at z0 z1 z2 z3 z4 z5 z6 z7 z8 z9 cF;refine zi (v:=eM (.int n)) (by simp [results,results52,go_sem,z0,z1,z2,z3,z4,z5,z6,z7,z8,z9,cF]) rfl ⟨rfl,au HB.out (za _)⟩
def Ul a b c d:=(sK a b c d).1
def Um a b c d:=(sK a b c d).2
theorem Un(n:Int)(h0:0≤n)(h1:n≤255)(w:World):Calls prog 52 #[.string ⟨#[115,116,114]⟩, .int .i64 n] w (aq (.str [UInt8.ofNat n.toNat]) w):=by
 have HI:=J (fun w=>Us n h0 h1 w)
 have HT:=J (fun x w=>mO x w)
 have p0:=zc h0;have p1:=zc h1;generalize [UInt8.ofNat n.toNat]=q at *;unfold aq ju at *;clear h0 h1;go_enter func52,ntmps52;go_wp2_with (first|(go_at_call 95;(with_reducible refine(HI.out _).mono ?_);rintro e w1 ⟨rfl,hb⟩;have rJ:=J ((ai.new w 38 bC).below hb (by simp));have bp:=J (((zg w.heap.size w).alloc (za _) (.cells bC 38)).trans (hb.mono (by simp)));clear hb)|(go_at_call 42;(with_reducible refine(HT.out q _).mono ?_);rintro e w2 ⟨rfl,hb⟩;have BX:=J (rJ.out.below hb rJ.out.lt);have HB:=J (bp.out.trans (hb.mono bp.out.size));obtain⟨c0,c1,c2,c3,c4,c5,c6,c7,c8,c9,c10⟩:=ah BX.out;obtain⟨f0,f1,f2,f3,f4,f5,f6,f7,f8,f9,ox⟩:=aO BX.out;clear hb))
 obtain⟨z0,z1,z2,z3,z4,z5,z6,z7,z8,z9,cF⟩:=ah (aK (r:= .str q) BX.out);unfold cD at z0 z1 z2 z3 z4 z5 z6 z7 z8 z9 cF;refine zi (v:=eM (.str q)) (by simp [results,results52,go_sem,z0,z1,z2,z3,z4,z5,z6,z7,z8,z9,cF]) rfl ⟨rfl,au HB.out (za _)⟩
theorem Yz(S:List UInt8)(hS:S≠[114,101,97,108]∧S≠[105,110,116,84,101,120,116]∧S≠[111,114,100]∧S≠[115,116,114]∧S≠[99,104,114])(n:Int)(w:World):Calls prog 52 #[.string ⟨S.toArray⟩, .int .i64 n] w (aq (.no) w):=by
 have s0:(S==[114,101,97,108])=false:=zf.2 hS.1;have s1:(S==[105,110,116,84,101,120,116])=false:=zf.2 hS.2.1;have s2:(S==[111,114,100])=false:=zf.2 hS.2.2.1;have s3:(S==[115,116,114])=false:=zf.2 hS.2.2.2.1;have s4:(S==[99,104,114])=false:=zf.2 hS.2.2.2.2;unfold aq;clear hS
 cases p0:decide (0≤n)<;>cases p1:decide (n≤255)
 all_goals
  go_enter func52,ntmps52;go_wp2_with fail;refine zi (v:= .agg #[.int .i64 0, .int .i64 0, .int .i64 0, .int .i64 0, .int .u64 0, .string ⟨#[]⟩, .slice none 0 0, .slice none 0 0, .slice none 0 0, .int .i64 0, .bool false]) (by simp [results,results52,go_sem]) rfl ⟨rfl,?_⟩
  repeat (first|exact(zg _ _).alloc (za _) _|refine Z8 ?_ (by simp) _)
theorem me(n:Int)(hx: ¬(0≤n∧n≤255))(w:World):(Calls prog 52 #[.string ⟨#[99,104,114]⟩, .int .i64 n] w (aq (.raise 2) w))∧(Calls prog 52 #[.string ⟨#[111,114,100]⟩, .int .i64 n] w (aq (.no) w))∧(Calls prog 52 #[.string ⟨#[115,116,114]⟩, .int .i64 n] w (aq (.no) w)):=by
 refine⟨?_,?_,?_⟩;have aj:=J (rfl:0=0)
 all_goals
  unfold aq
  cases p0:decide (0≤n)<;>cases p1:decide (n≤255)
  all_goals
   first
    |(exact absurd p1 (by have h1:=Zq p0;have h2:=Zq p1;omega))
    |skip
  all_goals
   go_enter func52,ntmps52;go_wp2_with fail
   first
    |replace aj:=aj
     refine zi (v:= .agg #[.int .i64 0, .int .i64 0, .int .i64 0, .int .i64 0, .int .u64 0, .string ⟨#[]⟩, .slice none 0 0, .slice none 0 0, .slice none 0 0, .int .i64 2, .bool true]) (by simp [results,results52,go_sem]) rfl ⟨rfl,?_⟩
    |refine zi (v:= .agg #[.int .i64 0, .int .i64 0, .int .i64 0, .int .i64 0, .int .u64 0, .string ⟨#[]⟩, .slice none 0 0, .slice none 0 0, .slice none 0 0, .int .i64 0, .bool false]) (by simp [results,results52,go_sem]) rfl ⟨rfl,?_⟩
   repeat (first|exact(zg _ _).alloc (za _) _|refine Z8 ?_ (by simp) _)
def N3 a b c:=(me a b c).1
def N4 a b c:=(me a b c).2.1
def N6 a b c:=(me a b c).2.2
theorem Uo(S:List UInt8)(n:Int)(hn:ax n=true)(w:World)(hE:gV w):Calls prog 52 #[.string ⟨S.toArray⟩, .int .i64 n] w (aq (oU S n) w):=by
 unfold oU
 by_cases hc:0≤n∧n≤255
 have fD:=J (rfl:0=0)
 all_goals
  first
   |replace fD:=fD
    simp only [zc hc.1,zc hc.2,Bool.and_self,and_true]
   |have hf:(decide (0≤n)&&decide (n≤255))=false:=by
     rw [←Bool.not_eq_true,Zm,Zb,Zb];exact hc
    simp only [hf,zJ,and_false,ZD]
  by_cases s0:S=[114,101,97,108]
  ·subst s0;rw [zh rfl];exact NZ n w
  rw [ze s0]
  by_cases s1:S=[105,110,116,84,101,120,116]
  ·subst s1;rw [zh rfl];exact N0 n hn w hE
  rw [ze s1]
  first
   |replace fD:=fD
   |by_cases s4:S=[99,104,114]
    ·subst s4;rw [zh rfl];exact N3 n hc w
    rw [ze s4]
  by_cases s2:S=[111,114,100]
  first
   |replace fD:=fD
    ·subst s2;rw [zh rfl];exact Ul n hc.1 hc.2 w
    rw [ze s2]
   | ·subst s2;exact N4 n hc w
  by_cases s3:S=[115,116,114]
  first
   |replace fD:=fD
    ·subst s3;rw [zh rfl];exact Un n hc.1 hc.2 w
    rw [ze s3]
    by_cases s4:S=[99,104,114]
    ·subst s4;rw [zh rfl];exact Um n hc.1 hc.2 w
    rw [ze s4,ze s4]
   | ·subst s3;exact N6 n hc w
  exact Yz S ⟨s0,s1,s2,s3,s4⟩ n w
end Go.Proofs.YtcpmiplofbfmfaaGreatDoor
