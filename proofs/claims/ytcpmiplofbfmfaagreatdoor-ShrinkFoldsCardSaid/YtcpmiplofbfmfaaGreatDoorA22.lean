/- Walks of the library's shortest decimal: its text with an ex -/
import Derived.Test.YtcpmiplofbfmfaaGreatDoorA21
import Derived.Lib.Replace
import Derived.Lib.Atoi
import Derived.Test.YtcpmiplofbfmfaaGreatDoorA20
set_option linter.all false
set_option maxRecDepth 100000
set_option maxHeartbeats 9600000
namespace Go.Proofs.YtcpmiplofbfmfaaGreatDoor
open Go.Proofs.Tryz
open Lib renaming hid→J
open Go.RowKit FloM
def lI(e:Nat):List UInt8:=
 if e<10 then [UInt8.ofNat 48,UInt8.ofNat (48+e)]else if e<100 then [UInt8.ofNat (48+e/10),UInt8.ofNat (48+e%10)]
 else [UInt8.ofNat (48+e/100),UInt8.ofNat (48+e/10%10),UInt8.ofNat (48+e%10)]
def ct(c:UInt8)(T:List UInt8)(fV:Bool)(e:Nat):List UInt8:=
 [c]++(if T=[]then []else [46]++T)++[101]++[if fV then 45 else 43]++lI e
theorem sA(x:Int)(n:Nat)(h:x=(n:Int))(hn:n<256):Value.int .u8 x=gS (UInt8.ofNat n):=by
 subst h;unfold gS;rw [UInt8.toNat_ofNat',zA (show n<2^8 by omega)]
theorem af1{x y:Int}{a b:Nat}(hx:x=(a:Int))(hy:y=(b:Int))(ha:a<256)(hb:b<256):[Value.int .u8 x,Value.int .u8 y]=[UInt8.ofNat a,UInt8.ofNat b].map gS:=by
 rw [List.map_cons,List.map_cons,List.map_nil,sA x a hx ha,sA y b hy hb]
theorem af2{x y z:Int}{a b c:Nat}(hx:x=(a:Int))(hy:y=(b:Int))(hz:z=(c:Int))(ha:a<256)(hb:b<256)(hc:c<256):[Value.int .u8 x,Value.int .u8 y,Value.int .u8 z]=[UInt8.ofNat a,UInt8.ofNat b,UInt8.ofNat c].map gS:=by
 rw [List.map_cons,List.map_cons,List.map_cons,List.map_nil,sA x a hx ha,sA y b hy hb,sA z c hz hc]
def uO(B0:Nat)(w0:World)(X:List UInt8)(e:Ending)(w':World):Prop:= ∃v',e= .returned v'∧lh B0 w0 w' v' X
abbrev er(B0:Nat)(w0 w:World)(v:Value)(B:Nat)(dp:Int)(n:Nat)(c:UInt8)(T:List UInt8)(ex:Nat):Prop:=Calls prog 267 #[v, .bool false, .slice (some ⟨B,0,none⟩) 32 32, .int .i64 dp, .int .i64 ((n+2:Nat):Int), .int .i64 ((n+1:Nat):Int), .int .u8 101, .bool true] w (uO B0 w0 (ct c T false ex))
abbrev eu(B0:Nat)(w0 w:World)(v:Value)(B:Nat)(dp:Int)(n:Nat)(c:UInt8)(T:List UInt8)(ex:Nat):Prop:=Calls prog 267 #[v, .bool false, .slice (some ⟨B,0,none⟩) 32 32, .int .i64 dp, .int .i64 ((n+2:Nat):Int), .int .i64 ((n+1:Nat):Int), .int .u8 101, .bool true] w (uO B0 w0 (ct c T true ex))
theorem de(B0:Nat)(w0 w:World)(v:Value)(B:Nat)(t:TypeId)(cs:Array Value)(dp:Int)(n:Nat)(c:UInt8)(T:List UInt8)(ex:Nat)(iG:lh B0 w0 w v [])(hB:ai w B t cs)(ht:5≠t)(hL:T.length=n+1)(hn:n≤20)(s_: ∀(j:Nat) (u:UInt8),T[j]? =some u→cs[1+j]? =some (gS u))(hc:cs[0]? =some (gS c)):(∀(qb:(ex:Int)= -(dp-1)) (xK:1≤ex) (hr:ex<10),eu B0 w0 w v B dp n c T ex)∧(∀(qb:(ex:Int)= -(dp-1)) (rM:1≤ex) (hr:10≤ex∧ex<100),eu B0 w0 w v B dp n c T ex)∧(∀(qb:(ex:Int)= -(dp-1)) (rM:1≤ex) (hr:100≤ex∧ex<1000),eu B0 w0 w v B dp n c T ex)∧(∀(qb:(ex:Int)=dp-1) (xK:0≤ex) (hr:ex<10),er B0 w0 w v B dp n c T ex)∧(∀(qb:(ex:Int)=dp-1) (rM:0≤ex) (hr:10≤ex∧ex<100),er B0 w0 w v B dp n c T ex)∧(∀(qb:(ex:Int)=dp-1) (rM:0≤ex) (hr:100≤ex∧ex<1000),er B0 w0 w v B dp n c T ex):=by
 unfold er eu;refine⟨?_,?_,?_,?_,?_,?_⟩;intro qb xK hr;have aj:=J (rfl:0=0)
 rotate_left;intro qb rM hr;have aG:=J (rfl:0=0)
 rotate_left;intro qb rM hr;have aP:=J (rfl:0=0)
 rotate_left;intro qb xK hr;have bk:=J (rfl:0=0)
 rotate_left;intro qb rM hr;have bz:=J (rfl:0=0)
 rotate_left;intro qb rM hr;have cE:=J (rfl:0=0)
 all_goals
  first
   |replace aj:=aj
    have hX:ct c T true ex=[]++[c]++[46]++T++[101]++[45]++[UInt8.ofNat 48,UInt8.ofNat (48+ex)]:=by
     unfold ct lI;rw [zh hr];rw [ze (show¬T=[]by rintro rfl;simp at hL)];simp
   |replace bk:=bk
    have hX:ct c T false ex=[]++[c]++[46]++T++[101]++[43]++[UInt8.ofNat 48,UInt8.ofNat (48+ex)]:=by
     unfold ct lI;rw [zh hr];rw [ze (show¬T=[]by rintro rfl;simp at hL)];simp
   |replace aG:=aG
    have hX:ct c T true ex=[]++[c]++[46]++T++[101]++[45]++[UInt8.ofNat (48+ex/10),UInt8.ofNat (48+ex%10)]:=by
     unfold ct lI;rw [ze (show¬ex<10 by omega),zh hr.2]
     rw [ze (show¬T=[]by rintro rfl;simp at hL)];simp
   |replace bz:=bz
    have hX:ct c T false ex=[]++[c]++[46]++T++[101]++[43]++[UInt8.ofNat (48+ex/10),UInt8.ofNat (48+ex%10)]:=by
     unfold ct lI;rw [ze (show¬ex<10 by omega),zh hr.2]
     rw [ze (show¬T=[]by rintro rfl;simp at hL)];simp
   |replace aP:=aP
    have hX:ct c T true ex=[]++[c]++[46]++T++[101]++[45]++[UInt8.ofNat (48+ex/100),UInt8.ofNat (48+ex/10%10),UInt8.ofNat (48+ex%10)]:=by
     unfold ct lI;rw [ze (show¬ex<10 by omega),ze (show¬ex<100 by omega)]
     rw [ze (show¬T=[]by rintro rfl;simp at hL)];simp
   |have hX:ct c T false ex=[]++[c]++[46]++T++[101]++[43]++[UInt8.ofNat (48+ex/100),UInt8.ofNat (48+ex/10%10),UInt8.ofNat (48+ex%10)]:=by
     unfold ct lI;rw [ze (show¬ex<10 by omega),ze (show¬ex<100 by omega)]
     rw [ze (show¬T=[]by rintro rfl;simp at hL)];simp
  rw [hX];have eb:w.cell? ⟨B,0,none⟩=some (.int .u8 (c.toNat:Int)):=(hB.cell 0).trans hc;have bi:=J iG;have QV:=J hB;have HD:=J qb
  first
   |replace aj:=aj
    have Vx:(ex:Int)≤ -(dp-1):=by omega
    have Vw: -(dp-1)≤(ex:Int):=by omega
   |(first|replace aG:=aG|replace aP:=aP)
    have Vx:(ex:Int)≤ -(dp-1):=by omega
    have Vw: -(dp-1)≤(ex:Int):=by omega
    have e1:dp-1= -(ex:Int):=by omega
    have d10:(dp-1).tdiv 10= -((ex/10:Nat):Int):=by rw [e1,Int.neg_tdiv,ZH (by omega)];omega
    have m10:(dp-1).tmod 10= -((ex%10:Nat):Int):=by rw [e1,Int.neg_tmod,Int.tmod_eq_emod_of_nonneg (by omega)];omega
    have ali:(dp-1).tdiv 100= -((ex/100:Nat):Int):=by rw [e1,Int.neg_tdiv,ZH (by omega)];omega
    clear e1
   |have Vx:(ex:Int)≤dp-1:=by omega
    have Vw:dp-1≤(ex:Int):=by omega
  have HC:=J s_;have HL:=J hL;have JR:(((n+2:Nat):Int)==0)=false:=by rw [zf];omega
  have pt:min ((n:Int)+2) ((n:Int)+1+1)=(n:Int)+2:=by omega
  clear hL s_;clear iG hB hc qb hX;go_enter func267,ntmps267;go_wp2_with (first|(at_builtin;refine lh.step bi.out QV.out ht _ [c] ?_ ?_ ?_ ?_ ?_;exact rfl;(simp);exact rfl;exact rfl;intro v1 w1 cT iP;have bp:=J cT;have Cc:=J iP;clear cT iP)|(at_builtin;refine lh.step bp.out Cc.out ht _ [46] ?_ ?_ ?_ ?_ ?_;exact rfl;(simp);exact rfl;exact rfl;intro v2 w2 cB hk2;have bM:=J cB;have ot:=J hk2;clear cB hk2)|(at_builtin;refine lh.stepOf bM.out ot.out ht 1 31 T HC.out ?_ ?_ ?_ ?_;(simp [HL.out];omega);exact rfl;(rw [HL.out];exact rfl);intro v3 w3 kZ hk3;have dF:=J kZ;have Qg:=J hk3;clear kZ hk3))
  refine Zi 1 ?_;rw [zI];go_wp2_with (first|(at_builtin;refine lh.step dF.out Qg.out ht _ [101] ?_ ?_ ?_ ?_ ?_;exact rfl;(simp [HL.out];omega);exact rfl;exact rfl;intro v4 w4 k6 hk4;have ce:=J k6;have HK4:=J hk4;clear k6 hk4)|(at_builtin;(first|(first|replace aj:=aj|replace aG:=aG|replace aP:=aP);refine lh.step ce.out HK4.out ht _ [45] ?_ ?_ ?_ ?_ ?_|(first|replace bk:=bk|replace bz:=bz|replace cE:=cE);refine lh.step ce.out HK4.out ht _ [43] ?_ ?_ ?_ ?_ ?_);exact rfl;(simp [HL.out];omega);exact rfl;exact rfl;intro v5 w5 lq hk5;have fE:=J lq;have HK5:=J hk5;clear lq hk5)|(at_builtin;(first|(first|replace aj:=aj|replace bk:=bk);refine lh.step fE.out HK5.out ht _ [UInt8.ofNat 48,UInt8.ofNat (48+ex)] ?_ ?_ ?_ ?_ ?_|(first|replace aG:=aG|replace bz:=bz);refine lh.step fE.out HK5.out ht _ [UInt8.ofNat (48+ex/10),UInt8.ofNat (48+ex%10)] ?_ ?_ ?_ ?_ ?_|(first|replace aP:=aP|replace cE:=cE);refine lh.step fE.out HK5.out ht _ [UInt8.ofNat (48+ex/100),UInt8.ofNat (48+ex/10%10),UInt8.ofNat (48+ex%10)] ?_ ?_ ?_ ?_ ?_);(have hd:=HD.out;(first|(first|replace aP:=aP|replace cE:=cE);exact af2 (by omega) (by omega) (by omega) (by omega) (by omega) (by omega)|(first|replace aj:=aj|replace aG:=aG|replace bk:=bk|replace bz:=bz);exact af1 (by omega) (by omega) (by omega) (by omega)));(simp [HL.out];omega);exact rfl;exact rfl;intro v6 w6 JV hk6;have lS:=J JV;have HK6:=J hk6;clear JV hk6))
  go_ret;exact⟨_,rfl,lS.out⟩
def yi a b c d e f g h i j k l m n o p q r s:=(de a b c d e f g h i j k l m n o p q r s).1
def yj a b c d e f g h i j k l m n o p q r s:=(de a b c d e f g h i j k l m n o p q r s).2.1
def yk a b c d e f g h i j k l m n o p q r s:=(de a b c d e f g h i j k l m n o p q r s).2.2.1
def yl a b c d e f g h i j k l m n o p q r s:=(de a b c d e f g h i j k l m n o p q r s).2.2.2.1
def ym a b c d e f g h i j k l m n o p q r s:=(de a b c d e f g h i j k l m n o p q r s).2.2.2.2.1
def yn a b c d e f g h i j k l m n o p q r s:=(de a b c d e f g h i j k l m n o p q r s).2.2.2.2.2
theorem yo(B0:Nat)(w0 w:World)(v:Value)(B:Nat)(t:TypeId)(cs:Array Value)(dp:Int)(c:UInt8)(ex:Nat)(iG:lh B0 w0 w v [])(hB:ai w B t cs)(ht:5≠t)(hc:cs[0]? =some (gS c))(qb:(ex:Int)= -(dp-1))(xK:1≤ex)(hr:ex<10):Calls prog 267 #[v, .bool false, .slice (some ⟨B,0,none⟩) 32 32, .int .i64 dp, .int .i64 1, .int .i64 0, .int .u8 101, .bool true] w (uO B0 w0 (ct c [] true ex)):=by
 have hX:ct c [] true ex=[]++[c]++[101]++[45]++[UInt8.ofNat 48,UInt8.ofNat (48+ex)]:=by
  unfold ct lI;rw [zh hr];rw [zh rfl];simp
 rw [hX];have eb:w.cell? ⟨B,0,none⟩=some (.int .u8 (c.toNat:Int)):=(hB.cell 0).trans hc;have bi:=J iG;have QV:=J hB;have HD:=J qb;have Vx:(ex:Int)≤ -(dp-1):=by omega
 have Vw: -(dp-1)≤(ex:Int):=by omega
 clear iG hB hc qb hX;go_enter func267,ntmps267;go_wp2_with (first|(at_builtin;refine lh.step bi.out QV.out ht _ [c] ?_ ?_ ?_ ?_ ?_;exact rfl;(simp);exact rfl;exact rfl;intro v1 w1 cT iP;have bp:=J cT;have Cc:=J iP;clear cT iP)|(at_builtin;refine lh.step bp.out Cc.out ht _ [101] ?_ ?_ ?_ ?_ ?_;exact rfl;(simp);exact rfl;exact rfl;intro v2 w2 cB hk2;have bM:=J cB;have ot:=J hk2;clear cB hk2)|(at_builtin;refine lh.step bM.out ot.out ht _ [45] ?_ ?_ ?_ ?_ ?_;exact rfl;(simp);exact rfl;exact rfl;intro v3 w3 kZ hk3;have dF:=J kZ;have Qg:=J hk3;clear kZ hk3)|(at_builtin;refine lh.step dF.out Qg.out ht _ [UInt8.ofNat 48,UInt8.ofNat (48+ex)] ?_ ?_ ?_ ?_ ?_;(have hd:=HD.out;exact af1 (by omega) (by omega) (by omega) (by omega));(simp);exact rfl;exact rfl;intro v4 w4 k6 hk4;have ce:=J k6;have HK4:=J hk4;clear k6 hk4))
 go_ret;exact⟨_,rfl,ce.out⟩
theorem yp(B0:Nat)(w0 w:World)(v:Value)(B:Nat)(t:TypeId)(cs:Array Value)(dp:Int)(c:UInt8)(ex:Nat)(iG:lh B0 w0 w v [])(hB:ai w B t cs)(ht:5≠t)(hc:cs[0]? =some (gS c))(qb:(ex:Int)= -(dp-1))(rM:1≤ex)(hr:10≤ex∧ex<100):Calls prog 267 #[v, .bool false, .slice (some ⟨B,0,none⟩) 32 32, .int .i64 dp, .int .i64 1, .int .i64 0, .int .u8 101, .bool true] w (uO B0 w0 (ct c [] true ex)):=by
 have hX:ct c [] true ex=[]++[c]++[101]++[45]++[UInt8.ofNat (48+ex/10),UInt8.ofNat (48+ex%10)]:=by
  unfold ct lI;rw [ze (show¬ex<10 by omega),zh hr.2]
  rw [zh rfl];simp
 rw [hX];have eb:w.cell? ⟨B,0,none⟩=some (.int .u8 (c.toNat:Int)):=(hB.cell 0).trans hc;have bi:=J iG;have QV:=J hB;have HD:=J qb;have Vx:(ex:Int)≤ -(dp-1):=by omega
 have Vw: -(dp-1)≤(ex:Int):=by omega
 have e1:dp-1= -(ex:Int):=by omega
 have d10:(dp-1).tdiv 10= -((ex/10:Nat):Int):=by rw [e1,Int.neg_tdiv,ZH (by omega)];omega
 have m10:(dp-1).tmod 10= -((ex%10:Nat):Int):=by rw [e1,Int.neg_tmod,Int.tmod_eq_emod_of_nonneg (by omega)];omega
 have ali:(dp-1).tdiv 100= -((ex/100:Nat):Int):=by rw [e1,Int.neg_tdiv,ZH (by omega)];omega
 clear e1;clear iG hB hc qb hX;go_enter func267,ntmps267;go_wp2_with (first|(at_builtin;refine lh.step bi.out QV.out ht _ [c] ?_ ?_ ?_ ?_ ?_;exact rfl;(simp);exact rfl;exact rfl;intro v1 w1 cT iP;have bp:=J cT;have Cc:=J iP;clear cT iP)|(at_builtin;refine lh.step bp.out Cc.out ht _ [101] ?_ ?_ ?_ ?_ ?_;exact rfl;(simp);exact rfl;exact rfl;intro v2 w2 cB hk2;have bM:=J cB;have ot:=J hk2;clear cB hk2)|(at_builtin;refine lh.step bM.out ot.out ht _ [45] ?_ ?_ ?_ ?_ ?_;exact rfl;(simp);exact rfl;exact rfl;intro v3 w3 kZ hk3;have dF:=J kZ;have Qg:=J hk3;clear kZ hk3)|(at_builtin;refine lh.step dF.out Qg.out ht _ [UInt8.ofNat (48+ex/10),UInt8.ofNat (48+ex%10)] ?_ ?_ ?_ ?_ ?_;(have hd:=HD.out;exact af1 (by omega) (by omega) (by omega) (by omega));(simp);exact rfl;exact rfl;intro v4 w4 k6 hk4;have ce:=J k6;have HK4:=J hk4;clear k6 hk4))
 go_ret;exact⟨_,rfl,ce.out⟩
theorem yq(B0:Nat)(w0 w:World)(v:Value)(B:Nat)(t:TypeId)(cs:Array Value)(dp:Int)(c:UInt8)(ex:Nat)(iG:lh B0 w0 w v [])(hB:ai w B t cs)(ht:5≠t)(hc:cs[0]? =some (gS c))(qb:(ex:Int)= -(dp-1))(rM:1≤ex)(hr:100≤ex∧ex<1000):Calls prog 267 #[v, .bool false, .slice (some ⟨B,0,none⟩) 32 32, .int .i64 dp, .int .i64 1, .int .i64 0, .int .u8 101, .bool true] w (uO B0 w0 (ct c [] true ex)):=by
 have hX:ct c [] true ex=[]++[c]++[101]++[45]++[UInt8.ofNat (48+ex/100),UInt8.ofNat (48+ex/10%10),UInt8.ofNat (48+ex%10)]:=by
  unfold ct lI;rw [ze (show¬ex<10 by omega),ze (show¬ex<100 by omega)]
  rw [zh rfl];simp
 rw [hX];have eb:w.cell? ⟨B,0,none⟩=some (.int .u8 (c.toNat:Int)):=(hB.cell 0).trans hc;have bi:=J iG;have QV:=J hB;have HD:=J qb;have Vx:(ex:Int)≤ -(dp-1):=by omega
 have Vw: -(dp-1)≤(ex:Int):=by omega
 have e1:dp-1= -(ex:Int):=by omega
 have d10:(dp-1).tdiv 10= -((ex/10:Nat):Int):=by rw [e1,Int.neg_tdiv,ZH (by omega)];omega
 have m10:(dp-1).tmod 10= -((ex%10:Nat):Int):=by rw [e1,Int.neg_tmod,Int.tmod_eq_emod_of_nonneg (by omega)];omega
 have ali:(dp-1).tdiv 100= -((ex/100:Nat):Int):=by rw [e1,Int.neg_tdiv,ZH (by omega)];omega
 clear e1;clear iG hB hc qb hX;go_enter func267,ntmps267;go_wp2_with (first|(at_builtin;refine lh.step bi.out QV.out ht _ [c] ?_ ?_ ?_ ?_ ?_;exact rfl;(simp);exact rfl;exact rfl;intro v1 w1 cT iP;have bp:=J cT;have Cc:=J iP;clear cT iP)|(at_builtin;refine lh.step bp.out Cc.out ht _ [101] ?_ ?_ ?_ ?_ ?_;exact rfl;(simp);exact rfl;exact rfl;intro v2 w2 cB hk2;have bM:=J cB;have ot:=J hk2;clear cB hk2)|(at_builtin;refine lh.step bM.out ot.out ht _ [45] ?_ ?_ ?_ ?_ ?_;exact rfl;(simp);exact rfl;exact rfl;intro v3 w3 kZ hk3;have dF:=J kZ;have Qg:=J hk3;clear kZ hk3)|(at_builtin;refine lh.step dF.out Qg.out ht _ [UInt8.ofNat (48+ex/100),UInt8.ofNat (48+ex/10%10),UInt8.ofNat (48+ex%10)] ?_ ?_ ?_ ?_ ?_;(have hd:=HD.out;exact af2 (by omega) (by omega) (by omega) (by omega) (by omega) (by omega));(simp);exact rfl;exact rfl;intro v4 w4 k6 hk4;have ce:=J k6;have HK4:=J hk4;clear k6 hk4))
 go_ret;exact⟨_,rfl,ce.out⟩
theorem yr(B0:Nat)(w0 w:World)(v:Value)(B:Nat)(t:TypeId)(cs:Array Value)(dp:Int)(c:UInt8)(ex:Nat)(iG:lh B0 w0 w v [])(hB:ai w B t cs)(ht:5≠t)(hc:cs[0]? =some (gS c))(qb:(ex:Int)=dp-1)(xK:0≤ex)(hr:ex<10):Calls prog 267 #[v, .bool false, .slice (some ⟨B,0,none⟩) 32 32, .int .i64 dp, .int .i64 1, .int .i64 0, .int .u8 101, .bool true] w (uO B0 w0 (ct c [] false ex)):=by
 have hX:ct c [] false ex=[]++[c]++[101]++[43]++[UInt8.ofNat 48,UInt8.ofNat (48+ex)]:=by
  unfold ct lI;rw [zh hr];rw [zh rfl];simp
 rw [hX];have eb:w.cell? ⟨B,0,none⟩=some (.int .u8 (c.toNat:Int)):=(hB.cell 0).trans hc;have bi:=J iG;have QV:=J hB;have HD:=J qb;have Vx:(ex:Int)≤dp-1:=by omega
 have Vw:dp-1≤(ex:Int):=by omega
 clear iG hB hc qb hX;go_enter func267,ntmps267;go_wp2_with (first|(at_builtin;refine lh.step bi.out QV.out ht _ [c] ?_ ?_ ?_ ?_ ?_;exact rfl;(simp);exact rfl;exact rfl;intro v1 w1 cT iP;have bp:=J cT;have Cc:=J iP;clear cT iP)|(at_builtin;refine lh.step bp.out Cc.out ht _ [101] ?_ ?_ ?_ ?_ ?_;exact rfl;(simp);exact rfl;exact rfl;intro v2 w2 cB hk2;have bM:=J cB;have ot:=J hk2;clear cB hk2)|(at_builtin;refine lh.step bM.out ot.out ht _ [43] ?_ ?_ ?_ ?_ ?_;exact rfl;(simp);exact rfl;exact rfl;intro v3 w3 kZ hk3;have dF:=J kZ;have Qg:=J hk3;clear kZ hk3)|(at_builtin;refine lh.step dF.out Qg.out ht _ [UInt8.ofNat 48,UInt8.ofNat (48+ex)] ?_ ?_ ?_ ?_ ?_;(have hd:=HD.out;exact af1 (by omega) (by omega) (by omega) (by omega));(simp);exact rfl;exact rfl;intro v4 w4 k6 hk4;have ce:=J k6;have HK4:=J hk4;clear k6 hk4))
 go_ret;exact⟨_,rfl,ce.out⟩
theorem yt(B0:Nat)(w0 w:World)(v:Value)(B:Nat)(t:TypeId)(cs:Array Value)(dp:Int)(c:UInt8)(ex:Nat)(iG:lh B0 w0 w v [])(hB:ai w B t cs)(ht:5≠t)(hc:cs[0]? =some (gS c))(qb:(ex:Int)=dp-1)(rM:0≤ex)(hr:10≤ex∧ex<100):Calls prog 267 #[v, .bool false, .slice (some ⟨B,0,none⟩) 32 32, .int .i64 dp, .int .i64 1, .int .i64 0, .int .u8 101, .bool true] w (uO B0 w0 (ct c [] false ex)):=by
 have hX:ct c [] false ex=[]++[c]++[101]++[43]++[UInt8.ofNat (48+ex/10),UInt8.ofNat (48+ex%10)]:=by
  unfold ct lI;rw [ze (show¬ex<10 by omega),zh hr.2]
  rw [zh rfl];simp
 rw [hX];have eb:w.cell? ⟨B,0,none⟩=some (.int .u8 (c.toNat:Int)):=(hB.cell 0).trans hc;have bi:=J iG;have QV:=J hB;have HD:=J qb;have Vx:(ex:Int)≤dp-1:=by omega
 have Vw:dp-1≤(ex:Int):=by omega
 clear iG hB hc qb hX;go_enter func267,ntmps267;go_wp2_with (first|(at_builtin;refine lh.step bi.out QV.out ht _ [c] ?_ ?_ ?_ ?_ ?_;exact rfl;(simp);exact rfl;exact rfl;intro v1 w1 cT iP;have bp:=J cT;have Cc:=J iP;clear cT iP)|(at_builtin;refine lh.step bp.out Cc.out ht _ [101] ?_ ?_ ?_ ?_ ?_;exact rfl;(simp);exact rfl;exact rfl;intro v2 w2 cB hk2;have bM:=J cB;have ot:=J hk2;clear cB hk2)|(at_builtin;refine lh.step bM.out ot.out ht _ [43] ?_ ?_ ?_ ?_ ?_;exact rfl;(simp);exact rfl;exact rfl;intro v3 w3 kZ hk3;have dF:=J kZ;have Qg:=J hk3;clear kZ hk3)|(at_builtin;refine lh.step dF.out Qg.out ht _ [UInt8.ofNat (48+ex/10),UInt8.ofNat (48+ex%10)] ?_ ?_ ?_ ?_ ?_;(have hd:=HD.out;exact af1 (by omega) (by omega) (by omega) (by omega));(simp);exact rfl;exact rfl;intro v4 w4 k6 hk4;have ce:=J k6;have HK4:=J hk4;clear k6 hk4))
 go_ret;exact⟨_,rfl,ce.out⟩
theorem yu(B0:Nat)(w0 w:World)(v:Value)(B:Nat)(t:TypeId)(cs:Array Value)(dp:Int)(c:UInt8)(ex:Nat)(iG:lh B0 w0 w v [])(hB:ai w B t cs)(ht:5≠t)(hc:cs[0]? =some (gS c))(qb:(ex:Int)=dp-1)(rM:0≤ex)(hr:100≤ex∧ex<1000):Calls prog 267 #[v, .bool false, .slice (some ⟨B,0,none⟩) 32 32, .int .i64 dp, .int .i64 1, .int .i64 0, .int .u8 101, .bool true] w (uO B0 w0 (ct c [] false ex)):=by
 have hX:ct c [] false ex=[]++[c]++[101]++[43]++[UInt8.ofNat (48+ex/100),UInt8.ofNat (48+ex/10%10),UInt8.ofNat (48+ex%10)]:=by
  unfold ct lI;rw [ze (show¬ex<10 by omega),ze (show¬ex<100 by omega)]
  rw [zh rfl];simp
 rw [hX];have eb:w.cell? ⟨B,0,none⟩=some (.int .u8 (c.toNat:Int)):=(hB.cell 0).trans hc;have bi:=J iG;have QV:=J hB;have HD:=J qb;have Vx:(ex:Int)≤dp-1:=by omega
 have Vw:dp-1≤(ex:Int):=by omega
 clear iG hB hc qb hX;go_enter func267,ntmps267;go_wp2_with (first|(at_builtin;refine lh.step bi.out QV.out ht _ [c] ?_ ?_ ?_ ?_ ?_;exact rfl;(simp);exact rfl;exact rfl;intro v1 w1 cT iP;have bp:=J cT;have Cc:=J iP;clear cT iP)|(at_builtin;refine lh.step bp.out Cc.out ht _ [101] ?_ ?_ ?_ ?_ ?_;exact rfl;(simp);exact rfl;exact rfl;intro v2 w2 cB hk2;have bM:=J cB;have ot:=J hk2;clear cB hk2)|(at_builtin;refine lh.step bM.out ot.out ht _ [43] ?_ ?_ ?_ ?_ ?_;exact rfl;(simp);exact rfl;exact rfl;intro v3 w3 kZ hk3;have dF:=J kZ;have Qg:=J hk3;clear kZ hk3)|(at_builtin;refine lh.step dF.out Qg.out ht _ [UInt8.ofNat (48+ex/100),UInt8.ofNat (48+ex/10%10),UInt8.ofNat (48+ex%10)] ?_ ?_ ?_ ?_ ?_;(have hd:=HD.out;exact af2 (by omega) (by omega) (by omega) (by omega) (by omega) (by omega));(simp);exact rfl;exact rfl;intro v4 w4 k6 hk4;have ce:=J k6;have HK4:=J hk4;clear k6 hk4))
 go_ret;exact⟨_,rfl,ce.out⟩
structure gV(w:World):Prop where
 pow:im w
 tab:Lib.TabIs prog w "internal/strconv.uint64pow10" .u64 Lib.pow10Tab
 mxl: ∃m,w.cell? ⟨1,0,none⟩=some (.int .i64 m)
 big:11+1≤w.heap.size
theorem afL:prog.globalNamed "internal/strconv.uint64pow10" =some 7:=by kernel_rfl
theorem gV.below{w w':World}{B:Nat}(h:gV w)(hb:Below B w w')(hB:w.heap.size≤B):gV w':=by
 have h0:=h.big;refine⟨h.pow.below hb hB,var?_below hb afL (by omega) h.tab,?_,zQ h.big hb.size⟩
 obtain⟨m,hm⟩:=h.mxl;exact⟨m,(hb.cell (p:=⟨1,0,none⟩) (by show 1<B;omega)).trans hm⟩
theorem gV.drewN{w:World}(h:gV w)(n:Nat):gV (w.drewN n):=h.below (below_drewN (zg _ _) n) (za _)
theorem gV.alloc{w:World}(h:gV w)(o:Obj):gV (w.alloc o):=h.below ((zg _ _).alloc (za _) o) (za _)
theorem yV(x:Nat)(n:Nat)(w:World)(h1:x<18446744073709551616)(hn:Lib.bitLen x=n):
 Calls prog 268 #[.int .u64 x] w fun e w'=>e= .returned (.int .i64 (n:Int))∧w=w':=
 (Tryz.bits_Len64 x w (by omega) (by omega)).mono fun _ _ ⟨h,h2⟩=>⟨by rw [h,zv,hn],h2.symm⟩
theorem qG(u:Nat)(w:World)(h1:1≤u)(h2:u<18446744073709551616)(he:gV w):
 Calls prog 271 #[.int .u64 u] w fun e w'=>e= .returned (.int .i64 (Lib.nDigits u:Nat))∧w=w':=
 (Tryz.internal_strconv_numDigits u h1 h2 w he.tab).mono fun _ _ ⟨h,h2⟩=>⟨h,h2.symm⟩
@[go_sem] theorem afM (u:Nat) (w:World):(callFunc 264 #[.float .f64 u]).run prog w= .ok (.value (.int .u64 (u:Int))) w:=by
 rw [run_callFunc_extern (e:=Extern.MathFloatBits.float64bits) func264 (by kernel_rfl) (by kernel_rfl) (by kernel_rfl) (by kernel_rfl)];rfl
theorem lh.below{B0:Nat}{w0 W W':World}{v:Value}{xs:List UInt8}(h:lh B0 w0 W v xs)(hb:Below W.heap.size W W'):lh B0 w0 W' v xs:=by
 obtain⟨h1,h2,h3⟩:=h;refine⟨?_,h2.trans (hb.mono h3),zQ h3 hb.size⟩
 rcases ho:v.ownBlock with _|g
 ·exact h1.kept (jf hb none) (.inl ho)
 ·exact h1.kept (jf hb none) (.inr (by rw [ho];exact fun h=>by cases h))
theorem lh.drewN{B0:Nat}{w0 W:World}{v:Value}{xs:List UInt8}(h:lh B0 w0 W v xs)(n:Nat):lh B0 w0 (W.drewN n) v xs:=h.below (below_drewN (zg _ _) n)
theorem lh.other{B0:Nat}{w0 W W':World}{v:Value}{xs:List UInt8}(h:lh B0 w0 W v xs){B:Nat}{t:TypeId}{cs:Array Value}(hB:ai W B t cs)(ht:5≠t)(hB0:B0≤B)
 (hg:W.grownBy W' (some B)):lh B0 w0 W' v xs:=by
 obtain⟨h1,h2,h3⟩:=h;refine⟨h1.kept hg (.inr (ee h1 hB ht)),h2.grown hg h3 (fun k hk=>by injection hk with hk;omega),zQ h3 hg.size⟩
theorem Kn(B0:Nat)(w0 w:World)(v:Value)(B:Nat)(t:TypeId)(cs:Array Value)(dp:Int)(c:UInt8)(T:List UInt8)(x y:Int)
 (iG:lh B0 w0 w v []) (hB:ai w B t cs) (ht:5≠t) (hT:T.length≤20) (hc:cs[0]? =some (gS c)) (s_: ∀(j:Nat) (u:UInt8),T[j]? =some u→cs[1+j]? =some (gS u))
 (qb: -900≤dp∧dp≤900) (hx:x=(T.length:Int)+1) (hy:y=(T.length:Int)):
 Calls prog 267 #[v, .bool false, .slice (some ⟨B,0,none⟩) 32 32, .int .i64 dp, .int .i64 x, .int .i64 y, .int .u8 101, .bool true] w (uO B0 w0 (ct c T (decide (dp-1<0)) (dp-1).natAbs)):=by
 obtain⟨ex,hex⟩: ∃ex:Nat,ex=(dp-1).natAbs:=⟨_,rfl⟩;rw [←hex];have h3:ex<10∨(10≤ex∧ex<100)∨(100≤ex∧ex<1000):=by omega
 rcases T with _|⟨c1,T'⟩
 ·obtain rfl:x=1:=by rw [hx];rfl
  obtain rfl:y=0:=by rw [hy];rfl
  by_cases hs:dp-1<0
  ·rw [zc hs]
   have hd:(ex:Int)= -(dp-1):=by omega
   rcases h3 with h|h|h
   ·exact yo B0 w0 w v B t cs dp c ex iG hB ht hc hd (by omega) h
   ·exact yp B0 w0 w v B t cs dp c ex iG hB ht hc hd (by omega) h
   ·exact yq B0 w0 w v B t cs dp c ex iG hB ht hc hd (by omega) h
  ·rw [zb hs]
   have hd:(ex:Int)=dp-1:=by omega
   rcases h3 with h|h|h
   ·exact yr B0 w0 w v B t cs dp c ex iG hB ht hc hd (by omega) h
   ·exact yt B0 w0 w v B t cs dp c ex iG hB ht hc hd (by omega) h
   ·exact yu B0 w0 w v B t cs dp c ex iG hB ht hc hd (by omega) h
 ·have hl:(c1::T').length=T'.length+1:=rfl
  have hl2:T'.length≤20:=by rw [hl]at hT;omega
  obtain rfl:x=((T'.length+2:Nat):Int):=by rw [hx,hl];omega
  obtain rfl:y=((T'.length+1:Nat):Int):=by rw [hy,hl]
  by_cases hs:dp-1<0
  ·rw [zc hs]
   have hd:(ex:Int)= -(dp-1):=by omega
   rcases h3 with h|h|h
   ·exact yi B0 w0 w v B t cs dp _ c _ ex iG hB ht hl hl2 s_ hc hd (by omega) h
   ·exact yj B0 w0 w v B t cs dp _ c _ ex iG hB ht hl hl2 s_ hc hd (by omega) h
   ·exact yk B0 w0 w v B t cs dp _ c _ ex iG hB ht hl hl2 s_ hc hd (by omega) h
  ·rw [zb hs]
   have hd:(ex:Int)=dp-1:=by omega
   rcases h3 with h|h|h
   ·exact yl B0 w0 w v B t cs dp _ c _ ex iG hB ht hl hl2 s_ hc hd (by omega) h
   ·exact ym B0 w0 w v B t cs dp _ c _ ex iG hB ht hl hl2 s_ hc hd (by omega) h
   ·exact yn B0 w0 w v B t cs dp _ c _ ex iG hB ht hl hl2 s_ hc hd (by omega) h
theorem qH(l:List UInt8): ∃k,bY l=l.take k∧k=(bY l).length:=by
 have:bY l<+:l:=by
  unfold bY;have h:=List.dropWhile_suffix (· ==48) (l:=l.reverse)
  have h2:=List.reverse_prefix.2 h
  rwa [List.reverse_reverse]at h2
 exact⟨(bY l).length,(List.prefix_iff_eq_take.1 this),rfl⟩
def Good(q:Nat×Int):Prop:=1≤q.1∧q.1<18446744073709551616∧ -400≤q.2∧q.2≤400∧bY (Lib.decDigits q.1)≠[]
def tF(q:Nat×Int):List UInt8:=
 match bY (Lib.decDigits q.1)with
 |[]=>[]
 |c::T=>ct c T (decide ((Lib.nDigits q.1:Int)+q.2-1<0)) ((Lib.nDigits q.1:Int)+q.2-1).natAbs
def uM(T:List UInt8)(e:Int):List UInt8:=
 if e≤15∧ -3≤e then
  if e≤0 then [48,46]++List.replicate (-e).toNat 48++T
  else if T.length≤e.toNat then T++List.replicate (e.toNat-T.length) 48++[46,48]
  else T.take e.toNat++[46]++T.drop e.toNat
 else T.take 1++[46]++(if T.drop 1=[]then [48]else T.drop 1)++[69]++(if e<1 then [126]++Lib.decDigits (1-e).toNat else Lib.decDigits (e-1).toNat)
theorem XR(k:Nat)(hk:0<k):Lib.decDigits (k*10)=Lib.decDigits k++[48]:=by
 rw [Lib.decDigits,dif_neg (by omega),show k*10/10=k by omega,show k*10%10=0 by omega]
 rfl
theorem XT(k:Nat)(hk:0<k):Lib.nDigits (k*10)=Lib.nDigits k+1:=by
 rw [Lib.nDigits_big (by omega),show k*10/10=k by omega]
theorem pP(k:Nat)(hk:0<k): ∀j:Nat,bY (Lib.decDigits (k*10^j))=bY (Lib.decDigits k)∧Lib.nDigits (k*10^j)=Lib.nDigits k+j
 |0=>by rw [Zl,Zj];exact⟨rfl,rfl⟩
 |j+1=>by
  obtain⟨h1,h2⟩:=pP k hk j;have hp:0<k*10^j:=zL hk (Zz (by decide))
  rw [zH,←zw,XR _ hp,lC,zh rfl,XT _ hp,h1,h2];exact⟨rfl,by omega⟩
theorem KF{d:Nat}(h:d<10)(h0:d≠0):UInt8.ofNat (48+d)≠48:=by
 intro h2;have:=ZW UInt8.toNat h2;rw [UInt8.toNat_ofNat',zA (by omega)]at this
 have e:(48:UInt8).toNat=48:=rfl;omega
theorem Ds(k:Nat)(h:k%10≠0):bY (Lib.decDigits k)=Lib.decDigits k:=by
 rw [Lib.decDigits]
 split
 ·have:[UInt8.ofNat (48+k)]=[]++[UInt8.ofNat (48+k)]:=rfl
  rw [this,lC,ze (KF (by omega) (by omega))]
 ·rw [lC,ze (KF (by omega) h)]
theorem SX{k:Nat}(hk:0<k):bY (Lib.decDigits k)≠[]:=by
 induction k using Nat.strongRecOn with
 |_ k ih=>
  by_cases h:k%10=0
  ·have e:k=k/10*10^1:=by omega
   rw [e,(pP (k/10) (by omega) 1).1]
   exact ih (k/10) (by omega) (by omega)
  ·rw [Ds k h]
   intro h2;have:=ZW List.length h2;rw [ZZ]at this;have:=Lib.nDigits_pos k;simp at *;omega
theorem Gw{k d:Nat}(hk:0<k)(hd:0<d){a b:Nat}(h:k*10^a=d*10^b):
 bY (Lib.decDigits k)=bY (Lib.decDigits d)∧(Lib.nDigits k:Int)+a=Lib.nDigits d+b:=by
 obtain⟨h1,h2⟩:=pP k hk a;obtain⟨h3,h4⟩:=pP d hd b;rw [←h1,←h3,h];rw [h]at h2;exact⟨rfl,by omega⟩
def vp(l:List UInt8):Prop:= ∀c∈l,48≤c.toNat∧c.toNat≤57
theorem oP(u:Nat):vp (Lib.decDigits u):=by
 intro c hc;rw [Lib.decDigits_eq]at hc;obtain⟨t,_,rfl⟩:=Ik.1 hc;unfold Lib.dg;rw [UInt8.toNat_ofNat'];have:=zU (u/10^(Lib.nDigits u-1-t)) (show 10>0 by decide)
 rw [zA (by omega)]
 omega
theorem vp.strip{l:List UInt8}(h:vp l):vp (bY l):=by
 intro c hc;obtain⟨k,hk,_⟩:=qH l;rw [hk]at hc;exact h c (Z5 hc)
theorem vp.not{l:List UInt8}(h:vp l){c:UInt8}(hc:c.toNat<48∨57<c.toNat):c∉l:=fun hm=>by have:=h c hm;omega
theorem wL: ∀(a:List UInt8) (c:UInt8),c∉a→Lib.index a [c]= -1
 |[],c,_=>rfl
 |x::a,c,h=>by
  have h1:c≠x:=fun e=>h (by rw [e];exact ZS)
  have ih:=wL a c (fun hm=>h (ZU _ hm))
  unfold Lib.index;rw [ih,ze (by simp [List.isPrefixOf,h1])];rfl
theorem index_hit: ∀(a:List UInt8) (c:UInt8) (b:List UInt8),c∉a→Lib.index (a++c::b) [c]=a.length
 |[],c,b,_=>by
  rw [List.nil_append,Lib.index,zh (by simp [List.isPrefixOf])];rfl
 |x::a,c,b,h=>by
  have h1:c≠x:=fun e=>h (by rw [e];exact ZS)
  have ih:=index_hit a c b (fun hm=>h (ZU _ hm))
  rw [List.cons_append,Lib.index,ih,ze (by simp [List.isPrefixOf,h1]),ze (by intro h2;have:=Zr.1 h2;omega)]
  simp
theorem XU(a:List UInt8)(c:UInt8)(b:List UInt8)(h:c∉a):Lib.cut (a++c::b) [c]=(a,b,true):=by
 unfold Lib.cut;rw [index_hit a c b h,zh (by omega),zv]
 rw [List.take_left,show a.length+[c].length=a.length+1 from rfl,List.drop_append,Zx (by omega),show a.length+1-a.length=1 by omega]
 rfl
def iN(c:UInt8)(T:List UInt8):List UInt8:=[c]++(if T=[]then []else [46]++T)
def kB(fV:Bool)(e:Nat):List UInt8:=[if fV then 45 else 43]++lI e
theorem Dt(c:UInt8)(T:List UInt8)(fV:Bool)(e:Nat):ct c T fV e=iN c T++101::kB fV e:=by
 unfold ct iN kB;simp
theorem MU{c:UInt8}{T:List UInt8}(h:vp (c::T)):(101:UInt8)∉iN c T:=by
 have h1:=h.not (c:=101) (.inr (by decide))
 unfold iN
 split
 ·intro hm
  rw [ZQ,zt]at hm;exact h1 (by rw [←hm];exact ZS)
 ·intro hm
  rw [ZJ,zt,ZJ,zt]at hm
  rcases hm with hm|hm|hm
  ·exact h1 (by rw [←hm];exact ZS)
  ·exact absurd hm (by decide)
  ·exact h1 (ZU _ hm)
theorem MV{c:UInt8}{T:List UInt8}(h:vp (c::T))(fV:Bool)(e:Nat):Lib.cut (ct c T fV e) [101]=(iN c T,kB fV e,true):=by
 rw [Dt];exact XU _ _ _ (MU h)
theorem Du(l new:List UInt8)(c:UInt8)(h:c∉l)(hn:([c]==new)=false)(n:Int):Lib.replace l [c] new n=l:=by
 have hi:=wL l c h;unfold Lib.replace;rw [ze (by rw [hn];exact Bool.false_ne_true)]
 generalize Lib.replaceNum l [c] n=k
 cases k with
 |zero=>rfl
 |succ k=>rw [Lib.replaceK,zh (by rw [hi];rfl)]
theorem KG(a b new:List UInt8)(c:UInt8)(h:c∉a)(hn:([c]==new)=false):Lib.replace (a++c::b) [c] new 1=a++new++b:=by
 have hi:=index_hit a c b h;unfold Lib.replace
 have hk:Lib.replaceNum (a++c::b) [c] 1=1:=by
  unfold Lib.replaceNum;rw [Lib.count_hit (by simp) hi]
  rw [ze (by omega)];rfl
 rw [ze (by rw [hn];exact Bool.false_ne_true),hk,Lib.replaceK_hit [c] new 0 _ _ hi,List.take_left,show a.length+[c].length=a.length+1 from rfl,List.drop_append,Zx (by omega),show a.length+1-a.length=1 by omega]
 rfl
theorem MW{c:UInt8}{T:List UInt8}(h:vp (c::T)):Lib.replace (iN c T) [46] [] 1=c::T:=by
 have h1:=h.not (c:=46) (.inl (by decide))
 have hc:(46:UInt8)∉[c]:=fun hm=>h1 (by rw [zt.1 hm];exact ZS)
 unfold iN
 split
 ·rename_i hT
  subst hT;exact Du _ _ _ (by rw [ZQ];exact hc) rfl 1
 ·exact KG [c] T [] 46 hc rfl
def aaW(e:Nat):Bool:=(Lib.atoi (kB true e)==some (-(e:Int)))&&(Lib.atoi (kB false e)==some (e:Int))&&(kB true e).length.ble 5&&(kB false e).length.ble 5
theorem XV:ay (fun j=>aaW j) 500=true:=by decide+kernel
theorem SY{e:Nat}(h:e<500)(fV:Bool):Lib.atoi (kB fV e)=some (if fV then -(e:Int)else e)∧(kB fV e).length≤5:=by
 have:=bn XV e h;unfold aaW at this;rw [Zm,Zm,Zm,Zr,Zr,Nat.ble_eq,Nat.ble_eq]at this;obtain⟨⟨⟨h1,h2⟩,h3⟩,h4⟩:=this
 cases fV
 ·exact⟨h2,h4⟩
 ·exact⟨h1,h3⟩
theorem Dv(z:Int):Lib.replace (Lib.itoa z) [45] [126] 1=if z<0 then [126]++Lib.decDigits z.natAbs else Lib.decDigits z.toNat:=by
 unfold Lib.itoa
 split
 ·exact KG [] (Lib.decDigits z.natAbs) [126] 45 (by simp) rfl
 ·exact Du _ _ _ ((oP _).not (.inl (by decide))) rfl 1
theorem ef(T:List UInt8)(m:Nat):(ByteArray.mk T.toArray).extract 0 m=ByteArray.mk (T.take m).toArray:=by
 apply ByteArray.ext;simp
theorem eg(T:List UInt8)(m:Nat):(ByteArray.mk T.toArray).extract m T.length=ByteArray.mk (T.drop m).toArray:=by
 apply ByteArray.ext;simp;exact List.take_of_length_le (by simp)
abbrev jG(w:World)(X:List UInt8)(e:Ending)(w':World):Prop:=e= .returned (.string ⟨X.toArray⟩)∧Below w.heap.size w w'
theorem wM(w:World)(q:Nat)(os:Array Obj):Below w.heap.size w (Sort.grow (w.drewN q) os):=
 ⟨rfl,rfl,rfl,by simp [Sort.grow],fun i hi=>by
  show((w.drewN q).heap++os)[i]? =_;rw [Array.getElem?_append_left (by show i<w.heap.size;omega)]
  rfl⟩
theorem sr(z:Int)(h0: -1000≤z)(h1:z≤1000)(w:World)(ht:gV w):Calls prog 161 #[.int .i64 z] w (jG w (Lib.itoa z)):=by
 refine(Tryz.strconv_Itoa z (by omega) (by omega) w ht.tab).mono ?_
 rintro e w' ⟨rfl,k,os,rfl⟩;exact⟨rfl,wM w k os⟩
set_option maxHeartbeats 2000000
theorem mG(a b:List UInt8):(ByteArray.mk a.toArray++ByteArray.mk b.toArray)=ByteArray.mk (a++b).toArray:=by
 apply ByteArray.ext;simp [ByteArray.data_append]
theorem uL(n:Nat)(w:World)(hn:n≤1000):
 Calls prog 185 #[.int .i64 (n:Int)] w fun e w'=>e= .returned (.string ⟨(List.replicate n 48).toArray⟩)∧w=w':=by
 go_enter func185,ntmps185
 go_wp2
 go_loop [3,4] (fun s i=> ∃k:Nat,k≤n∧i= .int .i64 k∧s= .string ⟨(List.replicate k 48).toArray⟩) (fun _ i=>n-(intOf i).toNat)
 case atStart=>exact⟨0,zO _,rfl,rfl⟩
 case round=>
  obtain⟨k,hk,rfl,rfl⟩:=hrel;have HC:=J (mG (List.replicate k 48) [48])
  by_cases bw:k<n
  ·go_wp2
   go_round
   case rel=>exact⟨k+1,by omega,by go_num,by rw [List.replicate_succ',←HC.out];rfl⟩
   case measure=>simp [intOf];omega
  ·have e:k=n:=by omega
   subst e
   go_wp2
   go_ret;exact⟨rfl,rfl⟩
def l5(k:Nat):List UInt8:=if k=0 then []else Lib.decDigits k
theorem ME{k:Nat}(h:0<k):l5 k=l5 (k/10)++[UInt8.ofNat (48+k%10)]:=by
 unfold l5;rw [ze (by omega),Lib.decDigits]
 split
 ·rw [zh (by omega),zA ‹_›];rfl
 ·rw [ze (by omega)]
theorem afU(x:Nat)(h0:0<x)(h1:x<65536)(w:World):D (w.alloc (.cells #[.int .u16 (x:Int)] 254)) (.slice (some ⟨w.heap.size,0,none⟩) 1 1) x:=by
 have e:nd x=1:=by
  have h2:=(fJ x 1).2 (by omega)
  have h3:=(wk x 0).2 (by omega)
  omega
 have hf:cR (fd 1 x)=[Value.int .u16 (x:Int)]:=by
  unfold cR fd dg;simp [zA h1]
 have h:qj w.heap.size (w.alloc (.cells #[.int .u16 (x:Int)] 254)) (.slice (some ⟨w.heap.size,0,none⟩) 1 1) 1 x:=by
  unfold qj;rw [hf];exact World.ownsRow_lit w #[.int .u16 (x:Int)] 1 (za _) (by unfold maxLen;omega) rfl
 unfold D;rw [e];exact h.DS (by omega)
theorem SE(w:World)(m:Nat)(hm:m<10):
 (convert 180 9 (.slice (some ⟨w.heap.size,0,none⟩) 1 1)).run prog (w.alloc (.cells #[.int .u8 (48+(m:Int))] 5))= .ok (.string ⟨[UInt8.ofNat (48+m)].toArray⟩) (w.alloc (.cells #[.int .u8 (48+(m:Int))] 5)):=by
 refine run_convert_bytes_back _ 180 9 5 ⟨w.heap.size,0,none⟩ 1 [UInt8.ofNat (48+m)] underlying180 underlying5 underlying9 (fun j hj=> ?_)
 obtain rfl:j=0:=by simp at hj;omega
 have h:=(ai.new w 5 #[.int .u8 (48+(m:Int))]).cell 0;refine h.trans ?_;show some (Value.int .u8 (48+(m:Int)))=some (Value.int .u8 ((UInt8.ofNat (48+m)).toNat:Int));rw [UInt8.toNat_ofNat',zA (by omega)]
 congr 2
theorem Gt(va:Value)(N:Nat)(w:World)(hN:nd N≤1000)(hD:(l5 N).length≤5000)(ha:D w va N):
 Calls prog 186 #[va] w fun e w'=>e= .returned (.string ⟨(l5 N).toArray⟩)∧Below w.heap.size w w':=by
 obtain⟨t,ht⟩: ∃t:Nat,t=10:=⟨10,rfl⟩;have HT:=J ht;have HNT:=J (show nd t≤1 by rw [ht];decide)
 have HL:Hid (∀w:World,D (w.alloc (.cells #[.int .u16 10] 254)) (.slice (some ⟨w.heap.size,0,none⟩) 1 1) t):=fun w=>by rw [ht];exact afU 10 (by decide) (by decide) w
 clear ht;go_enter func186,ntmps186
 go_wp2
 go_loopg [0,3,4,5] N (fun g a s q r wr=> ∃T,D wr a g∧s= .string ⟨T.toArray⟩∧l5 N=l5 g++T∧g≤N∧Below w.heap.size w wr)
 case atStart=>exact⟨[],ha,rfl,by rw [ZQ],za _,zg _ _⟩
 case round=>
  obtain⟨T,hv,rfl,he,xI,bu⟩:=hrel;have hTl:T.length≤5000:=by rw [he,zS]at hD;omega
  obtain⟨A,c,rfl⟩:=hv.shape;have hs:=bu.size;have HV:=J hv;have HE:=J he;have HB:=J bu;have Y8:=J (zQ (jS xI) hN);clear he bu hv
  by_cases h0:gk=0
  ·subst h0
   rw [ib]at *;go_wp2_with fail;go_ret;refine⟨?_,HB.out⟩;rw [HE.out];rfl
  ·have hp:=wE h0
   have HP:=J (ME (k:=gk) (by omega))
   generalize hl:nd gk=l at *;have HLL:=J hl;clear hl;go_wp2_with fail;have bp:=J (HB.out.alloc hs (.cells #[.int .u16 10] 254));have rK:=J (HV.out.below ((zg wr.heap.size wr).alloc (za _) (.cells #[.int .u16 10] 254)));refine(sk _ _ gk t _ (by have:=HLL.out;have:=Y8.out;omega) (by have:=HNT.out;omega) (by have:=HT.out;omega) rK.out (HL.out wr)).mono ?_
   rintro e w3 ⟨v3,u3,rfl,ll,QR,_,_,bq⟩;rw [HT.out]at ll QR;have hm:=zU gk (show 10>0 by decide)
   generalize gk%10=m at *;have ou:=J ll;have HU3:=J QR;have dF:=J (bp.out.trans (bq.mono (by simp;omega)))
   clear ll QR bq;have Cp:=dF.out.size;have HCV:=J (SE w3 m hm);have hcv:=HCV.out;go_wp2_with (go_at_call 241;refine(lD _ m _ (by omega) HU3.out).mono ?_;rintro e w' ⟨rfl,rfl⟩)
   go_roundg (gk/10)
   case rel=>exact⟨[UInt8.ofNat (48+m)]++T,ou.out.below ((zg _ _).alloc (za _) _),by rw [←mG,UInt8.ofNat_add];rfl,by rw [HE.out,HP.out,Zn],by omega,dF.out.alloc Cp _⟩
   case measure=>omega
theorem ky(va:Value)(N:Nat)(w:World)(hN:nd N≤1000)(hD:(l5 N).length≤1000)(ha:D w va N):
 Calls prog 186 #[va] w fun e w'=>e= .returned (.string ⟨(l5 N).toArray⟩)∧Below w.heap.size w w':=Gt va N w hN (zQ hD (by decide)) ha
theorem pO(r:Nat)(P e:Int)(h:P=(up r:Int)-1074):SC (mg r) P e↔tA e*KK≤val r*tB e:=by
 rw [←KC (mg r) P e 1 rfl,←KE];have:=wJ r 1 1 P e h;rw [zP (mg r)]at this;rw [this,zP,zP]
theorem MF(u:Nat)(h0:0<u)(hu:u<cap)(b:Bool)(vm:Value)(P:Int)(w:World)(hP:P=(up u:Int)-1074)(hm:D w vm (mg u)):
 Calls prog 243 #[.agg #[.bool b,vm, .int .i64 P]] w fun e w'=>
  ∃x:Int,e= .returned (.int .i64 x)∧val u*tB x<tA x*KK∧tA (x-1)*KK≤val u*tB (x-1)∧ -400≤x∧x≤310∧Below w.heap.size w w':=by
 have Vh:up u≤2045:=by unfold up;have:cap=2047*2^52:=rfl;omega
 have qB:bl (mg u)≤53:=(kl _ _).2 (lB u);have QS:mg u≠0:=fun h=>by have:=fX.1 h;omega
 refine(MD vm b (mg u) P w QS (by omega) (by omega) (by omega) ?_ ?_ hm).mono ?_
 ·intro e he h
  have:=(pO u P e hP).1 h;have:=aaV hu he;omega
 ·intro e h
  refine(pO u P (e-1) hP).2 (vH (e-1) 1 ?_);have:=(pO u P e hP).1 h
  rwa [show e-1+((1:Nat):Int)=e by omega]
 ·rintro e w' ⟨x,rfl,h1,h2,h3,h4,h5⟩
  refine⟨x,rfl,?_,(pO u P (x-1) hP).1 h2,h3,h4,h5⟩;exact Nat.lt_of_not_le fun h=>h1 ((pO u P x hP).2 h)
def y_(u:Nat):List UInt8:=bY (Lib.decDigits (aM u).1)
def Bv(u:Nat):Int:=(Lib.nDigits (aM u).1:Int)+(aM u).2
theorem kz{k:Nat}(h:0<k):l5 k=Lib.decDigits k:=by unfold l5;rw [ze (by omega)]
theorem SF:Lib.decDigits 10=[49,48]∧Lib.nDigits 10=2:=by
 rw [Lib.decDigits_two (by decide) (by decide),Lib.nDigits_big (by decide),Z9 (by decide)]
 exact⟨rfl,rfl⟩
theorem rz{u n k:Nat}{e:Int}(hE:FloM.Ends u e)(hn:1≤n)(hf: ∀m:Nat,1≤m→m<n→¬jU u (e-m))(ht:nT u (e-n) k)
 (h1:val u*tB e<tA e*KK) (h2:tA (e-1)*KK≤val u*tB (e-1)):
 0<k∧k≤10^n∧((k<10^n∧(l5 k).length=n∧l5 k=y_ u∧e=Bv u)∨(n=1∧k=10∧l5 k=[49,48]∧[49]=y_ u∧e+1=Bv u)):=by
 have b1:=Dr (n:=n) h1;have b2:=SW hn h2;have hp:0<10^(n-1):=Zz (by decide)
 obtain⟨_,hk⟩:=Ad ht;have hk0:0<k:=by omega
 have iP:k≤10^n:=by omega
 have ag5:2≤n→k%10≠0:=fun h2 h=>by
  have h3:=MT ht h;refine hf (n-1) (by omega) (by omega) ?_
  rwa [show e-((n-1:Nat):Int)=e-n+1 by omega]
 obtain⟨_,E,q,p,he,hnE,hq,hx⟩:=hE.2 n k hn hf ht
 have hd:0<(aM u).1:=by
  refine Nat.pos_of_ne_zero fun h=> ?_
  rw [h,Zk]at hx;have:=zL hk0 (Zz (n:=E-n) (show 0<10 by decide))
  omega
 obtain⟨s1,s2⟩:=Gw hk0 hd hx;have JO:(Lib.nDigits k:Int)+e-n=Bv u:=by unfold Bv;omega
 refine⟨hk0,iP,?_⟩
 rcases zj k (10^n)with h|h
 ·have Wm:Lib.nDigits k=n:=by
   have:=Lib.nDigits_unique (n-1) k (by omega) (by rwa [show n-1+1=n by omega])
   omega
  have hnz:k%10≠0:=by
   rcases zj n 2 with h5|h5
   ·obtain rfl:n=1:=by omega
    omega
   ·exact ag5 h5
  refine .inl ⟨h,?_,?_,?_⟩
  ·rw [kz hk0,ZZ,Wm]
  ·rw [kz hk0,←Ds k hnz];exact s1
  ·rw [Wm]at JO;omega
 ·have hke:k=10^n:=by omega
  have lj:n=1:=by
   rcases zj n 2 with h5|h5
   ·omega
   ·refine absurd ?_ (ag5 h5)
    rw [hke,show n=(n-1)+1 by omega,zH];omega
  subst lj;rw [Nat.pow_one]at hke;subst hke;refine .inr ⟨rfl,rfl,?_,?_,?_⟩
  ·rw [kz (by decide)];exact SF.1
  ·unfold y_;rw [←s1,SF.1];rfl
  ·rw [SF.2]at JO;omega
theorem XJ(u:Nat)(b:Bool)(vm:Value)(P s:Int)(w:World)(hP:P=(up u:Int)-1074)(hu:u<cap)(qy: -2000≤s)(hs2:s≤2000)(hm:D w vm (mg u)):
 Calls prog 244 #[.agg #[.bool b,vm, .int .i64 P], .int .i64 s] w (dR w (gr u s)):=by
 have Vh:up u≤2045:=by unfold up;have:cap=2047*2^52:=rfl;omega
 rw [←acG u P s hP];exact XG vm b (mg u) s P w (by have:=kt (x:=mg u) (zy (lB u) (by decide));omega) qy hs2 (by omega) (by omega) hm
theorem SG(u:Nat)(b:Bool)(vk vm:Value)(k:Nat)(P s:Int)(w:World)(hP:P=(up u:Int)-1074)(hu:u<cap)(qy: -2000≤s)(hs2:s≤2000)(hk:k<2^60)(hmk:D w vk k)(hm:D w vm (mg u)):
 Calls prog 247 #[vk, .int .i64 s, .agg #[.bool b,vm, .int .i64 P]] w
  (SA w (if 2*(val u*tB s)<(2*k+1)*(tA s*KK)∨(2*(val u*tB s)=(2*k+1)*(tA s*KK)∧k%2=0)then k else k+1)):=by
 have Vh:up u≤2045:=by unfold up;have:cap=2047*2^52:=rfl;omega
 have h:=SB vk vm b k (mg u) 1 s P w rfl hk (by have:=kt (x:=mg u) (zy (lB u) (by decide));omega) qy hs2 (by omega) (by omega) hmk hm
 have e:=wJ u (k+(k+1)) 2 P s hP;have e2:mg u*2=2*mg u:=zB _ _;rw [e2]at h
 have i1:(2*mg u*tB s*2^P.toNat<(k+(k+1))*tA s*2^(-P).toNat)↔2*(val u*tB s)<(2*k+1)*(tA s*KK):=by
  rw [←Dp,e,Dp,show k+(k+1)=2*k+1 by omega,zw,zw]
 have i2:((k+(k+1))*tA s*2^(-P).toNat=2*mg u*tB s*2^P.toNat)↔2*(val u*tB s)=(2*k+1)*(tA s*KK):=by
  rw [←SU,e,SU,show k+(k+1)=2*k+1 by omega,zw,zw]
  exact eq_comm
 simp only [i1,i2]at h;exact h
end Go.Proofs.YtcpmiplofbfmfaaGreatDoor
