/- Shrink: how often variables are used; no calls are counted w -/
import Derived.Test.YtcpmiplofbfmfaaGreatDoorA06
set_option linter.all false
set_option maxRecDepth 100000
set_option maxHeartbeats 4000000
namespace ShrM
open LamM CpsM
mutual
def lN:Tr→List Int
 | .mk f ks=>(if f.k=1 then [f.n]else [])++bE ks
def bE:List Tr→List Int
 |[]=>[]
 |t::r=>lN t++bE r
end
mutual
def V6:Tr→Prop
 | .mk f ks=>f.k≠11∧GU ks
def GU:List Tr→Prop
 |[]=>True
 |t::r=>V6 t∧GU r
end
theorem nH: ∀(l m:List Tr),bE (l++m)=bE l++bE m
 |[],m=>by simp [bE]
 |t::l,m=>by simp [bE,nH l m]
theorem uW{ks:List Tr}{k:Nat}{T:Tr}(h:ks[k]? =some T):bE (ks.take (k+1))=bE (ks.take k)++lN T:=by
 rw [Io,h,nH];simp [bE]
theorem KY: ∀{ks:List Tr} {k:Nat} {T:Tr},GU ks→ks[k]? =some T→V6 T
 |[],_,_,_,h=>by simp at h
 |t::r,0,T,h,e=>by simp at e;exact e▸h.1
 |t::r,k+1,T,h,e=>KY (ks:=r) (k:=k) h.2 (by simpa using e)
end ShrM
namespace Go.Proofs.YtcpmiplofbfmfaaGreatDoor
open Tryz
open Lib renaming hid→J
open Go.RowKit LamM CpsM FloM ShrM Go.Maps
def TY:Option Value→Int
 |some (.int _ a)=>a
 |_=>0
def D7(f:Int→Option Value)(x:Int):Int→Option Value:=og f x (.int .i64 (TY (f x)+1))
def dB(f:Int→Option Value)(l:List Int):Int→Option Value:=l.foldl D7 f
theorem pS(f:Int→Option Value)(l m:List Int):dB f (l++m)=dB (dB f l) m:=List.foldl_append ..
def sF(c:Int)(f:Int→Option Value):Prop:= ∀x v,f x=some v→∃a,v= .int .i64 a∧0≤a∧a≤c
theorem sF.get{c:Int}{f:Int→Option Value}(h:sF c f)(hc:0≤c)(x:Int): ∃a,(f x).getD (.int .i64 0)= .int .i64 a∧TY (f x)=a∧0≤a∧a≤c:=by
 cases hf:f x with
 |none=>exact⟨0,rfl,rfl,Int.le_refl _,hc⟩
 |some v=>
  obtain⟨a,rfl,h0,h1⟩:=h x v hf;exact⟨a,rfl,rfl,h0,h1⟩
theorem sF.mono{c d:Int}{f:Int→Option Value}(h:sF c f)(hd:c≤d):sF d f:=fun x v e=>by
 obtain⟨a,h1,h2,h3⟩:=h x v e;exact⟨a,h1,h2,by omega⟩
theorem sF.bump{c:Int}{f:Int→Option Value}(h:sF c f)(hc:0≤c)(x:Int):sF (c+1) (D7 f x):=by
 intro y v e;unfold D7 og at e
 by_cases h1:y=x
 ·rw [zh h1]at e
  obtain⟨a,_,h2,h3,h4⟩:=h.get hc x;injection e with e
  exact⟨TY (f x)+1,e.symm,by omega,by omega⟩
 ·rw [ze h1]at e
  exact h.mono (by omega) y v e
theorem sF.bumps: ∀(l:List Int) {c:Int} {f:Int→Option Value},sF c f→0≤c→sF (c+l.length) (dB f l)
 |[],c,f,h,_=>h.mono (by simp)
 |x::l,c,f,h,hc=>(sF.bumps l (h.bump hc x) (by omega)).mono (by simp;omega)
def kQ(S:Nat→Prop)(w w1:World):Prop:=w.heap.size≤w1.heap.size∧∀b,S b→b<w.heap.size→w1.heap[b]? =w.heap[b]?
theorem kQ.refl(S:Nat→Prop)(w:World):kQ S w w:=⟨za _,fun _ _ _=>rfl⟩
theorem kQ.only{S:Nat→Prop}{w w1 w2:World}{bs:List Nat}(h:kQ S w w1)(ho:ap bs w1 w2)(hS: ∀b,S b→b∉bs):kQ S w w2:=
 ⟨zQ h.1 ho.size,fun b hb bw=>(ho.block b (zy bw h.1) (hS b hb)).trans (h.2 b hb bw)⟩
theorem Kids.at_{w:World}{S:Nat→Prop}{A:Option Addr}{n c:Nat}{ps:Nat→Value}(h:Kids w S (.slice A n c) n ps){k:Nat}(hk:k<n): ∃g,A=some ⟨g,0,none⟩∧S g∧g<w.heap.size∧w.cell? ⟨g,k,none⟩=some (ps k):=by
 rcases h with⟨rfl,_⟩|⟨g,c',h1,h2,h3,h4,h5,h6⟩
 ·omega
 ·injection h1 with h1
  exact⟨g,h1,h4,h5,h6 k hk⟩
def pT(B n:Nat)(f:Int→Option Value)(w:World)(e:Ending)(w':World):Prop:=e= .returned (.map (some B))∧Mp w' B n f∧ap [B] w w'
theorem oW{w0:World}{S:Nat→Prop}{v:Value}{T:Tr}(h:iI w0 S v T): ∀(w:World) (B n:Nat) (f:Int→Option Value) (c:Int),kQ S w0 w→¬S B→Mp w B n f→sF c f→0≤c→n+(lN T).length≤1000→c+(lN T).length≤1000→
 Calls prog 68 #[v, .map (some B)] w (pT B (n+(lN T).length) (dB f (lN T)) w):=by
 induction h with
 | @mk b fl ks vv kv av kids ps hs hb hv hk ha hf hr hl _ ih=>
   intro w B n f c hA hSB hM hC hc hn hcn;have hB:ai w b tN (KX fl vv kv av kids):=(hA.2 b hs hb.lt).trans hb;obtain⟨KA,kc,rfl,_,_⟩:=hr.slice;have c0:=hB.c0;have c1:=hB.c1;have c9:=hB.c9;obtain⟨hd,hhd⟩: ∃hd,(if fl.k=1 then [fl.n]else [])=hd:=⟨_,rfl⟩
   have hvt:lN (.mk fl ks)=hd++bE ks:=by rw [←hhd];rfl
   rw [hvt,zS]at hn hcn;rw [hvt,zS];have HN:=J hn;have Wa:=J hcn;have HIH:=J ih;have HR:=J hr;have HA:=J hA;have HB:=J hB;have HCT:=J hC;have hbB:b≠B:=fun e=>hSB (e▸hs)
   obtain⟨_,Cr,_⟩:=hf;have HFN:=J (show okI fl.n from Cr)
   have QJ:=J hSB;have hks:ks.length≤1000:=hl;clear hvt hn hcn ih hr hA hB hSB hb Cr hs;unfold pT
   by_cases hq:fl.k=1
   ·rw [zh hq]at hhd
    obtain⟨a,Qf,ha2,ha3,ha4⟩:=hC.get hc fl.n;have Lt:(Instr.lookup QG (.map (some B)) (.int .i64 fl.n) false).run prog w= .ok (.int .i64 a) w:=by rw [hM.look1 D4 (BL w) HFN.out,Qf]
    have HM:=J hM;have HF1:=J (show og f fl.n (.int .i64 (a+1))=dB f hd by rw [←hhd,←ha2];rfl)
    have HHL:=J (show hd.length=1 by rw [←hhd];rfl)
    have ha5:a≤1000:=by have:=Wa.out;omega
    have hn5:n≤1000:=by have:=HN.out;omega
    rw [hq]at c0;clear hM hC hhd Qf ha2 ha4 hq;go_enter func68,ntmps68;go_wp2_with (at_mapUpdate;refine ue _ rfl _ _ _ QG 3 rfl D4 B n f rfl HM.out (by omega) fl.n HFN.out rfl (.int .i64 (a+1)) rfl ?_;intro w1 rP qC;have qg:=J (show Mp w1 B (n+hd.length) (dB f hd)by rw [HHL.out,←HF1.out];exact rP);have oi:=J ((ap.refl [B] w).grown qC (fun k e=> .inl (by injection e with e;rw [e];exact zt.2 rfl)));have hB1:=HB.out.only oi.out (by simpa using hbB);have d9:=hB1.c9;clear rP qC hB1 Lt c0 c1 c9)
    go_loopw [26] (fun ix wr=> ∃k:Nat,k≤ks.length∧ix= .int .i64 (k:Int)∧Hid (Mp wr B (n+hd.length+(bE (ks.take k)).length) (dB (dB f hd) (bE (ks.take k))))∧Hid (ap [B] w wr)) (fun ix _=>ks.length-(intOf ix).toNat)
    case atStart=>exact⟨0,zO _,rfl,J (by simpa [bE,dB]using qg.out),oi⟩
    case round=>
     obtain⟨k,iP,rfl,HMR,yG⟩:=hrel
     rcases zj k ks.length with bw|iE
     ·obtain⟨T,hT⟩: ∃T,ks[k]? =some T:=⟨_,zk bw⟩
      have HAR:=J (HA.out.only yG.out (fun x hx hm=>QJ.out (by rw [←zt.1 hm];exact hx)))
      obtain⟨g,hKA,hSg,hgl,hcg⟩:=HR.out.at_ bw;have hcr:wr.cell? ⟨g,k,none⟩=some (ps k):=(zY (a:=⟨g,k,none⟩) (HAR.out.2 g hSg hgl)).trans hcg;have e1:=uW hT
      have xI:(bE (ks.take (k+1))).length≤(bE ks).length:=by
       have e2:bE ks=bE (ks.take (k+1))++bE (ks.drop (k+1)):=by rw [←nH,List.take_append_drop]
       rw [e2,zS];omega
      rw [e1,zS]at xI;have lj:=HN.out;have gW:=Wa.out;have Wl:=(HCT.out.bumps hd hc).bumps (bE (ks.take k)) (by omega)
      have vW:=J (HIH.out k T hT wr B _ _ _ HAR.out QJ.out HMR.out Wl (by omega) (by omega) (by omega))
      have HNX:=J (show∀w2,Mp w2 B (n+hd.length+(bE (ks.take k)).length+(lN T).length) (dB (dB (dB f hd) (bE (ks.take k))) (lN T))→Mp w2 B (n+hd.length+(bE (ks.take (k+1))).length) (dB (dB f hd) (bE (ks.take (k+1))))from fun w2 h=>by
       rw [e1,pS,zS,←Nat.add_assoc];exact h)
      have ta:(k:Int)<(ks.length:Int):=by omega
      subst hKA;clear hT hcg e1 xI lj gW Wl hSg hgl;go_wp2_with (go_at_call 68;(with_reducible refine(vW.out).mono ?_);rintro e w2 ⟨rfl,uq,JZ⟩;have HM2:=J (HNX.out w2 uq);have rR:=J (yG.out.trans JZ);clear uq JZ)
      go_roundw
      case rel=>exact⟨k+1,by omega,by go_num,HM2,rR⟩
      case measure=>simp [intOf];omega
     ·obtain rfl:k=ks.length:=by omega
      have Vb:=J (show Mp wr B (n+(hd.length+(bE ks).length)) (dB f (hd++bE ks))by
       have:=HMR.out;rw [List.take_length,Nat.add_assoc]at this;rw [pS];exact this)
      have Qu: ¬(ks.length:Int)<(ks.length:Int):=by omega
      clear iE iP;go_wp2_with fail;go_ret
      first|exact⟨rfl,Vb.out,yG.out⟩|exact⟨rfl,Vb.out,by rw [cC.out];exact yG.out⟩
   ·rw [ze hq]at hhd
    obtain⟨w1,dz⟩: ∃w1,w1=w:=⟨_,rfl⟩;have qg:=J (show Mp w1 B (n+hd.length) (dB f hd)by rw [dz,←hhd];exact hM)
    have oi:=J (show ap [B] w w1 by rw [dz];exact ap.refl _ _)
    have q:(fl.k==1)=false:=ag hq;rw [←dz]at c0 c1 c9;have d9:=c9;rw [←dz];have cC:=J dz;clear hM hC hhd hq dz c9;go_enter func68,ntmps68;go_wp2_with fail
    go_loopw [26] (fun ix wr=> ∃k:Nat,k≤ks.length∧ix= .int .i64 (k:Int)∧Hid (Mp wr B (n+hd.length+(bE (ks.take k)).length) (dB (dB f hd) (bE (ks.take k))))∧Hid (ap [B] w wr)) (fun ix _=>ks.length-(intOf ix).toNat)
    case atStart=>exact⟨0,zO _,rfl,J (by simpa [bE,dB]using qg.out),oi⟩
    case round=>
     obtain⟨k,iP,rfl,HMR,yG⟩:=hrel
     rcases zj k ks.length with bw|iE
     ·obtain⟨T,hT⟩: ∃T,ks[k]? =some T:=⟨_,zk bw⟩
      have HAR:=J (HA.out.only yG.out (fun x hx hm=>QJ.out (by rw [←zt.1 hm];exact hx)))
      obtain⟨g,hKA,hSg,hgl,hcg⟩:=HR.out.at_ bw;have hcr:wr.cell? ⟨g,k,none⟩=some (ps k):=(zY (a:=⟨g,k,none⟩) (HAR.out.2 g hSg hgl)).trans hcg;have e1:=uW hT
      have xI:(bE (ks.take (k+1))).length≤(bE ks).length:=by
       have e2:bE ks=bE (ks.take (k+1))++bE (ks.drop (k+1)):=by rw [←nH,List.take_append_drop]
       rw [e2,zS];omega
      rw [e1,zS]at xI;have lj:=HN.out;have gW:=Wa.out;have Wl:=(HCT.out.bumps hd hc).bumps (bE (ks.take k)) (by omega)
      have vW:=J (HIH.out k T hT wr B _ _ _ HAR.out QJ.out HMR.out Wl (by omega) (by omega) (by omega))
      have HNX:=J (show∀w2,Mp w2 B (n+hd.length+(bE (ks.take k)).length+(lN T).length) (dB (dB (dB f hd) (bE (ks.take k))) (lN T))→Mp w2 B (n+hd.length+(bE (ks.take (k+1))).length) (dB (dB f hd) (bE (ks.take (k+1))))from fun w2 h=>by
       rw [e1,pS,zS,←Nat.add_assoc];exact h)
      have ta:(k:Int)<(ks.length:Int):=by omega
      subst hKA;clear hT hcg e1 xI lj gW Wl hSg hgl;go_wp2_with (go_at_call 68;(with_reducible refine(vW.out).mono ?_);rintro e w2 ⟨rfl,uq,JZ⟩;have HM2:=J (HNX.out w2 uq);have rR:=J (yG.out.trans JZ);clear uq JZ)
      go_roundw
      case rel=>exact⟨k+1,by omega,by go_num,HM2,rR⟩
      case measure=>simp [intOf];omega
     ·obtain rfl:k=ks.length:=by omega
      have Vb:=J (show Mp wr B (n+(hd.length+(bE ks).length)) (dB f (hd++bE ks))by
       have:=HMR.out;rw [List.take_length,Nat.add_assoc]at this;rw [pS];exact this)
      have Qu: ¬(ks.length:Int)<(ks.length:Int):=by omega
      clear iE iP;go_wp2_with fail;go_ret
      first|exact⟨rfl,Vb.out,yG.out⟩|exact⟨rfl,Vb.out,by rw [cC.out];exact yG.out⟩
def pU(B:Nat)(w:World)(e:Ending)(w':World):Prop:=e= .returned (.map (some B))∧w=w'
theorem jt{w:World}{S:Nat→Prop}{v:Value}{T:Tr}(h:iI w S v T): ∀(B:Nat),V6 T→Calls prog 69 #[v, .map (some B)] w (pU B w):=by
 induction h with
 | @mk b fl ks vv kv av kids ps hs hb hv hk ha hf hr hl _ ih=>
   intro B hnc;obtain⟨KA,kc,rfl,_,_⟩:=hr.slice;have c0:=hb.c0;have c9:=hb.c9;have aer:fl.k≠11∧GU ks:=by simpa [V6]using hnc
   have q:(fl.k==11)=false:=ag aer.1;have HNC:=J aer.2;have HIH:=J ih;have HR:=J hr;have hks:ks.length≤1000:=hl;clear hnc aer ih hr hb hs;unfold pU;go_enter func69,ntmps69;go_wp2_with fail
   go_loop [48] (fun ix=> ∃k:Nat,k≤ks.length∧ix= .int .i64 (k:Int)) (fun ix=>ks.length-(intOf ix).toNat)
   case atStart=>exact⟨0,zO _,rfl⟩
   case round=>
    obtain⟨k,iP,rfl⟩:=hrel
    rcases zj k ks.length with bw|iE
    ·obtain⟨T,hT⟩: ∃T,ks[k]? =some T:=⟨_,zk bw⟩
     obtain⟨g,hKA,_,_,hcg⟩:=HR.out.at_ bw;have vW:=J (HIH.out k T hT B (KY HNC.out hT));have ta:(k:Int)<(ks.length:Int):=by omega
     subst hKA;clear hT;go_wp2_with (go_at_call 69;(with_reducible refine(vW.out).mono ?_);rintro e w2 ⟨rfl,rfl⟩)
     go_round
     case rel=>exact⟨k+1,by omega,by go_num⟩
     case measure=>simp [intOf];omega
    ·obtain rfl:k=ks.length:=by omega
     have Qu: ¬(ks.length:Int)<(ks.length:Int):=by omega
     clear iE iP;go_wp2_with fail;go_ret;exact⟨rfl,rfl⟩
abbrev tS:TypeId:=101
def shC(pv:Value)(mu mc mk mp mi:Nat)(tn:Bool):Array Value:= #[pv, .map (some mu), .map (some mc), .map (some mk), .map (some mp), .map (some mi), .bool tn]
structure mM(w:World)(s:Nat)(pv:Value)(mu mc mk mp mi:Nat)(tn:Bool)(uf kf pf:Int→Option Value)(c:Nat):Prop where
 blk:ai w s tS (shC pv mu mc mk mp mi tn)
 u:Mp w mu 1000 uf
 k:Mp w mk c kf
 p:Mp w mp c pf
 uk:mu≠mk
 up:mu≠mp
 kp:mk≠mp
section
variable {w w':World} {s:Nat} {pv:Value} {mu mc mk mp mi:Nat} {tn:Bool} {uf kf pf:Int→Option Value} {c:Nat}
theorem mM.only{bs:List Nat}(h:mM w s pv mu mc mk mp mi tn uf kf pf c)(ho:ap bs w w')(h1:s∉bs)(h2:mu∉bs)(h3:mk∉bs)(h4:mp∉bs):mM w' s pv mu mc mk mp mi tn uf kf pf c:=
 ⟨h.blk.only ho h1,h.u.only ho h2,h.k.only ho h3,h.p.only ho h4,h.uk,h.up,h.kp⟩
theorem mM.below(h:mM w s pv mu mc mk mp mi tn uf kf pf c)(hb:Below w.heap.size w w'):mM w' s pv mu mc mk mp mi tn uf kf pf c:=
 h.only (ap.of_below (bs:=[]) hb) (by simp) (by simp) (by simp) (by simp)
theorem mM.drewN(h:mM w s pv mu mc mk mp mi tn uf kf pf c)(n:Nat):mM (w.drewN n) s pv mu mc mk mp mi tn uf kf pf c:=⟨h.blk,h.u,h.k,h.p,h.uk,h.up,h.kp⟩
theorem mM.turn(h:mM w s pv mu mc mk mp mi tn uf kf pf c):mM (w.setCell ⟨s,6,none⟩ (.bool true)) s pv mu mc mk mp mi true uf kf pf c:=
 ⟨h.blk.set_ 6 (.bool true),h.u.setCell (fun e=>(h.u.ne_blk h.blk) e.symm) _,h.k.setCell (fun e=>(h.k.ne_blk h.blk) e.symm) _,h.p.setCell (fun e=>(h.p.ne_blk h.blk) e.symm) _,h.uk,h.up,h.kp⟩
theorem mM.putP(h:mM w s pv mu mc mk mp mi tn uf kf pf c){x:Int}{u:Value}(hm:Mp w' mp (c+1) (og pf x u))(hg:w.grownBy w' (some mp)):mM w' s pv mu mc mk mp mi tn uf kf (og pf x u) (c+1):=
 ⟨h.blk.grown hg (fun e=>(h.p.ne_blk h.blk) (by injection e with e;exact e.symm)),h.u.kept hg (fun e=>h.up (by injection e)),(h.k.kept hg (fun e=>h.kp (by injection e))).mono (by omega),hm,h.uk,h.up,h.kp⟩
theorem mM.putK(h:mM w s pv mu mc mk mp mi tn uf kf pf c){x:Int}{u:Value}(hm:Mp w' mk (c+1) (og kf x u))(hg:w.grownBy w' (some mk)):mM w' s pv mu mc mk mp mi tn uf (og kf x u) pf (c+1):=
 ⟨h.blk.grown hg (fun e=>(h.k.ne_blk h.blk) (by injection e with e;exact e.symm)),h.u.kept hg (fun e=>h.uk (by injection e)),hm,(h.p.kept hg (fun e=>h.kp (by injection e with e;exact e.symm))).mono (by omega),h.uk,h.up,h.kp⟩
end
theorem NK(w:World)(s:Nat)(pv:Value)(mu mc mk mp mi:Nat)(tn:Bool)(uf kf pf:Int→Option Value)(c:Nat)(x:Int)(p:Option Addr)(h:mM w s pv mu mc mk mp mi tn uf kf pf c)(hc:c≤1000)(hx:okI x):
 Calls prog 135 #[.pointer (some ⟨s,0,none⟩), .int .i64 x, .pointer p] w fun e w'=>e= .returned (.tuple #[])∧mM w' s pv mu mc mk mp mi true uf kf (og pf x (.pointer p)) (c+1)∧ap [s,mp] w w':=by
 have c4:=h.blk.c4;have HS:=J h;have HX:=J hx;clear h hx;go_enter func135,ntmps135;go_wp2_with (at_mapUpdate;refine ue _ rfl _ _ _ QH 94 rfl D5 mp c pf rfl HS.out.p (by omega) x HX.out rfl (.pointer p) rfl ?_;intro w1 rP qC;have qu:=J (HS.out.putP rP qC);have oi:=J ((ap.refl [s,mp] w).grown qC (fun k e=> .inl (by injection e with e;rw [←e];simp)));have d6:=qu.out.blk.c6;have f6:=qu.out.blk.frozen 6;clear rP qC)
 go_end0
 exact⟨rfl,qu.out.turn,oi.out.setCell (.inl (by simp)) _⟩
def jk(w:World)(f:Fl)(e:Ending)(w':World):Prop:=
 ∃b,e= .returned (.pointer (some ⟨b,0,none⟩))∧iI w' (fun k=>w.heap.size≤k) (.pointer (some ⟨b,0,none⟩)) (.mk f [])∧Below w.heap.size w w'
theorem oX{f:Fl}(h:qt f):okI f.n:=h.2.1
theorem xk{w w1:World}{f:Fl}{vv kv av:Value}(n:Nat)(hv:rO 0 vv)(hk:rO 0 kv)(ha: ∃n,n≤1000∧rO n av)(hf:qt f)(h1:w1=w.drewN n):
 jk w f (.returned (.pointer (some ⟨w.heap.size,0,none⟩))) (w1.alloc (.cells (KX f vv kv av (.slice none 0 0)) tN)):=by
 subst h1;exact⟨_,rfl, .mk (fun _=> .nilFunc) (za _) (am (by rfl) _ _) hv hk ha hf (.inl ⟨rfl,rfl⟩) (by simp) (fun k T h=>by simp at h),(below_drewN (zg _ _) n).alloc (za _) _⟩
theorem ug{w:World}{S:Nat→Prop}{f:Fl}{ks:List Tr}{v:Value}(h:iI w S v (.mk f ks))(s:Nat)(hq:f.k≠1):
 Calls prog 136 #[.pointer (some ⟨s,0,none⟩),v] w (jk w f):=by
 cases h with
 | @mk b _ _ vv kv av kids ps hs hb hv hk ha hf hr hl ih=>
   obtain⟨VA,vc,rfl,_,_⟩:=id hv;obtain⟨KA,kc,rfl,_,_⟩:=id hk;obtain⟨an,QL,AA,ac,rfl,tf,tg⟩:=id ha;have c0:=hb.c0;have c1:=hb.c1;have c2:=hb.c2;have c3:=hb.c3;have c4:=hb.c4;have c5:=hb.c5;have c6:=hb.c6;have c7:=hb.c7;have c8:=hb.c8;have q:(f.k==1)=false:=ag hq;have HV:=J hv;have HK:=J hk;have HA:=J ha;have HF:=J hf;clear hb hv hk ha hf hr hl ih hq tf tg QL;obtain⟨Q,hQ⟩: ∃Q,jk w f=Q:=⟨_,rfl⟩;rw [hQ];have HQ:=J hQ;clear hQ;go_enter func136,ntmps136;go_wp2_with fail;refine Zi 2 ?_;rw [zI];go_wp2_with fail;rw [←HQ.out];exact xk 0 HV.out HK.out HA.out HF.out rfl
theorem NL{w:World}{S:Nat→Prop}{f:Fl}{ks:List Tr}{v:Value}(h:iI w S v (.mk f ks))(s:Nat){pv:Value}{mu mc mk mp mi:Nat}{tn:Bool}{uf kf pf:Int→Option Value}{c:Nat}(hS:mM w s pv mu mc mk mp mi tn uf kf pf c)(hq:f.k=1)(hp:pf f.n=none):
 Calls prog 136 #[.pointer (some ⟨s,0,none⟩),v] w (jk w f):=by
 cases h with
 | @mk b _ _ vv kv av kids ps hs hbc hv hk ha hf hr hl ih=>
   obtain⟨VA,vc,rfl,_,_⟩:=id hv;obtain⟨KA,kc,rfl,_,_⟩:=id hk;obtain⟨an,QL,AA,ac,rfl,tf,tg⟩:=id ha;have c0:=hbc.c0;have c1:=hbc.c1;have c2:=hbc.c2;have c3:=hbc.c3;have c4:=hbc.c4;have c5:=hbc.c5;have c6:=hbc.c6;have c7:=hbc.c7;have c8:=hbc.c8;rw [hq]at c0;have s4:=hS.blk.c4;have Lt: ∀n,(Instr.lookup QH (.map (some mp)) (.int .i64 f.n) true).run prog (w.drewN n)= .ok (.tuple #[.pointer none, .bool false]) (w.drewN n):=fun n=>by rw [(hS.drewN n).p.look D5 (GS _) (oX hf),hp];rfl
   have hl0:=Lt 0;have xN:(Instr.lookup QH (.map (some mp)) (.int .i64 f.n) true).run prog w.drew= .ok (.tuple #[.pointer none, .bool false]) w.drew:=Lt 1;have hl2:(Instr.lookup QH (.map (some mp)) (.int .i64 f.n) true).run prog w= .ok (.tuple #[.pointer none, .bool false]) w:=Lt 0;have HV:=J hv;have HK:=J hk;have HA:=J ha;have HF:=J hf;have HQ1:=J hq;clear hbc hv hk ha hf hr hl ih hq tf tg QL hS hp hl0;obtain⟨Q,hQ⟩: ∃Q,jk w f=Q:=⟨_,rfl⟩;rw [hQ];have HQ:=J hQ;clear hQ;go_enter func136,ntmps136;go_wp2_with fail;refine Zi 2 ?_;rw [zI];go_upto_region 2 with fail
   go_quiet (fail)
   go_wp2_with fail
   rw [←HQ.out];have JS:=xk (w:=w) nq HV.out HK.out HA.out HF.out rfl;unfold KX at JS;rw [HQ1.out]at JS;exact JS
theorem TZ{w:World}{S S2:Nat→Prop}{f g:Fl}{ks gks:List Tr}{v u:Value}(h:iI w S v (.mk f ks))(s:Nat){pv:Value}{mu mc mk mp mi:Nat}{tn:Bool}{uf kf pf:Int→Option Value}{c:Nat}(hS:mM w s pv mu mc mk mp mi tn uf kf pf c)(hq:f.k=1)(hp:pf f.n=some u)(h2:iI w S2 u (.mk g gks))(hg:g.k≠1):
 Calls prog 136 #[.pointer (some ⟨s,0,none⟩),v] w (jk w g):=by
 cases h with
 | @mk b _ _ vv kv av kids ps hs hbc hv hk ha hf hr hl ih=>
 cases h2 with
 | @mk b2 _ _ vv2 kv2 av2 kids2 ps2 hs2 hbd hv2 hk2 ha2 hf2 hr2 hl2 ih2=>
   obtain⟨VA,vc,rfl,_,_⟩:=id hv2;obtain⟨KA,kc,rfl,_,_⟩:=id hk2;obtain⟨an,QL,AA,ac,rfl,tf,tg⟩:=id ha2;have c0:=hbc.c0;have c1:=hbc.c1;have d0:=hbd.c0;have d1:=hbd.c1;have d2:=hbd.c2;have d3:=hbd.c3;have d4:=hbd.c4;have d5:=hbd.c5;have d6:=hbd.c6;have d7:=hbd.c7;have d8:=hbd.c8;rw [hq]at c0;have q:(g.k==1)=false:=ag hg;have s4:=hS.blk.c4;have Lt: ∀n,(Instr.lookup QH (.map (some mp)) (.int .i64 f.n) true).run prog (w.drewN n)= .ok (.tuple #[.pointer (some ⟨b2,0,none⟩), .bool true]) (w.drewN n):=fun n=>by rw [(hS.drewN n).p.look D5 (GS _) (oX hf),hp];rfl
   have xN:(Instr.lookup QH (.map (some mp)) (.int .i64 f.n) true).run prog w.drew= .ok (.tuple #[.pointer (some ⟨b2,0,none⟩), .bool true]) w.drew:=Lt 1;have hl2:(Instr.lookup QH (.map (some mp)) (.int .i64 f.n) true).run prog w= .ok (.tuple #[.pointer (some ⟨b2,0,none⟩), .bool true]) w:=Lt 0;have HV:=J hv2;have HK:=J hk2;have HA:=J ha2;have HF:=J hf2;clear hbc hv hk ha hf hr hl ih hbd hv2 hk2 ha2 hf2 hr2 hl2 ih2 hq tf tg QL hS hp hg hs hs2;obtain⟨Q,hQ⟩: ∃Q,jk w g=Q:=⟨_,rfl⟩;rw [hQ];have HQ:=J hQ;clear hQ;go_enter func136,ntmps136;go_wp2_with fail;refine Zi 3 ?_;rw [zI];go_upto_region 2 with fail
   go_quiet (fail)
   go_wp2_with fail
   rw [zI];go_wp2_with fail;rw [←HQ.out];exact xk nq HV.out HK.out HA.out HF.out rfl
set_option maxHeartbeats 8000000
abbrev Ft:TypeId:=94
theorem GV:(prog.info? Ft).map (fun i=>(i.zero,i.size,i.bytes))=some (some (.pointer none),1,8):=by kernel_rfl
theorem T0:prog.underlying 162=some (.slice Ft):=by kernel_rfl
def oh(n i:Nat)(pv:Nat→Value):List Value:=(List.range n).map fun j=>if j<i then pv j else .pointer none
theorem Av(n:Nat)(pv:Nat→Value):(madeCells #[Value.pointer none] n).toList=oh n 0 pv:=by
 unfold oh madeCells;simp [Nat.mod_one]
theorem xm{n i j:Nat}{pv:Nat→Value}(hi:i≤n)(h:j<i):(oh n i pv)[j]? =some (pv j):=by
 unfold oh;rw [zT,List.getElem?_range (by omega)]
 simp [h]
theorem uh{n i j:Nat}{pv:Nat→Value}(hj:j<n)(h:i≤j):(oh n i pv)[j]? =some (.pointer none):=by
 unfold oh;rw [zT,List.getElem?_range hj];simp [show¬j<i by omega]
theorem D8{n i:Nat}{pv:Nat→Value}(_:i<n)(u:Value):(oh n i pv).set i u=oh n (i+1) (fun j=>if j=i then u else pv j):=by
 unfold oh;refine ZY fun k=> ?_
 rw [List.getElem?_set,zT,zT]
 by_cases h1:i=k
 ·subst h1
  simp [*]
 ·rw [ze h1]
  by_cases h2:k<n
  ·rw [List.getElem?_range h2]
   have h3:(k<i+1)↔k<i:=by omega
   have h4:k≠i:=fun e=>h1 e.symm
   simp [h3,h4]
  ·rw [List.getElem?_eq_none_iff.2 (by simpa using h2)];rfl
theorem T4{w:World}{base size:Nat}{e:TypeId}{v:Value}{n:Nat}{xs:List Value}(h:w.ownsRow base e size v (n+1) xs): ∃g c,v= .slice (some ⟨g,0,none⟩) (n+1) c∧base≤g:=by
 rcases h.2 with⟨_,h0⟩|⟨g,cap,Co,rfl,hb,_⟩
 ·cases h0
 ·exact⟨g,cap,rfl,hb⟩
structure TLs(w0 wm:World)(L:List Fl)(lb:Nat)(pv:Nat→Value)(i:Nat)(wr:World):Prop where
 row:wr.ownsRow w0.heap.size Ft 1 (.slice (some ⟨lb,0,none⟩) L.length L.length) L.length (oh L.length i pv)
 bel:Below w0.heap.size w0 wr
 done: ∀j,j<i→iI wr (fun b=>w0.heap.size≤b∧b≠lb) (pv j) (Au L j)
 lbs:w0.heap.size<lb∧lb<wr.heap.size
 agr:Below lb wm wr
structure TKs(wc:World)(nb:Nat)(f:Fl)(vv kv av:Value)(pv:Nat→Value)(k:Nat)(kids:Value)(wr:World):Prop where
 box:ai wr nb tN (KX f vv kv av kids)
 own:wr.ownsRow wc.heap.size Ft 1 kids k ((List.range k).map fun j=>pv ((f.args.getD j 0).toNat))
 only:ap [nb] wc wr
theorem TKs.step{wc:World}{nb:Nat}{f:Fl}{vv kv av:Value}{pv:Nat→Value}{k:Nat}{kids kids2:Value}{wr w5:World}{o:Obj}{a:Int}(h:TKs wc nb f vv kv av pv k kids wr)(ha:f.args[k]? =some a)
 (bS:w5.ownsRow wc.heap.size Ft 1 kids2 (k+1) (((List.range k).map fun j=>pv ((f.args.getD j 0).toNat))++[pv a.toNat])) (hg:((wr.alloc o).drew).grownBy w5 kids.ownBlock) (hnb:nb<wc.heap.size):
 TKs wc nb f vv kv av pv (k+1) kids2 (w5.setCell ⟨nb,9,none⟩ kids2)∧ai w5 nb tN (KX f vv kv av kids):=by
 have lq:ai w5 nb tN (KX f vv kv av kids):=((h.box.alloc o).drew).grown hg (fun e=>ee h.own h.box (by decide) e.symm)
 refine⟨⟨lq.set_ 9 kids2,?_,(((h.only.alloc o).drew).grown hg (fun x hx=> .inr (zr h.own x hx).1)).setCell (.inl (by simp)) _⟩,lq⟩
 have hm:((List.range (k+1)).map fun j=>pv ((f.args.getD j 0).toNat))=((List.range k).map fun j=>pv ((f.args.getD j 0).toNat))++[pv a.toNat]:=by
  rw [List.range_succ,List.map_append];simp [List.getD,ha]
 rw [hm];refine bh bS (ap.one (M:=nb) (i:=9) (u:=kids2) (ap.refl [nb] w5)) (fun x hx hm=> ?_)
 have:=(zr bS x hx).1;have:=zt.1 hm;omega
theorem TLs.step{w0 wm:World}{L:List Fl}{lb:Nat}{pv:Nat→Value}{i:Nat}{wr wc w2:World}{nb:Nat}{t:Fl}{vv kv av kids:Value}(h:TLs w0 wm L lb pv i wr)(ht:L[i]? =some t)(uw:NJ L)(hb:Below wr.heap.size wr wc)(hnb:wr.heap.size≤nb)(hnc:nb<wc.heap.size)
 (hk:TKs wc nb t vv kv av pv t.args.length kids w2) (hvv:rO 0 vv) (hkv:rO 0 kv) (Lm: ∃n,n≤1000∧rO n av) (hf:qt t) (hal:t.args.length≤1000):
 TLs w0 wm L lb (fun j=>if j=i then .pointer (some ⟨nb,0,none⟩)else pv j) (i+1) (w2.setCell ⟨lb,i,none⟩ (.pointer (some ⟨nb,0,none⟩))):=by
 obtain⟨xN,hl2⟩:=h.lbs;have hi:=(zq.1 ht).1;have qy:=hb.size;have hs2:=hk.only.size;have dq:(w2.setCell ⟨lb,i,none⟩ (.pointer (some ⟨nb,0,none⟩))).heap.size=w2.heap.size:=by simp
 have ahx: ∀b,b<wr.heap.size→b≠lb→(w2.setCell ⟨lb,i,none⟩ (.pointer (some ⟨nb,0,none⟩))).heap[b]? =wr.heap[b]? :=fun b bw fa=>
  (Below.heap_setCell w2 _ _ b fa).trans ((hk.only.block b (by omega) (by simp;omega)).trans (hb.block b bw))
 have hr2:w2.ownsRow w0.heap.size Ft 1 (.slice (some ⟨lb,0,none⟩) L.length L.length) L.length (oh L.length i pv):=
  bh (bj h.row hb) hk.only (fun x hx hm=>by have:=zt.1 hm;have:lb=x:=zz hx;omega)
 have gK:=(Z7 hr2 i (.pointer (some ⟨nb,0,none⟩))).1;rw [D8 hi]at gK;have bu:Below w0.heap.size w0 w2:=dl (h.bel.trans (hb.mono h.bel.size)) hk.only (fun x hx=>by have:=zt.1 hx;have:=h.bel.size;omega) (by have:=h.bel.size;omega)
 refine⟨gK,bu.setCell (by show w0.heap.size≤lb;omega) _,fun j hj=> ?_,⟨xN,by rw [dq];omega⟩,(dl (h.agr.trans (hb.mono (by omega))) hk.only (fun x hx=>by have:=zt.1 hx;omega) (by omega)).setCell (za _) _⟩
 by_cases e:j=i
 ·subst e
  simp only [zh rfl];rw [TX uw ht];have Qv: ∀x,x≠lb→(w2.setCell ⟨lb,j,none⟩ (.pointer (some ⟨nb,0,none⟩))).heap[x]? =w2.heap[x]? :=fun x hx=>Below.heap_setCell w2 _ _ x hx
  refine .mk (fun k=>pv ((t.args.getD k 0).toNat)) ⟨by have:=h.bel.size;omega,by omega⟩ ((Qv nb (by omega)).trans hk.box) hvv hkv Lm hf ?_ (by simpa using hal) (fun k T hT=> ?_)
  ·have iP:=D6 (S:=fun b=>w0.heap.size≤b∧b≠lb) hk.own (fun g hg=>⟨by have:=h.bel.size;omega,by omega⟩)
   have:=iP.keep (w':=w2.setCell ⟨lb,j,none⟩ (.pointer (some ⟨nb,0,none⟩))) (by simp) (fun b hb _=>Qv b hb.2)
   simpa using this
  ·rw [zT]at hT
   cases ha:t.args[k]?with
   |none=>rw [ha]at hT;cases hT
   |some a=>
    rw [ha]at hT;injection hT with hT
    subst hT;obtain⟨a0,a1⟩:=uw j t ht a (zC ha);have hg:t.args.getD k 0=a:=by simp [List.getD,ha]
    simp only [hg];exact(h.done a.toNat (by omega)).keep (by rw [dq];omega) (fun b hb bw=>ahx b bw hb.2)
 ·rw [ze e]
  exact(h.done j (by omega)).keep (by rw [dq];omega) (fun b hb bw=>ahx b bw hb.2)
def Yq(L:List Fl)(aJ:Nat)(w:World)(e:Ending)(w':World):Prop:= ∃v,e= .returned v∧iI w' (fun b=>w.heap.size≤b) v (Au L aJ)∧Below w.heap.size w w'
theorem D9(L:List Fl)(aJ:Nat)(nv:Value)(w:World)(hN:NF w w.heap.size nv L)(hr:aJ<L.length)(hv: ∀t∈L,t.vars=[]∧t.keys=[])(uw:NJ L)(hl:L.length≤1000)(hal: ∀t∈L,t.args.length≤1000):
 Calls prog 67 #[.agg #[nv, .int .i64 (aJ:Int)]] w (Yq L aJ w):=by
 obtain⟨i0,gF,gX,dw,eU⟩:=Zv GV;obtain⟨NA,nc,rfl,lj,gW⟩:=hN.len;have HN:=J hN;have HV:=J hv;have Qm:=J uw;have Ci:=J hal;obtain⟨W1,QW⟩: ∃W1,w.alloc (.cells #[.slice NA L.length nc, .int .i64 (aJ:Int)] 63)=W1:=⟨_,rfl⟩;have bp:=J (show Below w.heap.size w W1 by rw [←QW];exact(zg _ _).alloc (za _) _)
 have dV:=J (show ai W1 w.heap.size 63 #[.slice NA L.length nc, .int .i64 (aJ:Int)]by rw [←QW];exact ai.new _ _ _)
 have c0:=dV.out.c0;have qy:W1.heap.size=w.heap.size+1:=by rw [←QW];simp
 have qu:=J qy;clear hN hv uw hal qy;go_enter func67,ntmps67;go_upto_region 2 with(refine wpList_make_full _ rfl _ _ _ rfl w.heap.size Ft i0 (.pointer none) 1 T0 gF gX dw _ _ _ _ L.length rfl rfl rfl rfl (by rw [eU];omega) (by unfold maxLen;omega) (by rw [qu.out];omega) ?_;intro w2 bX db)
 obtain⟨lb,Ll⟩: ∃lb,W1.heap.size=lb:=⟨_,rfl⟩;rw [Ll]at bX⊢;rw [show(madeCells (Value.pointer none).cells (L.length*1)).toList=oh L.length 0 (fun _=> .nilFunc)by rw [Zj];exact Av _ _]at bX
 have aes:Below W1.heap.size W1 w2:=(zg _ _).grown db (za _) (fun k hk=>by cases hk)
 have AK:=J (dV.out.below aes dV.out.lt);have d0:=AK.out.c0;have ta:=zr bX lb rfl;have qy:=qu.out;have HT0:=J (show TLs w w2 L lb (fun _=> .nilFunc) 0 w2 from⟨bX,bp.out.trans (aes.mono bp.out.size),fun j hj=>by omega,⟨by omega,ta.2⟩,zg _ _⟩)
 have HLB:=J (show lb=w.heap.size+1 by omega)
 clear bX db aes ta qy Ll c0;go_wp2_with fail
 go_loopw [16] (fun ix wr=> ∃(i:Nat) (pv:Nat→Value),i≤L.length∧ix= .int .i64 (i:Int)∧Hid (TLs w w2 L lb pv i wr)) (fun ix _=>L.length-(intOf ix).toNat)
 case atStart=>exact⟨0,_,zO _,rfl,HT0⟩
 case round=>
  obtain⟨i,pv,lQ,rfl,LA⟩:=hrel;obtain⟨wo,rfl⟩: ∃wo:World,wo=wr:=⟨_,rfl⟩
  rcases zj i L.length with bw|iE
  ·obtain⟨t,ht⟩: ∃t,L[i]? =some t:=⟨_,zk bw⟩
   have hNr:=HN.out.keep (fun p hp=>LA.out.bel.cell hp)
   obtain⟨ad,vv,kv,av,hA,hb,yI,p0,p1,p2,p3,p4,p5,p6,p7,p8⟩:=hNr.at9 ht;subst hA;obtain⟨hvn,We⟩:=HV.out t (zC ht);have hta:=Ci.out t (zC ht);have HFV:=J yI;obtain⟨VA,vc,rfl,aeu,ahC⟩:=yI.v.len;obtain⟨KA,kc,rfl,aet,ahB,_⟩:=yI.k;obtain⟨AA,ac,rfl,tf,tg⟩:=yI.a.len;rw [hvn]at p6 aeu;rw [We]at p7 aet;simp only [ZP]at p6 p7 aeu aet;have HVV:=J (show rO 0 (.slice VA 0 vc)from⟨_,_,rfl,zO _,ahC⟩)
   have HKV:=J (show rO 0 (.slice KA 0 kc)from⟨_,_,rfl,zO _,ahB⟩)
   have HAV:=J (show∃n,n≤1000∧rO n (.slice AA t.args.length ac)from⟨_,hta,_,_,rfl,tf,tg⟩)
   have HOK:=J (show qt t from⟨yI.rk,yI.rn,yI.rm,yI.ri,yI.ra⟩)
   have Fc:=J ht;have ta:(i:Int)<(L.length:Int):=by omega
   have aqS:(0:Int)≤(i:Int):=by omega
   clear hNr yI hvn We ht aeu ahC aet ahB tf tg;go_upto_region 6 with fail
   obtain⟨wc,lw⟩: ∃wc,(wo.alloc (.cells #[.int .i64 t.k, .int .i64 t.n, .int .i64 t.m, .int .i64 t.i, .int .u64 t.b, .string ⟨t.t.toArray⟩, .slice VA 0 vc, .slice KA 0 kc, .slice AA t.args.length ac] 28)).alloc (.cells #[.int .i64 t.k, .int .i64 t.n, .int .i64 t.m, .int .i64 t.i, .int .u64 t.b, .string ⟨t.t.toArray⟩, .slice VA 0 vc, .slice KA 0 kc, .slice AA t.args.length ac, .slice none 0 0] tN)=wc:=⟨_,rfl⟩;have rW:=J (show Below wo.heap.size wo wc by rw [←lw];exact aA _ _ _)
   have HFc:=J (show ai wc wo.heap.size 28 #[.int .i64 t.k, .int .i64 t.n, .int .i64 t.m, .int .i64 t.i, .int .u64 t.b, .string ⟨t.t.toArray⟩, .slice VA 0 vc, .slice KA 0 kc, .slice AA t.args.length ac]by rw [←lw];exact(ai.new _ _ _).alloc _)
   have hNB:ai wc (wo.heap.size+1) tN (KX t (.slice VA 0 vc) (.slice KA 0 kc) (.slice AA t.args.length ac) (.slice none 0 0)):=by rw [←lw];exact am (by simp) _ _
   rw [lw];obtain⟨nb,hnb⟩: ∃nb,wo.heap.size+1=nb:=⟨_,rfl⟩;rw [hnb]at hNB⊢;have alI:wo.heap.size≤nb:=by omega
   have ahy:nb<wc.heap.size:=hNB.lt;have alJ:=J (show TKs wc nb t (.slice VA 0 vc) (.slice KA 0 kc) (.slice AA t.args.length ac) pv 0 (.slice none 0 0) wc from⟨hNB,ZE _ _ _ _,ap.refl _ _⟩)
   have e8:=HFc.out.c8;have alH:=J hnb;clear lw hNB p0 p1 p2 p3 p4 p5 p6 p7 p8 hnb d0;go_wp2_with fail
   go_loopw [27] (fun ix w2=> ∃(k:Nat) (kids:Value),k≤t.args.length∧ix= .int .i64 (k:Int)∧Hid (TKs wc nb t (.slice VA 0 vc) (.slice KA 0 kc) (.slice AA t.args.length ac) pv k kids w2)) (fun ix _=>t.args.length-(intOf ix).toNat)
   case atStart=>exact⟨0,_,zO _,rfl,alJ⟩
   case round=>
    obtain⟨k,kids,iP,rfl,FC⟩:=hrel;obtain⟨kA,kc2,rfl⟩: ∃a c,kids= .slice a k c:=by obtain⟨a,c,e⟩:=eh FC.out.own;exact⟨a,c,e⟩
    rcases zj k t.args.length with ahz|alK
    ·obtain⟨a,ha⟩: ∃a,t.args[k]? =some a:=⟨_,zk ahz⟩
     obtain⟨a0,a1⟩:=Qm.out i t Fc.out a (zC ha);obtain⟨x,rfl⟩: ∃x:Nat,a=(x:Int):=⟨a.toNat,by omega⟩
     have J1: ∀p:Addr,p.block<w.heap.size→wr.cell? p=wo.cell? p:=fun p hp=>by
      have h1:=LA.out.bel.size;have h2:=rW.out.size;exact(zY (FC.out.only.block _ (by omega) (by simp;omega))).trans (rW.out.cell (by omega))
     obtain⟨aa,haa,_,ca⟩:=(HFV.out.a.keep J1).at_ ha;subst haa;have hxi:x<i:=by omega
     obtain⟨pb,iH⟩:=(LA.out.done x hxi).ptr;have aev:=LA.out.lbs
     have rN:wr.ownsRow w.heap.size Ft 1 (.slice (some ⟨lb,0,none⟩) L.length L.length) L.length (oh L.length i pv):=
      bh (bj LA.out.row rW.out) FC.out.only (fun y hy hm=>by have:=zt.1 hm;have:lb=y:=zz hy;omega)
     have cl:wr.cell? ⟨lb,x,none⟩=some (.pointer (some ⟨pb,0,none⟩)):=by
      rw [zM rN x (by omega),xm (by omega) hxi,iH]
     have e8r:wr.cell? ⟨wo.heap.size,8,none⟩=some (.slice (some aa) t.args.length ac):=(zY (FC.out.only.block wo.heap.size HFc.out.lt (by have:=alH.out;simp;omega))).trans e8
     have cld:wr.drew.cell? ⟨lb,x,none⟩=some (.pointer (some ⟨pb,0,none⟩)):=cl;have c9d:=FC.out.box.c9;have c9a: ∀o,(wr.alloc o).drew.cell? ⟨nb,9,none⟩=some (.slice kA k kc2):=fun o=>(FC.out.box.alloc o).drew.cell 9
     have hx2:(k:Int)<(t.args.length:Int):=by omega
     have hx3:(x:Int)<(L.length:Int):=by omega
     have hx4:(0:Int)≤(x:Int):=by omega
     have aqR:k<1000:=by omega
     have HAA:=J ha;have JU:=J FC.out.own;obtain⟨cR,VF⟩: ∃cR,((List.range k).map fun j=>pv ((t.args.getD j 0).toNat))=cR:=⟨_,rfl⟩
     rw [VF]at JU;have ahD:=J VF;have vy:=J iH;have ahA:=J ahz;clear ha J1 rN iH a0 a1 e8 cl VF aev hxi;go_upto_region 9 with fail
     go_region_law (first
      |(refine cQ _ rfl _ _ 162 rfl wc.heap.size Ft i0 _ 1 8 T0 gF gX dw eU rfl (by decide) _ k cR rfl (World.ownsRow.drew (ZN JU.out _)) _ _ _ _ [_] rfl (aT.blk' (ai.drew (ai.new _ _ _)) rfl) (by simp [Value.oneCell']) (by unfold maxLen;omega) (by omega) (by have:=FC.out.only.size;show wc.heap.size≤(wr.alloc _).heap.size;simp;omega) ?_;intro kv3 w5 lc k_ qD;obtain⟨g3,c3,ll,aap⟩:=T4 lc;subst ll;have Fb:=J (FC.out.step HAA.out (by rw [ahD.out];have:=vy.out;simp only [zv];rw [this];exact lc) k_ ahy);have c95:=Fb.out.2.c9;have f95:=Fb.out.2.frozen 9;clear lc k_ qD aap)
      |fail)
     all_goals
      go_wp2_with fail
      go_roundw
      case rel=>exact⟨k+1,_,by have:=ahA.out;omega,by go_num,J Fb.out.1⟩
      case measure=>simp [intOf];have:=ahA.out;omega
    ·obtain rfl:k=t.args.length:=by omega
     have aev:=LA.out.lbs
     have rN:wr.ownsRow w.heap.size Ft 1 (.slice (some ⟨lb,0,none⟩) L.length L.length) L.length (oh L.length i pv):=
      bh (bj LA.out.row rW.out) FC.out.only (fun y hy hm=>by have:=zt.1 hm;have:lb=y:=zz hy;omega)
     have cl:wr.cell? ⟨lb,i,none⟩=some (.pointer none):=by
      rw [zM rN i (by omega),uh bw (za _)]
     have fl:=Zt rN i;have aqW: ¬(t.args.length:Int)<(t.args.length:Int):=by omega
     have HNX:=J (LA.out.step Fc.out Qm.out rW.out alI ahy FC.out HVV.out HKV.out HAV.out HOK.out hta);have rS:=J bw;clear rN alK iP e8 aev;go_wp2_with fail
     go_roundw
     case rel=>exact⟨i+1,_,by have:=rS.out;omega,by go_num,HNX⟩
     case measure=>simp [intOf];have:=rS.out;omega
  ·obtain rfl:i=L.length:=by omega
   obtain⟨rb,hrb⟩:=(LA.out.done aJ hr).ptr;have HTR:=J (LA.out.done aJ hr)
   have cl:wo.cell? ⟨lb,aJ,none⟩=some (.pointer (some ⟨rb,0,none⟩)):=by
    rw [zM LA.out.row aJ (by omega),xm (za _) hr,hrb]
   have d1:wo.cell? ⟨w.heap.size,1,none⟩=some (.int .i64 (aJ:Int)):=by
    rw [LA.out.agr.cell (p:=⟨w.heap.size,1,none⟩) LA.out.lbs.1];exact AK.out.cell 1
   have hr2:(aJ:Int)<(L.length:Int):=by omega
   have Qu: ¬(L.length:Int)<(L.length:Int):=by omega
   have HRB:=J hrb;clear iE lQ hrb;go_wp2_with fail;go_ret;exact⟨_,rfl,by rw [←HRB.out];exact HTR.out.more (fun x hx _=>hx.1),LA.out.bel⟩
end Go.Proofs.YtcpmiplofbfmfaaGreatDoor
