/- The shortest digits: all positive finite reals. -/
import Derived.Test.YtcpmiplofbfmfaaGreatDoorA15
set_option linter.all false
namespace FloM
theorem acd:ay (fun j=>n8 (0+j)) 128=true:=by decide+kernel
theorem ace:ay (fun j=>n8 (128+j)) 128=true:=by decide+kernel
theorem acf:ay (fun j=>n8 (256+j)) 128=true:=by decide+kernel
theorem acg:ay (fun j=>n8 (384+j)) 128=true:=by decide+kernel
theorem ach:ay (fun j=>n8 (512+j)) 128=true:=by decide+kernel
theorem aci:ay (fun j=>n8 (640+j)) 128=true:=by decide+kernel
theorem acj:ay (fun j=>n8 (768+j)) 128=true:=by decide+kernel
theorem ack:ay (fun j=>n8 (896+j)) 128=true:=by decide+kernel
theorem acl:ay (fun j=>n8 (1024+j)) 128=true:=by decide+kernel
theorem acm:ay (fun j=>n8 (1152+j)) 128=true:=by decide+kernel
theorem Xj:ay (fun j=>n8 (1280+j)) 128=true:=by decide+kernel
theorem Xk:ay (fun j=>n8 (1408+j)) 128=true:=by decide+kernel
theorem Xl:ay (fun j=>n8 (1536+j)) 128=true:=by decide+kernel
theorem Xm:ay (fun j=>n8 (1664+j)) 128=true:=by decide+kernel
theorem Xn:ay (fun j=>n8 (1792+j)) 128=true:=by decide+kernel
theorem Xo:ay (fun j=>n8 (1920+j)) 127=true:=by decide+kernel
theorem afO(j:Nat)(hj:j<2047):n8 j=true:=by
 rcases zj j 128 with h0|h0
 ·have:=bn acd (j-0) (by omega)
  rwa [show 0+(j-0)=j by omega]at this
 rcases zj j 256 with h1|h1
 ·have:=bn ace (j-128) (by omega)
  rwa [show 128+(j-128)=j by omega]at this
 rcases zj j 384 with h2|h2
 ·have:=bn acf (j-256) (by omega)
  rwa [show 256+(j-256)=j by omega]at this
 rcases zj j 512 with h3|h3
 ·have:=bn acg (j-384) (by omega)
  rwa [show 384+(j-384)=j by omega]at this
 rcases zj j 640 with h4|h4
 ·have:=bn ach (j-512) (by omega)
  rwa [show 512+(j-512)=j by omega]at this
 rcases zj j 768 with h5|h5
 ·have:=bn aci (j-640) (by omega)
  rwa [show 640+(j-640)=j by omega]at this
 rcases zj j 896 with h6|h6
 ·have:=bn acj (j-768) (by omega)
  rwa [show 768+(j-768)=j by omega]at this
 rcases zj j 1024 with h7|h7
 ·have:=bn ack (j-896) (by omega)
  rwa [show 896+(j-896)=j by omega]at this
 rcases zj j 1152 with h8|h8
 ·have:=bn acl (j-1024) (by omega)
  rwa [show 1024+(j-1024)=j by omega]at this
 rcases zj j 1280 with h9|h9
 ·have:=bn acm (j-1152) (by omega)
  rwa [show 1152+(j-1152)=j by omega]at this
 rcases zj j 1408 with JK|JK
 ·have:=bn Xj (j-1280) (by omega)
  rwa [show 1280+(j-1280)=j by omega]at this
 rcases zj j 1536 with h11|h11
 ·have:=bn Xk (j-1408) (by omega)
  rwa [show 1408+(j-1408)=j by omega]at this
 rcases zj j 1664 with h12|h12
 ·have:=bn Xl (j-1536) (by omega)
  rwa [show 1536+(j-1536)=j by omega]at this
 rcases zj j 1792 with h13|h13
 ·have:=bn Xm (j-1664) (by omega)
  rwa [show 1664+(j-1664)=j by omega]at this
 rcases zj j 1920 with h14|h14
 ·have:=bn Xn (j-1792) (by omega)
  rwa [show 1792+(j-1792)=j by omega]at this
 have:=bn Xo (j-1920) (by omega)
 rwa [show 1920+(j-1920)=j by omega]at this
theorem C_(u:Nat)(h0:0<u)(hf:u<cap)(e:Int)(h1:val u*tB e<tA e*KK)(h2:tA (e-1)*KK≤val u*tB (e-1)):Ends u e:=by
 have pu:cap=9218868437227405312:=by decide
 have QF: ∀j,j<2047→p2 j=u→Ends u e:=by
  intro j hj hu;have h:=afO j hj;simp only [n8,Zm,Nat.blt_eq,Nat.ble_eq]at h;obtain⟨⟨k1,k2⟩,k3⟩:=h;rw [hu]at k1 k2 k3;have:=ab8 h1 h2 k1 k2;rw [this];exact Mv hf k3
 rcases zj u (2^52)with hs|hs
 ·rcases zj u 3 with h3|h3
  ·have:u=1∨u=2:=by omega
   rcases this with h|h
   ·exact QF 0 (by omega) (by rw [h];decide)
   ·exact QF 1 (by omega) (by rw [h];decide)
  ·exact(ab7 u h3 hs).ends h1 h2
 ·by_cases hin:u%2^52≠0∨u/2^52=1
  ·exact(Xe u hs hf hin).ends h1 h2
  ·refine QF (u/2^52) (by omega) ?_
   unfold p2
   have:Nat.blt (u/2^52) 2=false:=by
    rw [←Bool.not_eq_true,Nat.blt_eq];omega
   rw [this,cond_false];omega
end FloM
