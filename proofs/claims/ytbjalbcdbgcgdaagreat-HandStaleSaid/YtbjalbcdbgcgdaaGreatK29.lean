/- Law HandStale: its texts, packed. -/
import Derived.Test.YtbjalbcdbgcgdaaGreatK28
import Derived.Test.YtbjalbcdbgcgdaaGreatK07
import Derived.Test.YtbjalbcdbgcgdaaGreatK27
import Derived.Test.YtbjalbcdbgcgdaaGreatK25
import Derived.Test.YtbjalbcdbgcgdaaGreatK14
import Derived.Test.YtbjalbcdbgcgdaaGreatK16
open List renaming drop->n5,length_append->ag,length_singleton->df,length_take->b9,mem_of_getElem?->jm,replicate->eb,take_add_one->ki,take_of_length_le->dc
open Nat renaming eq_zero_or_pos->ei,le_refl->aq,le_trans->ae,lt_or_ge->iq,pow_le_pow_right->ib,zero_le->fg
open Int renaming eq_ofNat_of_zero_le->iy,one_mul->nz,toNat_natCast->fq,toNat_of_nonneg->ny
open Prod renaming ext->n6
set_option linter.unusedVariables false
set_option maxRecDepth 100000
set_option maxHeartbeats 8000000
namespace Go.Proofs.YtbjalbcdbgcgdaaGreat.lz
open Go.RowKit bG sl
def xZ (L B:Nat→Nat) (i n b st:Nat):Prop:=(st=1∨3≤st∧st<n∧st≤L i)∧b=B (i+st)+1∧b≤B (i+1)+1∧ ∀ m,3≤m→m<n→m≤L i→b≤B (i+m)+1
theorem auT (L B:Nat→Nat) (i:Nat):xZ L B i 3 (B (i+1)+1) 1:=⟨.inl rfl,rfl,aq _,fun m h1 h2=>by omega⟩
theorem auU {L B:Nat→Nat} {i n b st:Nat} (h:xZ L B i n b st) (h3:3≤n) (hn:n≤L i) (hb:B (i+n)+1≤b):xZ L B i (n+1) (B (i+n)+1) n:=by
 obtain⟨h1,h2,h4,h5⟩:=h;refine⟨.inr ⟨h3,by omega,hn⟩,rfl,by omega,fun m a1 a2 a3=> ?_⟩;rcases (by omega:m<n∨m=n) with h|rfl
 ·have:=h5 m a1 h a3;omega
 ·exact aq _
theorem auV {L B:Nat→Nat} {i n b st:Nat} (h:xZ L B i n b st) (hb:b<B (i+n)+1):xZ L B i (n+1) b st:=by
 obtain⟨h1,h2,h4,h5⟩:=h;refine⟨h1.imp id fun h=>⟨h.1,by omega,h.2.2⟩,h2,h4,fun m a1 a2 a3=> ?_⟩;rcases (by omega:m<n∨m=n) with h|rfl
 ·exact h5 m a1 h a3
 ·omega
theorem aAP {s:List UInt8} {L D B S:Nat→Nat} {i n b st:Nat} (hL:sB s L D) (hi:i<s.length) (hB:Dp s L B S (i+1)) (h:xZ L B i n b st) (hn:L i<n):Dp s L (fJ B i b) (fJ S i st) i:=by
 obtain⟨h1,h2,h4,h5⟩:=h;obtain⟨g1,g2⟩:=hB;have hb1: ∀ j,i<j→fJ B i b j=B j:=fun j hj=>AU _ _ (by omega)
 have hnx:B (i+1)+(i+1)≤s.length:=by
  rcases iq (i+1) s.length with h|h
  ·exact (g2 (i+1) (aq _) h).2.2.2.2
  ·have:i+1=s.length:=by omega
   rw[this,g1];omega
 refine⟨by rw[hb1 _ hi];exact g1,fun j hij hj=> ?_⟩;rcases (by omega:j=i∨i+1≤j) with rfl|hij2
 ·rw[pR,pR,hb1 (j+1) (by omega)];refine⟨h1.imp id fun h=>⟨h.1,h.2.2⟩, ?_,h4,fun m a1 a2=> ?_,by omega⟩
  ·rw[hb1 _ (by omega)];exact h2
  ·rw[hb1 _ (by omega)];exact h5 m a1 (by omega) a2
 ·obtain⟨k1,k2,k3,k4,k5⟩:=g2 j hij2 hj;rw[AU S st (by omega),hb1 j (by omega),hb1 (j+1) (by omega)];refine⟨k1, ?_,k3,fun m a1 a2=> ?_,k5⟩
  ·rw[hb1 _ (by omega)];exact k2
  ·rw[hb1 _ (by omega)];exact k4 m a1 a2
theorem auW {s:List UInt8} (L:Nat→Nat):Dp s L (fun _=>0) (fun _=>0) s.length:=⟨rfl,fun i h1 h2=>by omega⟩
attribute [local irreducible] box own sl gH aH bC Qt cJ cG dC dG eO
theorem AW (s:List UInt8) (hs:s.length≤512):
  Ct Tryz.prog 303 [.string (str s)] [] fun v H'=> ∃ out q c,Found s out∧v= .tuple #[.slice q out.length c, .int .i64 0]∧H'=[own (.slice q out.length c) 356 3 out.length (flat VA out)]:=by
 have C0:=aaS s hs;obtain⟨N,hN⟩: ∃ N,s.length=N:=⟨_,rfl⟩;rw[hN] at C0 hs;(refine Ye Tryz.func303 Tryz.ntmps303 ?_;intro Fr);refine dN ?_;(refine Ca (C0) ?_;rintro _ _ ⟨_,⟨L,D,q1,q2,hL,rfl,rfl⟩,rfl⟩;refine Da ?_);have hLN: ∀ i,i<N→L i=0∨3≤L i∧i+L i≤N:=fun i hi=>by
  rcases (hL i (by omega)).1 with h|h
  ·exact .inl h
  ·exact .inr ⟨h.1,by omega⟩
 refine dN ?_;refine nQ 0 (σ:=Option Addr×Option Addr) (fun _=>True) (fun x=>[(6, .slice x.1 (N+1) (N+1)),(7, .slice x.2 (N+1) (N+1))]) (fun x=>[own (.slice x.1 (N+1) (N+1)) 3 1 (N+1) (flat fI (dX (N+1) fun _=>0)),own (.slice x.2 (N+1) (N+1)) 3 1 (N+1) (flat fI (dX (N+1) fun _=>0))]) ?_ ?_<;>dsimp only[n5]
 ·(refine aB (Hq:=[]) [] [] rfl (by kernel_rfl) Za ?_);refine gX ?_;(refine aA 3 ?_;refine cU 7 (by kernel_rfl) ?_ ?_)
  ·(refine Oc (l:=by exact (cT (fI) (0) (c:=(N+1)) rfl rfl rfl Ze Ze rfl rfl (by omega) Zg)) (k:= ?_);rintro _ _ ⟨q3,rfl,rfl⟩;refine Te ?_;(try refine Da ?_));refine gX ?_;(refine aA 7 ?_;refine Oa (l:=by exact (cT (fI) (0) (c:=(N+1)) rfl rfl rfl Ze Ze rfl rfl (by omega) Zg)) (k:= ?_);rintro _ _ ⟨q4,rfl,rfl⟩;refine Te ?_;(try refine Da ?_));rw[kT];refine Yw8 ?_;exact pH ((q3,q4)) (by trivial) (jB.of gA) yP
  ·(refine Oc (l:=by exact (cT (fI) (0) (c:=(N+1)) rfl rfl rfl Ze Ze rfl rfl (by omega) Zg)) (k:= ?_);rintro _ _ ⟨q4,rfl,rfl⟩;refine Te ?_;(try refine Da ?_));refine gX ?_;(refine aA 3 ?_;refine Oa (l:=by exact (cT (fI) (0) (c:=(N+1)) rfl rfl rfl Ze Ze rfl rfl (by omega) Zg)) (k:= ?_);rintro _ _ ⟨q3,rfl,rfl⟩;refine Te ?_;(try refine Da ?_));rw[kT];refine Yw8 ?_;exact pH ((q3,q4)) (by trivial) (jB.of gA) yP
 rintro⟨q3,q4⟩ _;refine Da ?_;refine dN ?_;rw[hN];(refine aC (σ:=Nat×(Nat→Nat)×(Nat→Nat)) (fun x=>x.1≤N∧Dp s L x.2.1 x.2.2 x.1) (fun x=>[(8, .int .i64 ((x.1:Int)-1))]) (fun x=>[own (.slice q3 (N+1) (N+1)) 3 1 (N+1) (flat fI (dX (N+1) x.2.1)),own (.slice q4 (N+1) (N+1)) 3 1 (N+1) (flat fI (dX (N+1) x.2.2))]) _ (fun x=>x.1) ((N,fun _=>0,fun _=>0)) (by exact⟨aq _,by rw[←hN];exact auW L⟩) (by exact gA) Zb (fun⟨j,B,S⟩ ⟨hjN,hB⟩=> ?_);refine Da ?_);dsimp only at hjN hB ⊢;cases j with
 |zero=>
  refine dN ?_;refine aT (aY _ 356 3) ?_;(refine aC (σ:=Nat×Option Addr×Nat×List (Int×Int×Int)) (fun x=>Way s B x.1 x.2.2.2) (fun x=>[(11, .int .i64 (x.1:Int)),(10, .slice x.2.1 x.2.2.2.length x.2.2.1)]) (fun x=>[own (.slice x.2.1 x.2.2.2.length x.2.2.1) 356 3 x.2.2.2.length (flat VA x.2.2.2)]) _ (fun x=>N-x.1) ((0,none,0,[])) (by exact azN s B) (by exact gA) Zb (fun⟨i,q5,c5,out⟩ hW=> ?_);refine Da ?_);dsimp only at hW ⊢;have hiN:i≤N:=by have:=hW.1;omega
  have hB0:B 0≤N:=by
   rcases ei s.length with h|h
   ·have:=hB.1;rw[h] at this;omega
   ·have:=(hB.2 0 (fg _) h).2.2.2.2;omega
  have hol:out.length≤512:=by have:=hW.2.2.2;omega
  rcases iq i N with hlt|hge
  ·have hi2:i<s.length:=by omega
   obtain⟨x,hx⟩: ∃ x,s[i]? =some x:=⟨_,List.getElem?_eq_getElem hi2⟩;have hxd:s.getD i 0=x:=by rw[List.getD_eq_getElem?_getD,hx];rfl
   have hWn:=atL (by omega) hL hB hi2 hW;have hst:=RO (by omega) hL hB hi2 hW.2.1;have gS:(dX (N+1) S)[i]? =some ((S i:Nat):Int):=dI _ (by omega);have gD:(dX N D)[i]? =some ((D i:Nat):Int):=dI _ (by omega);have hsum:(i:Int)+((S i:Nat):Int)=((i+S i:Nat):Int):=by omega
   have hS1:=hst.1;have hS2:=hst.2.1;by_cases hs1:S i=1
   ·have hm:qW s S D i=(0,0,(x.toNat:Int)):=by unfold qW;rw[if_pos hs1,hxd]
    rw[hm] at hWn;(repeat' (first|refine Wa ?_|refine aF ?_|(refine Wq ?_;intro q)|fail));refine aI wt rfl (by first|exact Ma (VA) [(0,0,(x.toNat:Int))] rfl|exact Mb (VA) [(0,0,(x.toNat:Int))] rfl) ?_;rintro _ _ ⟨q6,c6,rfl,rfl⟩;refine eU ?_;rw[hsum];refine Ee ((i+S i,q6,c6,out++[(0,0,(x.toNat:Int))])) ?_ ?_
    ·exact hWn
    ·dsimp only;omega
   ·have hm:qW s S D i=((S i:Int),(D i:Int),0):=by unfold qW;rw[if_neg hs1]
    rw[hm] at hWn;refine dN ?_;(refine aB (Hq:=[_,_]) [2,4] [] rfl (by kernel_rfl) Za ?_);refine gX ?_;(refine aA 10 ?_;refine Oa (l:=by exact aM rfl rfl rfl (by exact lE) rfl rfl (by decide) rfl) (k:= ?_);rintro _ _ ⟨q9,rfl,rfl⟩;refine Te ?_;(try refine Da ?_));(refine aA 11 ?_;refine Oa (l:=by exact (by first|exact Ma (VA) [((S i:Int),(D i:Int),0)] rfl|exact Mb (VA) [((S i:Int),(D i:Int),0)] rfl)) (k:= ?_);rintro _ _ ⟨q6,c6,rfl,rfl⟩;refine Te ?_;(try refine Da ?_));refine pT ?_;rw[hsum];refine Ee ((i+S i,q6,c6,out++[((S i:Int),(D i:Int),0)])) ?_ ?_
    ·exact hWn
    ·dsimp only;omega
  ·have hil:i=s.length:=by omega
   rw[hil] at hW;have hF:=azO (by omega) hL hB hW;refine dN ?_;exact Ea (x:=⟨out,q5,c5,hF,rfl,rfl⟩)
 |succ i=>
  have hj:((i+1:Nat):Int)-1=(i:Int):=by omega
  rw[hj];have hi1:(i:Int)+1=((i+1:Nat):Int):=by omega
  have gB:(dX (N+1) B)[i+1]? =some ((B (i+1):Nat):Int):=dI _ (by omega);have gB0:(dX (N+1) B)[i]? =some ((B i:Nat):Int):=dI _ (by omega);have gS0:(dX (N+1) S)[i]? =some ((S i:Nat):Int):=dI _ (by omega);have gL:(dX N L)[i]? =some ((L i:Nat):Int):=dI _ (by omega);have hb:((B (i+1):Nat):Int)+1=((B (i+1)+1:Nat):Int):=by omega
  have hbN:B (i+1)≤N:=by
   rcases iq (i+1) s.length with h|h
   ·have:=(hB.2 (i+1) (aq _) h).2.2.2.2;omega
   ·have h9:i+1=s.length:=by omega
    rw[h9,hB.1];omega
  have hBb: ∀ j,i<j→j≤N→B j≤N:=fun j h1 h2=>by
   rcases iq j s.length with h|h
   ·have:=(hB.2 j h1 h).2.2.2.2;omega
   ·have h9:j=s.length:=by omega
    rw[h9,hB.1];omega
  refine dN ?_;refine dJ wt rfl (bR (i:=i+1) rfl rfl rfl aN (by omega) (by omega)) ?_;refine eU ?_;rw[hb];(refine cM wt (aG (f:=fI) (q':=((B (i+1)+1:Nat):Int)) rfl rfl rfl rfl (by exact aN) rfl (by omega) (by intro _;rfl) (by assumption) rfl rfl (by rfl)) ?_;rintro _ _ ⟨rfl,rfl⟩);rw[fK _ _ (by omega)];refine eU ?_;(refine cM wt (aG (f:=fI) (q':=((1:Nat):Int)) rfl rfl rfl rfl (by exact aN) rfl (by omega) (by intro _;rfl) (by assumption) rfl rfl (by rfl)) ?_;rintro _ _ ⟨rfl,rfl⟩);rw[fK _ _ (by omega)];refine dN ?_;(refine aC (σ:=Nat×Nat×Nat) (fun x=>(3≤x.1∧x.1≤1000)∧xZ L B i x.1 x.2.1 x.2.2) (fun x=>[(9, .int .i64 (x.1:Int))]) (fun x=>[own (.slice q3 (N+1) (N+1)) 3 1 (N+1) (flat fI (dX (N+1) (fJ B i x.2.1))),own (.slice q4 (N+1) (N+1)) 3 1 (N+1) (flat fI (dX (N+1) (fJ S i x.2.2)))]) _ (fun x=>L i+1-x.1) ((3,B (i+1)+1,1)) (by exact⟨⟨aq 3,show 3≤1000 by decide⟩,auT L B i⟩) (by exact gA) Zb (fun⟨n,b,st⟩ ⟨⟨hn3,hn1000⟩,hbe⟩=> ?_);refine Da ?_);dsimp only at hn3 hn1000 hbe ⊢;rcases iq (L i) n with hlt|hge
  ·refine dN ?_;refine Ee ((i,fJ B i b,fJ S i st)) ?_ ?_
   ·exact⟨by omega,aAP hL (by omega) hB hbe hlt⟩
   ·dsimp only;omega
  ·have hLi:=hLN i (by omega);have gBn:(dX (N+1) (fJ B i b))[i+n]? =some ((B (i+n):Nat):Int):=by rw[dI _ (by omega),AU _ _ (by omega)]
   have gBi:(dX (N+1) (fJ B i b))[i]? =some (b:Int):=by rw[dI _ (by omega),pR]
   have gSi:(dX (N+1) (fJ S i st))[i]? =some (st:Int):=by rw[dI _ (by omega),pR]
   have hin:(i:Int)+(n:Int)=((i+n:Nat):Int):=by omega
   have hbn:((B (i+n):Nat):Int)+1=((B (i+n)+1:Nat):Int):=by omega
   have hBn:=hBb (i+n) (by omega) (by omega);have hbb:b≤N+1:=by have:=hbe.2.2.1;omega
   by_cases hle:B (i+n)+1≤b
   ·refine KA ?_;rw[hbn];(refine cM wt (aG (f:=fI) (q':=((B (i+n)+1:Nat):Int)) rfl rfl rfl rfl (by exact aN) rfl (by omega) (by intro _;rfl) (by assumption) rfl rfl (by rfl)) ?_;rintro _ _ ⟨rfl,rfl⟩);rw[fK _ _ (by omega),kX];refine eU ?_;(refine cM wt (aG (f:=fI) (q':=(n:Int)) rfl rfl rfl rfl (by exact aN) rfl (by omega) (by intro _;rfl) (by assumption) rfl rfl (by rfl)) ?_;rintro _ _ ⟨rfl,rfl⟩);rw[fK _ _ (by omega),kX];refine eU ?_;refine Ee ((n+1,B (i+n)+1,n)) ?_ ?_
    ·exact⟨by omega,auU hbe hn3 hge hle⟩
    ·dsimp only;omega
   ·have hlt9:b<B (i+n)+1:=by omega
    refine KA ?_;refine Ee ((n+1,b,st)) ?_ ?_
    ·exact⟨by omega,auV hbe hlt9⟩
    ·dsimp only;omega
end Go.Proofs.YtbjalbcdbgcgdaaGreat.lz
namespace Go.Proofs.YtbjalbcdbgcgdaaGreat.lz
open Go.RowKit bG sl
theorem aAQ:VA=wE:=by
 funext p;rfl
theorem aAR (s:List UInt8) (hs:s.length≤512):Ct Tryz.prog 303 [.string (str s)] [] fun v H'=> ∃ out q c,Found s out∧v= .tuple #[.slice q out.length c, .int .i64 0]∧H'=[own (.slice q out.length c) 356 3 out.length (flat wE out)]:=by
 rw[←aAQ];exact AW s hs
theorem anG (q:Option Addr) (c:Nat) (xs:List (Int×Int×Int)) (hg: ∀ p∈xs,qV p) (hn:xs.length≤100000000000000000) {r:List UInt8} {e:Nat} (h:wH xs=(r,e)):Ct Tryz.prog 223 [.slice q xs.length c] [sl 3 (.slice q xs.length c) (xs.map wE)] fun v H'=>v= .tuple #[.string (str r), .int .i64 (e:Int)]∧H'=[]:=
 aW fun w hw=>(aeC _ xs w (hw.head:bM w 3 _ (xs.map wE)) hg hn).mono fun e w' ⟨h1,h2⟩=>⟨by rw[h1,h],h2⟩
end Go.Proofs.YtbjalbcdbgcgdaaGreat.lz
namespace Go.Proofs.YtbjalbcdbgcgdaaGreat.kG
open Go.RowKit bG sl put code lens
theorem aaT (b:Nat) (q:Option Addr) (c:Nat) {A:List Int} (hc:cH A=0) (T:List UInt8) (hT:T.length≤100000) (k:Nat) (hk:k≤8*T.length) {x:Int} {k2:Nat} (h:code.one A T k=(x,k2,0)):Ct Tryz.prog 265 [aH b 0, .string (str T), .int .i64 (k:Int)] [box b (sY (.slice q (oJ A 15).length c) (fA A 16) (fR A 16) (fC A)) 351,sl 1 (.slice q (oJ A 15).length c) ((oJ A 15).map fI)] fun v H'=>v= .tuple #[.int .i64 x, .int .i64 (k2:Int), .int .i64 0]∧H'=[box b (sY (.slice q (oJ A 15).length c) (fA A 16) (fR A 16) (fC A)) 351]:=by
 have hl:=(iL hc).1;have O:=azF b q c (oJ A 15) (fA A 16) (fR A 16) (fC A) T k (aEB hl) (aEC hl) (aED A) (by have h9:=aiD A 15;have:15*A.length≤15*320:=Nat.mul_le_mul_left _ hl;omega) (by omega) hk;unfold code.one at h;rw[h] at O;exact O
theorem aER (m:Mk): ∀ u∈wE m,u.oneCell'=true:=by simp [wE,Value.oneCell']
attribute [local irreducible] box own sl gH aH bC Qt cJ cG dC dG eO
attribute [local irreducible] sY cH oJ fA fR fC code.one pieces anA fG eN pcs runs.aR bits.iG bits.pW bits.total
theorem anH (b0:Nat) (A B:List Int) (out:List Mk) (h:SA A B out) (hA:A.length=320) (hB:B.length=9) (hol:out.length≤512):
  Ct Tryz.prog 222 [aH b0 0, .int .i64 (out.length:Int)] [box b0 [.string (str (runs.aR A++(runs.aR B++bits.iG (pieces A B out)))), .bool false] 306]
   fun v H'=> ∃ q c,v= .slice q out.length c∧H'=[own (.slice q out.length c) 356 3 out.length (flat wE out),box b0 [.string (str (bits.iG (pieces A B out))), .bool false] 306]:=by
 have hpl:=DU h hol;have hw2:=kO B;have hst:=VO (vS h);have L1:=ajC b0 A (runs.aR B++bits.iG (pieces A B out)) hA h.ca Zi;have L2:=ajC b0 B (bits.iG (pieces A B out)) hB h.cb (by omega);have hca:=h.ca;have hcb:=h.cb;have OA:=fun b q c k hk x k2 h=>aaT b q c hca (bits.iG (pieces A B out)) (by omega) k hk (x:=x) (k2:=k2) h
 have OB:=fun b q c k hk x k2 h=>aaT b q c hcb (bits.iG (pieces A B out)) (by omega) k hk (x:=x) (k2:=k2) h
 have FR:=fun k=>aAF (bits.iG (pieces A B out)) k
 have NX:=fun w k a t h1 h2=>aAE w k a t (bits.iG (pieces A B out)) h1 h2 (by omega)
 unfold rdE auN at FR;unfold rdE at NX;unfold KX at L1 L2;generalize bits.iG (pieces A B out)=T at*;generalize runs.aR A=w1 at*;generalize runs.aR B=w2 at*;(refine Ye Tryz.func222 Tryz.ntmps222 ?_;intro Fr);refine aZ ?_;(refine Ca (L1) ?_;rintro _ _ ⟨_,⟨q1,c1,rfl,rfl⟩,rfl⟩;refine Da ?_);refine aS (bI (f:=fI) (ys:=oJ A 15) aN (fun _=>rfl) rfl) ?_;(repeat' (first|(refine Wb ?_;intro b)|fail));refine cM wt (cX rfl rfl rfl aN (hU ..) (by rw[hU];rfl) ?_ (rZ (by rw[hU];rfl))) ?_
 ·unfold sY;simp [Value.oneCell']
 rintro _ _ ⟨rfl,rfl⟩;refine aZ ?_;obtain⟨b1,hb1⟩: ∃ x,x=b:=⟨_,rfl⟩;subst hb1;(refine Ca (L2) ?_;rintro _ _ ⟨_,⟨q2,c2,rfl,rfl⟩,rfl⟩;refine Da ?_);refine aS (bI (f:=fI) (ys:=oJ B 15) aN (fun _=>rfl) rfl) ?_;(repeat' (first|(refine Wb ?_;intro b)|fail));refine cM wt (cX rfl rfl rfl aN (hU ..) (by rw[hU];rfl) ?_ (rZ (by rw[hU];rfl))) ?_
 ·unfold sY;simp [Value.oneCell']
 rintro _ _ ⟨rfl,rfl⟩;refine aZ ?_;obtain⟨b2,hb2⟩: ∃ x,x=b:=⟨_,rfl⟩;subst hb2;clear L1 L2;refine aT (aY _ 356 3) ?_;(refine aC (σ:=Nat×Nat×Option Addr×Nat) (fun x=>x.1≤out.length∧eM T x.2.1 (pieces A B (out.drop x.1))) (fun x=>[(27, .int .i64 (x.1:Int)),(7, .int .i64 (x.2.1:Int)),(8, .slice x.2.2.1 x.1 x.2.2.2)]) (fun x=>[own (.slice x.2.2.1 x.1 x.2.2.2) 356 3 x.1 (flat wE (out.take x.1)),box b1 (sY (.slice q1 (oJ A 15).length c1) (fA A 16) (fR A 16) (fC A)) 351,box b2 (sY (.slice q2 (oJ B 15).length c2) (fA B 16) (fR B 16) (fC B)) 351]) _ (fun x=>out.length-x.1) ((0,0,none,0)) (by exact⟨fg _,hst⟩) (by exact gA) Zb (fun⟨i,k,q3,c3⟩ ⟨hi,hk⟩=> ?_);refine Da ?_);dsimp only at hi hk;have hkT:k≤8*T.length:=by have:=hk.fits;omega
 rcases iJ out i with⟨m,hm,hlt⟩|hge
 ·have hmm:=jm hm;have hmo:=h.ok m hmm;have hdr:out.drop i=m::out.drop (i+1):=by
   rw[List.drop_eq_getElem_cons hlt,(List.getElem?_eq_some_iff.1 hm).2]
  have htl:(out.take i).length=i:=by rw[b9];omega
  have htn:out.take (i+1)=out.take i++[m]:=by rw[ki,hm];rfl
  rw[hdr,FW] at hk;have hone: ∀ y, ∀ u∈wE y,u.oneCell'=true:=aER;by_cases h0:m.1=0
  ·have hpc:pcs A B m=[iA A (fG m)]:=by unfold pcs;rw[if_pos h0]
   rw[hpc] at hk;obtain⟨w,g1,g2,g3⟩:=uK hca (h.hx m hmm) hk;obtain⟨x,hx,hx255⟩: ∃ x:Nat,m=(0,0,(x:Int))∧x≤255:=by
    obtain⟨m1,m2,m3⟩:=m;rcases hmo with⟨e1,e2,e3,e4⟩|⟨e1,_⟩
    ·dsimp only at e1 e2 e3 e4;subst e1 e2;exact⟨m3.toNat,by rw[ny e3],by omega⟩
    ·dsimp only at e1 h0;omega
   have hsx:((fG m:Nat):Int)=(x:Int):=by rw[hx];unfold fG;rw[if_pos rfl];rfl
   rw[hsx] at g1;have O1:=OA b1 q1 c1 k hkT _ _ g1;clear OA OB hk hst;refine aZ ?_;(refine Ca (O1) ?_;rintro _ _ ⟨_,⟨rfl,rfl⟩,rfl⟩;refine Da ?_);(repeat' (first|refine Wa ?_|refine We ?_|(refine Wq ?_;intro q)|fail));refine aI wt (by rfl) (by first|exact Ma (wE) [((0,0,(x:Int)):Mk)] rfl|exact Mb (wE) [((0,0,(x:Int)):Mk)] rfl) ?_;rintro _ _ ⟨q6,c6,rfl,rfl⟩;have hnl:(out.take i++[((0,0,(x:Int)):Mk)]).length=i+1:=by rw[ag,df,htl]
   rw[hnl, ←hx, ←htn];refine eU ?_;refine Ee ((i+1,k+w,q6,c6)) ?_ ?_
   ·exact⟨hlt,g3⟩
   ·show out.length-(i+1)<out.length-i;omega
  ·obtain⟨hn1,hn2,hd1,hd2,hz⟩:3≤m.1∧m.1≤66∧1≤m.2.1∧m.2.1≤511∧m.2.2=0:=by
    rcases hmo with⟨e1,_⟩|e
    ·exact absurd e1 h0
    ·exact e
   have hpc:pcs A B m=[iA A (fG m),iA B (eN m.2.1),(ajA m.2.1,(eN m.2.1:Int))]:=by unfold pcs;rw[if_neg h0]
   rw[hpc] at hk;obtain⟨w,g1,g2,g3⟩:=uK hca (h.hx m hmm) hk;obtain⟨v,f1,f2,f3⟩:=uK hcb (h.hy m hmm h0) g3;obtain⟨r,r1,r2,r3⟩:=ajB hd1 hd2;obtain⟨hy9,_⟩:=sH hd1 hd2;have hshl:IntKind.i64.wrap (1*2^eN m.2.1)=((2^eN m.2.1:Nat):Int):=by
    have hp:2^eN m.2.1≤2^9:=ib (by decide) (by omega);rw[nz,show ((2:Int)^eN m.2.1)=((2^eN m.2.1:Nat):Int) by simp];exact pS (by omega)
   rw[r1] at f3;obtain⟨j1,j2,j3⟩:=FX f3 r2;have hbv:anA T (k+w+v) (eN m.2.1)=r:=by unfold anA;exact j1
   obtain⟨n,hn⟩:=iy (by omega:0≤m.1);have hsx:((fG m:Nat):Int)=(253:Int)+(n:Int):=by unfold fG;rw[if_neg h0,hn];simp
   have hmm2:m=((n:Int),((2^eN m.2.1:Nat):Int)+(r:Int),0):=by
    obtain⟨m1,m2,m3⟩:=m;dsimp only at hn hz r3 ⊢;exact n6 hn (n6 Zj hz)
   rw[hsx] at g1;have O1:=OA b1 q1 c1 k hkT _ _ g1;have O2:=OB b2 q2 c2 (k+w) g2 _ _ f1;have NX:=NX (eN m.2.1) (k+w+v);rw[hbv] at NX;generalize eN m.2.1=y at*;have hp:2^y≤2^9:=ib (by decide) (by omega);generalize hpw:2^y=pw at*;clear OA OB hk hst g1 f1 g3 f3 j1 hbv r3 hpc;refine aZ ?_;(refine Ca (O1) ?_;rintro _ _ ⟨_,⟨rfl,rfl⟩,rfl⟩;refine Da ?_);refine aZ ?_;(refine Ca (O2) ?_;rintro _ _ ⟨_,⟨rfl,rfl⟩,rfl⟩;refine Da ?_);refine dN ?_;(refine aB (Hq:=[_]) [4] [] rfl (by kernel_rfl) Za ?_);refine gX ?_;(refine aA 5 ?_;refine aU _ rfl rfl wt (by decide +kernel) iS rfl (dB.MH (m:=y) rfl rfl rfl rfl (by omega) hshl) ?_);refine gX ?_;(refine Cc 11 (FR _) ?_;rintro _ _ ⟨_,⟨ra,rt,rfl,rfl⟩,rfl⟩;refine Te ?_;(try refine Da ?_));refine gX ?_;(refine aA 13 ?_;refine gW _ (by rfl) (by rfl) (by kernel_rfl) wt (by rfl) (kU rfl rfl rfl (NX ra rt (by omega) (by omega)) rfl PG) ?_;rintro _ _ ⟨_,⟨rfl,rfl⟩,rfl⟩;refine⟨(by first|exact fun h=>absurd h (by decide)|exact fun _=>iS), ?_⟩;(try dsimp only[List.cons_append,List.nil_append]));refine gX ?_;rw[show (253:Int)+(n:Int)-256+3=(n:Int) by omega];(refine aA 17 ?_;refine Oa (l:=by exact aM rfl rfl rfl (by exact lE) rfl rfl (by decide) rfl) (k:= ?_);rintro _ _ ⟨q8,rfl,rfl⟩;refine Te ?_;(try refine Da ?_));(refine aA 18 ?_;refine Oa (l:=by exact (by first|exact Ma (wE) [(((n:Int),(pw:Int)+(r:Int),0):Mk)] rfl|exact Mb (wE) [(((n:Int),(pw:Int)+(r:Int),0):Mk)] rfl)) (k:= ?_);rintro _ _ ⟨q6,c6,rfl,rfl⟩;refine Te ?_;(try refine Da ?_));have hnl:(out.take i++[(((n:Int),(pw:Int)+(r:Int),0):Mk)]).length=i+1:=by rw[ag,df,htl]
   rw[hnl, ←hmm2, ←htn];refine pT ?_;refine Ee ((i+1,k+w+v+y,q6,c6)) ?_ ?_
   ·exact⟨hlt,j3⟩
   ·show out.length-(i+1)<out.length-i;omega
 ·have hil:i=out.length:=by omega
  subst hil;rw[List.drop_length,show pieces A B []=[] from by unfold pieces;rfl] at hk;obtain⟨e1,e2,e3⟩:=aeW hk;have htl:out.take out.length=out:=List.take_length;rw[htl];obtain⟨lf,hlf⟩: ∃ lf:Nat,8*T.length=k+lf:=⟨8*T.length-k,by omega⟩;have hlI:(8:Int)*(T.length:Int)-(k:Int)=(lf:Int):=by omega
  have hbv:anA T k lf=0:=by unfold anA;rw[e1,Nat.zero_mod]
  have NX:=NX lf k;rw[hbv] at NX;clear OA OB hk hst e1 hbv;rcases ei lf with hz|hz
  ·refine aZ ?_;exact Ea (x:=⟨q3,c3,rfl,rfl⟩)
  ·refine aZ ?_;(refine Ca (FR _) ?_;rintro _ _ ⟨_,⟨ra,rt,rfl,rfl⟩,rfl⟩;refine Da ?_);refine eU ?_;rw[hlI];refine aI wt rfl (kU rfl rfl rfl (NX ra rt (by omega) (by omega)) rfl PG) ?_;rintro _ _ ⟨_,⟨rfl,rfl⟩,rfl⟩;refine Da ?_;refine aZ ?_;exact Ea (x:=⟨q3,c3,rfl,rfl⟩)
theorem anI (c:Nat) (hc:c≤1000000):Ct Tryz.prog 221 [.string (str [0]), .int .i64 (c:Int)] [] fun v H'=>v= .string (str (eb c 0))∧H'=[]:=
 aW fun w _=>by
  have h:=Tryz.strings_Repeat (str [0]) c w (by omega) (by show 1*c≤_;omega);have e:Lib.repeatL (str [0]).data.toList c=eb c 0:=by
   show Lib.repeatL [0] c=_;clear h;induction c with
   |zero=>rfl
   |succ c ih=>show 0::Lib.repeatL [0] c=_;rw[ih (by omega)];rfl
  rw[e] at h;exact h
end Go.Proofs.YtbjalbcdbgcgdaaGreat.kG
namespace Go.Proofs.YtbjalbcdbgcgdaaGreat.kG
open Go.RowKit bG sl put code
theorem SG: ∀ {O:List Int},(∀ o∈O,0≤o∧o≤15)→runs.gM O=false
 |[],_=>rfl
 |o::O,h=>by
  have h1:=h o List.mem_cons_self;rw[runs.gM,if_neg (by omega)];exact SG fun x hx=>h x (List.mem_cons_of_mem _ hx)
theorem auX {x:Int} (h:0≤x∧x≤15):(Lit.int .i64 x).wf=true:=by
 simp [Lit.wf,IntKind.min,IntKind.max,IntKind.signed,IntKind.bits];omega
theorem aCY (q:Option Addr) (c:Nat) (xs:List Int) {n:Nat} (hn:xs.length=n) (h:lens.cH xs=0):Ct Tryz.prog 307 [.slice q n c] [sl 1 (.slice q n c) (xs.map fI)] fun v H'=>v= .tuple #[.string (str (runs.aR xs)), .int .i64 0]∧H'=[]:=by
 obtain⟨h1,h2⟩:=iL h;have e:runs.eK xs=0:=by unfold runs.eK;rw[if_neg (by omega),SG h2,if_neg (by decide)]
 refine aW fun W hW=>(runs.jR _ xs W (hW.head:bM W 1 _ (xs.map fI)) (fun x hx=>auX (h2 x hx)) (by omega)).mono fun e' w' ⟨h3,h4⟩=>⟨?_,h4⟩
 rw[h3,e,runs.eE,if_pos e];rfl
theorem aAS (q:Option Addr) (c:Nat) (xs:List (Int×Int)) (h: ∀ p∈xs, ∃ a v:Nat,a<2^v∧v≤15∧p=((a:Int),(v:Int))) (he:bits.iV xs=0) (hn:xs.length≤100000000000000000):Ct Tryz.prog 308 [.slice q xs.length c] [sl 2 (.slice q xs.length c) (xs.map GS)] fun v H'=>v= .tuple #[.string (str (bits.iG xs)), .int .i64 0]∧H'=[]:=by
 refine aW fun W hW=>(bits.atB _ xs W (hW.head:bM W 2 _ (xs.map GS)) (fun p hp=> ?_) hn).mono fun e' w' ⟨h3,h4⟩=>⟨?_,h4⟩
 ·obtain⟨a,v,h1,h2,rfl⟩:=h p hp;have h3:2^v≤2^15:=ib (by decide) h2;refine⟨?_,auX ⟨by omega,by omega⟩⟩;simp [Lit.wf,IntKind.min,IntKind.max,IntKind.signed,IntKind.bits];omega
 ·rw[h3,he,bits.FJ,if_pos he];rfl
theorem aES (n:Nat) (h:n<1000000):Ct Tryz.prog 243 [.int .u64 (n:Int)] [] fun v H'=>v= .int .i64 (Lib.bitLen n:Int)∧H'=[]:=
 aW fun W _=>(Tryz.bits_Len (n:Int) W (by omega) (by omega)).mono fun e' w' ⟨h1,h2⟩=>⟨by rw[h1,fq],by rw[h2];exact Below.refl _ _⟩
def rB (m:Mk):Int:=if m.1=0 then -1 else (eN m.2.1:Int)
attribute [local irreducible] box own sl gH aH bC Qt cJ cG dC dG eO
theorem anJ (b:Int) (h0:0≤b) (h1:b≤255):Ct Tryz.prog 304 [.agg #[.int .i64 0, .int .i64 0, .int .u8 b]] [] fun v H'=>v= .tuple #[.int .i64 b, .int .i64 (-1)]∧H'=[]:=by
 (refine Ye Tryz.func304 Tryz.ntmps304 ?_;intro Fr);(repeat' (first|refine Wa ?_|refine We ?_|(refine Wb ?_;intro b)|fail));exact Ea (x:=⟨rfl,rfl⟩)
theorem anK (n d:Nat) (h0:3≤n) (h1:n≤66) (h2:1≤d) (h3:d≤511):Ct Tryz.prog 304 [.agg #[.int .i64 (n:Int), .int .i64 (d:Int), .int .u8 0]] [] fun v H'=>v= .tuple #[.int .i64 ((253+n:Nat):Int), .int .i64 (eN (d:Int):Int)]∧H'=[]:=by
 have L0:=aES d (by omega);obtain⟨a1,a2,a3,a4⟩:=sH (d:=(d:Int)) (by omega) (by omega);rw[fq] at a2;generalize Lib.bitLen d=bl at*;generalize eN (d:Int)=y at*;have e1:(256:Int)+(n:Int)-3=((253+n:Nat):Int):=by omega
 (refine Ye Tryz.func304 Tryz.ntmps304 ?_;intro Fr);(repeat' (first|refine Wa ?_|refine Wk ?_|refine We ?_|(refine Wb ?_;intro b)|refine Wc (L0 ..) ?_|fail));exact Ea (x:=⟨by rw[e1,a2],rfl⟩)
theorem ajF {m:Mk} (h:DT m):Ct Tryz.prog 304 [.agg (wE m).toArray] [] fun v H'=>v= .tuple #[.int .i64 (fG m:Int), .int .i64 (rB m)]∧H'=[]:=by
 obtain⟨n,d,b⟩:=m;rcases h with⟨h1,h2,h3,h4⟩|⟨h1,h2,h3,h4,h5⟩
 ·dsimp only at h1 h2 h3 h4;subst h1;subst h2;have e:((fG (0,0,b):Nat):Int)=b:=by unfold fG;rw[if_pos rfl];exact ny h3
  have e2:rB (0,0,b)= -1:=by unfold rB;rw[if_pos rfl]
  rw[e,e2];exact anJ b h3 h4
 ·dsimp only at h1 h2 h3 h4 h5;subst h5;obtain⟨n,rfl⟩:=iy (by omega:0≤n);obtain⟨d,rfl⟩:=iy (by omega:0≤d);have e:fG ((n:Int),(d:Int),0)=253+n:=by unfold fG;rw[if_neg Zj];rfl
  have e2:rB ((n:Int),(d:Int),0)=(eN (d:Int):Int):=by unfold rB;rw[if_neg Zj]
  rw[e,e2];exact anK n d (by omega) (by omega) (by omega) (by omega)
theorem ajG (q:Option Addr) (c:Nat) (F:List Int) (n:Nat) (hn:F.length=n) (hg:dB.eT F):Ct Tryz.prog 305 [.slice q n c] [sl 1 (.slice q n c) (F.map fI)] fun v H'=> ∃ q' c',v= .slice q' n c'∧H'=[own (.slice q' n c') 3 1 n (flat fI (dB.iW F 15))]:=by
 have h:=vR hg;have LN:=dB.auH q c F 15 (by have:=hg.1;omega);rw[hn] at LN;have LN:Ct Tryz.prog 339 [.slice q n c, .int .i64 15] [sl 1 (.slice q n c) (F.map fI)] fun v H'=> ∃ q' c',v= .tuple #[.slice q' n c', .int .i64 0]∧H'=[own (.slice q' n c') 3 1 n (flat fI (dB.iW F 15))]:=adH LN fun v H' h2=>by
  rcases h2 with⟨_,h3⟩|⟨h3,_⟩
  ·rw[hn] at h3;exact h3
  ·exact absurd h h3
 clear h;(refine Ye Tryz.func305 Tryz.ntmps305 ?_;intro Fr);refine aZ ?_;(refine Ca (LN) ?_;rintro _ _ ⟨_,⟨q1,c1,rfl,rfl⟩,rfl⟩;refine Da ?_);refine aZ ?_;exact Ea (x:=⟨q1,c1,rfl,rfl⟩)
theorem nX {α:Type} {l:List α} {k:Nat} {x:α} (h:l[k]? =some x):l.take (k+1)=l.take k++[x]:=by
 rw[ki,h];rfl
theorem ajH (q:Option Addr) (c:Nat) (A:List Int) {n:Nat} (hn:A.length=n) (hc:lens.cH A=0) {x:Nat} (hx:code.KZ A (x:Int)) (qs:Option Addr) (cs:Nat):Ct Tryz.prog 306 [.slice q n c, .slice qs 1 cs] [sl 1 (.slice q n c) (A.map fI),sl 1 (.slice qs 1 cs) ([(x:Int)].map fI)] fun v H'=> ∃ q2 c2,v= .tuple #[.slice q2 1 c2, .int .i64 0]∧H'=[own (.slice q2 1 c2) 394 2 1 (flat GS [code.iA A (x:Int)])]:=by
 obtain⟨h1,h2⟩:=iL hc;have W0:=code.jR q qs c cs A [(x:Int)] (fun x hx=>auX (h2 x hx)) (by omega) (by show 1≤1000000;decide);have e:code.oK A [(x:Int)]=([code.iA A (x:Int)],0):=by
  unfold code.oK;rw[if_pos hc,code.wrF,if_pos hx,code.wrF];rfl
 rw[e,hn] at W0;exact W0
theorem uL (p:Int×Int): ∀ u∈GS p,u.oneCell'=true:=by simp [GS,Value.oneCell']
theorem afC (s:List UInt8) (hs:s.length≤512):Ct Tryz.prog 260 [.string (str s)] [] fun v H'=> ∃ out,lz.Found s out∧v= .string (str (jS s out))∧H'=[]:=by
 have F0:=lz.aAR s hs;(refine Ye Tryz.func260 Tryz.ntmps260 ?_;intro Fr);refine dN ?_;(refine Ca (F0) ?_;rintro _ _ ⟨_,⟨out,q1,c1,hF,rfl,rfl⟩,rfl⟩;refine Da ?_);have hok:=MN out [] s hF.2.1 hF.1;have hol:=hF.2.2.1;have hCo:=aaJ hok hol;refine dN ?_;refine nQ 0 (σ:=Option Addr×Option Addr) (fun _=>True) (fun x=>[(5, .slice x.1 320 320),(6, .slice x.2 9 9)]) (fun x=>[own (.slice x.1 320 320) 3 1 320 (flat fI (rA (out.take 0))),own (.slice x.2 9 9) 3 1 9 (flat fI (oO (out.take 0)))]) ?_ ?_<;>dsimp only[n5]
 ·rw[show rA (out.take 0)=eb 320 (0:Int) from (kT 320).symm,show oO (out.take 0)=eb 9 (0:Int) from (kT 9).symm];(refine aB (Hq:=[]) [] [] rfl (by kernel_rfl) Za ?_);(refine aA 0 ?_;refine cU 1 (by kernel_rfl) ?_ ?_)
  ·(refine Oc (l:=by exact (cT (fI) (0) (c:=320) rfl rfl rfl Ze Ze rfl rfl (by omega) Zg)) (k:= ?_);rintro _ _ ⟨q3,rfl,rfl⟩;refine Te ?_;(try refine Da ?_));refine gX ?_;(refine aA 1 ?_;refine Oa (l:=by exact (cT (fI) (0) (c:=9) rfl rfl rfl Ze Ze rfl rfl (by omega) Zg)) (k:= ?_);rintro _ _ ⟨q4,rfl,rfl⟩;refine Te ?_;(try refine Da ?_));refine Yw8 ?_;exact pH ((q3,q4)) (by trivial) (jB.of gA) yP
  ·(refine Oc (l:=by exact (cT (fI) (0) (c:=9) rfl rfl rfl Ze Ze rfl rfl (by omega) Zg)) (k:= ?_);rintro _ _ ⟨q4,rfl,rfl⟩;refine Te ?_;(try refine Da ?_));refine gX ?_;(refine aA 0 ?_;refine Oa (l:=by exact (cT (fI) (0) (c:=320) rfl rfl rfl Ze Ze rfl rfl (by omega) Zg)) (k:= ?_);rintro _ _ ⟨q3,rfl,rfl⟩;refine Te ?_;(try refine Da ?_));refine Yw8 ?_;exact pH ((q3,q4)) (by trivial) (jB.of gA) yP
 rintro⟨q3,q4⟩ _;refine Da ?_;refine dN ?_;(refine aC (σ:=Nat) (fun k=>k≤out.length) (fun k=>[(35, .int .i64 (k:Int))]) (fun k=>[own (.slice q3 320 320) 3 1 320 (flat fI (rA (out.take k))),own (.slice q4 9 9) 3 1 9 (flat fI (oO (out.take k)))]) _ (fun k=>out.length-k) (0) Zp (by exact gA) Zb (fun k hk=> ?_);refine Da ?_);rcases iJ out k with⟨m,hm,hlt⟩|hge
 ·have hmo:=hok m (jm hm);have S0:=ajF hmo;have hx:=aaG hmo;have hax:(rA (out.take k))[fG m]? =some ((PQ (out.take k) (fG m):Nat):Int):=dI _ hx;have hcx:=IV (out.take k) (fG m);rw[b9] at hcx;have hxl:(rA (out.take k)).length=320:=eJ _ _;have hsx:(rA (out.take k)).set (fG m) (((PQ (out.take k) (fG m):Nat):Int)+1)=rA (out.take (k+1)):=by
   rw[nX hm];unfold rA;rw[amX];exact fK _ _ hx
  by_cases h0:m.1=0
  ·have hsv:rB m= -1:=by unfold rB;rw[if_pos h0]
   have hsy:oO (out.take (k+1))=oO (out.take k):=by
    rw[nX hm];unfold oO;rw[amZ _ _ h0]
   rw[hsv] at S0;generalize PQ (out.take k) (fG m)=cx at*;(repeat' (first|refine Wa ?_|refine We ?_|(refine Wb ?_;intro b)|refine Wc (S0 ..) ?_|fail));(refine cM wt (aG (f:=fI) (q':=(cx:Int)+1) rfl rfl rfl rfl (by exact aN) rfl (by omega) (by intro _;rfl) (by assumption) rfl rfl (by rfl)) ?_;rintro _ _ ⟨rfl,rfl⟩);rw[hsx, ←hsy];refine aZ ?_;refine Ee (k+1) ?_ ?_
   ·exact hlt
   ·show out.length-(k+1)<out.length-k;omega
  ·have hsv:rB m=((eN m.2.1:Nat):Int):=by unfold rB;rw[if_neg h0]
   have hyl:eN m.2.1<9:=by
    rcases hmo with⟨h1,_⟩|⟨h1,h2,h3,h4,_⟩
    ·exact absurd h1 h0
    ·exact (sH h3 h4).1
   have hay:(oO (out.take k))[eN m.2.1]? =some ((GX (out.take k) (eN m.2.1):Nat):Int):=dI _ hyl;have hcy:=IW (out.take k) (eN m.2.1);rw[b9] at hcy;have hsy:(oO (out.take k)).set (eN m.2.1) (((GX (out.take k) (eN m.2.1):Nat):Int)+1)=oO (out.take (k+1)):=by
    rw[nX hm];unfold oO;rw[amY _ _ h0];exact fK _ _ hyl
   rw[hsv] at S0;generalize PQ (out.take k) (fG m)=cx at*;generalize GX (out.take k) (eN m.2.1)=cy at*;generalize eN m.2.1=y at*;(repeat' (first|refine Wa ?_|refine We ?_|(refine Wb ?_;intro b)|refine Wc (S0 ..) ?_|fail));(refine cM wt (aG (f:=fI) (q':=(cx:Int)+1) rfl rfl rfl rfl (by exact aN) rfl (by omega) (by intro _;rfl) (by assumption) rfl rfl (by rfl)) ?_;rintro _ _ ⟨rfl,rfl⟩);rw[hsx];refine aZ ?_;(refine cM wt (aG (f:=fI) (q':=(cy:Int)+1) rfl rfl rfl rfl (by exact aN) rfl (by omega) (by intro _;rfl) (by assumption) rfl rfl (by rfl)) ?_;rintro _ _ ⟨rfl,rfl⟩);rw[hsy];refine eU ?_;refine Ee (k+1) ?_ ?_
   ·exact hlt
   ·show out.length-(k+1)<out.length-k;omega
 ·rw[dc hge];have hX:dB.eT (rA out):=good_row (by decide) fun i=>ae (IV out i) hol
  have hY:dB.eT (oO out):=good_row (by decide) fun i=>ae (IW out i) hol
  have hxl:320=(rA out).length:=(eJ _ _).symm;have hyl:9=(oO out).length:=(eJ _ _).symm;have BX:=ajG q3 320 (rA out) 320 hxl.symm hX;have BY:=ajG q4 9 (oO out) 9 hyl.symm hY;have eA:dB.iW (rA out) 15=la out:=rfl;have eB:dB.iW (oO out) 15=lb out:=rfl;have hal:320=(la out).length:=by rw[←eA,dB.qZ];exact hxl
  have hbl:9=(lb out).length:=by rw[←eB,dB.qZ];exact hyl
  rw[eA] at BX;rw[eB] at BY;have hmB:jS s out=2::put.cA s.length++put.cA out.length++runs.aR (la out)++runs.aR (lb out)++bits.iG (pieces (la out) (lb out) out):=rfl;have hpo:=aAB hCo hol;have hpw:=vS hCo;generalize la out=A at*;generalize lb out=B at*;clear eA eB;refine dN ?_;(refine Ca (BX) ?_;rintro _ _ ⟨_,⟨qa,ca,rfl,rfl⟩,rfl⟩;refine Da ?_);refine eU ?_;(refine Ca (BY) ?_;rintro _ _ ⟨_,⟨qb,cb,rfl,rfl⟩,rfl⟩;refine Da ?_);refine dN ?_;refine aT (aY _ 394 2) ?_;(refine aC (σ:=Nat×Option Addr×Nat×List (Int×Int)) (fun x=>x.1≤out.length∧x.2.2.2=pieces A B (out.take x.1)) (fun x=>[(65, .int .i64 (x.1:Int)),(13, .slice x.2.1 x.2.2.2.length x.2.2.1)]) (fun x=>[own (.slice x.2.1 x.2.2.2.length x.2.2.1) 394 2 x.2.2.2.length (flat GS x.2.2.2)]) _ (fun x=>out.length-x.1) ((0,none,0,[])) (by exact⟨fg _,rfl⟩) (by exact gA) Zb (fun⟨i,qp,cp,P⟩ ⟨hi,hP⟩=> ?_);refine Da ?_);dsimp only at hi hP;have hPl:P.length≤3*i:=by
   have:=sJ A B (out.take i);rw[←hP,b9] at this;omega
  rcases iJ out i with⟨m,hm,hlt⟩|hge
  ·have hmm:=jm hm;have hmo:=hok m hmm;have S0:=ajF hmo;have WX:=fun q c=>ajH qa ca A hal.symm hCo.ca (hCo.hx m hmm) q c
   have hnx:pieces A B (out.take (i+1))=P++pcs A B m:=by
    rw[nX hm,aeV, ←hP];exact congrArg _ (List.append_nil _)
   by_cases h0:m.1=0
   ·have hsv:rB m= -1:=by unfold rB;rw[if_pos h0]
    have hpc:pcs A B m=[iA A (fG m)]:=by unfold pcs;rw[if_pos h0]
    rw[hsv] at S0;rw[hpc] at hnx;generalize iA A (fG m)=pa at*;(repeat' (first|refine Wa ?_|refine We ?_|(refine Wb ?_;intro b)|(refine Wq ?_;intro q)|refine Wc (S0 ..) ?_|fail));(refine Ca (WX _ _) ?_;rintro _ _ ⟨_,⟨q5,c5,rfl,rfl⟩,rfl⟩;refine Da ?_);refine aZ ?_;refine aS (bI (f:=GS) (ys:=[pa]) aN (fun _=>rfl) rfl) ?_;(refine aI wt rfl (gJ (cnt:=0) (f:=GS) (ys:=[pa]) rfl rfl rfl aN aN (by intro _;rfl) uL rfl (by show (P.length+1)*16≤_;omega) (by show P.length+1≤maxLen;unfold maxLen;omega)) ?_;rintro _ _ ⟨q6,c6,rfl,rfl⟩);rw[←dB.mV,show P.length+[pa].length=(P++[pa]).length from (ag).symm];rw[←hnx];refine aZ ?_;refine Ee ((i+1,q6,c6,pieces A B (out.take (i+1)))) ?_ ?_
    ·exact⟨hlt,rfl⟩
    ·show out.length-(i+1)<out.length-i;omega
   ·have hsv:rB m=((eN m.2.1:Nat):Int):=by unfold rB;rw[if_neg h0]
    obtain⟨hd1,hd2⟩:1≤m.2.1∧m.2.1≤511:=by
     rcases hmo with⟨h1,_⟩|⟨h1,h2,h3,h4,_⟩
     ·exact absurd h1 h0
     ·exact⟨h3,h4⟩
    obtain⟨hy1,_,hy3,hy4⟩:=sH hd1 hd2;have hpc:pcs A B m=[iA A (fG m),iA B (eN m.2.1),(m.2.1-((2^eN m.2.1:Nat):Int),(eN m.2.1:Int))]:=by unfold pcs;rw[if_neg h0];rfl
    have WY:=fun q c=>ajH qb cb B hbl.symm hCo.cb (hCo.hy m hmm h0) q c
    have hshl:IntKind.i64.wrap (1*2^eN m.2.1)=((2^eN m.2.1:Nat):Int):=by
     rw[nz,show ((2:Int)^eN m.2.1)=((2^eN m.2.1:Nat):Int) by simp];exact pS (by omega)
    rw[hsv] at S0;rw[hpc] at hnx;generalize iA A (fG m)=pa at*;generalize iA B (eN m.2.1)=pb at*;generalize eN m.2.1=y at*;generalize 2^y=w at*;(repeat' (first|refine Wa ?_|refine We ?_|(refine Wb ?_;intro b)|(refine Wq ?_;intro q)|refine Wc (S0 ..) ?_|fail));(refine Ca (WX _ _) ?_;rintro _ _ ⟨_,⟨q5,c5,rfl,rfl⟩,rfl⟩;refine Da ?_);refine aZ ?_;refine aS (bI (f:=GS) (ys:=[pa]) aN (fun _=>rfl) rfl) ?_;(refine aI wt rfl (gJ (cnt:=0) (f:=GS) (ys:=[pa]) rfl rfl rfl aN aN (by intro _;rfl) uL rfl (by show (P.length+1)*16≤_;omega) (by show P.length+1≤maxLen;unfold maxLen;omega)) ?_;rintro _ _ ⟨q6,c6,rfl,rfl⟩);rw[←dB.mV,show P.length+[pa].length=(P++[pa]).length from (ag).symm];(repeat' (first|refine Wa ?_|refine We ?_|(refine Wq ?_;intro q)|fail));(refine Ca (WY _ _) ?_;rintro _ _ ⟨_,⟨q7,c7,rfl,rfl⟩,rfl⟩;refine Da ?_);refine eU ?_;refine aT (bI (f:=GS) (ys:=[pb]) aN (fun _=>rfl) rfl) ?_;obtain⟨P2,hP2⟩: ∃ P2,P2=P++[pa]++[pb]:=⟨_,rfl⟩;have hP2l:P2.length=P.length+2:=by rw[hP2,ag,ag];rfl
    have hN3:P2++[(m.2.1-(w:Int),(y:Int))]=P++[pa,pb,(m.2.1-(w:Int),(y:Int))]:=by rw[hP2];simp
    have hone: ∀ y, ∀ u∈GS y,u.oneCell'=true:=uL;(refine aB (Hq:=[_]) [5] [] rfl (by kernel_rfl) Za ?_);refine gX ?_;(refine aA 6 ?_;refine aU _ rfl rfl wt (by decide +kernel) iS rfl (dB.MH (m:=y) rfl rfl rfl rfl (by omega) hshl) ?_);refine gX ?_;(refine aA 2 ?_;refine cU 11 (by kernel_rfl) ?_ ?_)
    ·(refine Oc (l:=by exact (gJ (cnt:=0) (f:=GS) (ys:=[pb]) rfl rfl rfl aN aN (by intro _;rfl) uL rfl (by show ((P++[pa]).length+1)*16≤_;rw[ag,df];omega) (by show (P++[pa]).length+1≤maxLen;rw[ag,df];unfold maxLen;omega))) (k:= ?_);rintro _ _ ⟨q9,c9,rfl,rfl⟩;refine Te ?_;(try refine Da ?_));rw[←dB.mV,show (P++[pa]).length+[pb].length=(P++[pa]++[pb]).length from (ag).symm, ←hP2];(refine aA 11 ?_;refine Oa (l:=by exact aM rfl rfl rfl (by exact lE) rfl rfl (by decide) rfl) (k:= ?_);rintro _ _ ⟨q8,rfl,rfl⟩;refine Te ?_;(try refine Da ?_));(refine aA 12 ?_;refine Oa (l:=by exact (by first|exact Ma (GS) [((m.2.1-(w:Int),(y:Int)))] rfl|exact Mb (GS) [((m.2.1-(w:Int),(y:Int)))] rfl)) (k:= ?_);rintro _ _ ⟨q10,c10,rfl,rfl⟩;refine Te ?_;(try refine Da ?_));rw[hN3, ←hnx];refine pT ?_;refine Ee ((i+1,q10,c10,pieces A B (out.take (i+1)))) ?_ ?_
     ·exact⟨hlt,rfl⟩
     ·show out.length-(i+1)<out.length-i;omega
    ·(refine Oc (l:=by exact aM rfl rfl rfl (by exact lE) rfl rfl (by decide) rfl) (k:= ?_);rintro _ _ ⟨q8,rfl,rfl⟩;refine Te ?_;(try refine Da ?_));(refine aA 2 ?_;refine Oa (l:=by exact (gJ (cnt:=0) (f:=GS) (ys:=[pb]) rfl rfl rfl aN aN (by intro _;rfl) uL rfl (by show ((P++[pa]).length+1)*16≤_;rw[ag,df];omega) (by show (P++[pa]).length+1≤maxLen;rw[ag,df];unfold maxLen;omega))) (k:= ?_);rintro _ _ ⟨q9,c9,rfl,rfl⟩;refine Te ?_;(try refine Da ?_));rw[←dB.mV,show (P++[pa]).length+[pb].length=(P++[pa]++[pb]).length from (ag).symm, ←hP2];(refine aA 12 ?_;refine Oa (l:=by exact (by first|exact Ma (GS) [((m.2.1-(w:Int),(y:Int)))] rfl|exact Mb (GS) [((m.2.1-(w:Int),(y:Int)))] rfl)) (k:= ?_);rintro _ _ ⟨q10,c10,rfl,rfl⟩;refine Te ?_;(try refine Da ?_));rw[hN3, ←hnx];refine pT ?_;refine Ee ((i+1,q10,c10,pieces A B (out.take (i+1)))) ?_ ?_
     ·exact⟨hlt,rfl⟩
     ·show out.length-(i+1)<out.length-i;omega
  ·rw[dc hge] at hP;subst hP;have RA:=fun q c=>aCY q c A hal.symm hCo.ca
   have RB:=fun q c=>aCY q c B hbl.symm hCo.cb
   have PK:=fun q c=>aAS q c (pieces A B out) hpw hpo (by omega)
   have P1:=uA s.length (by omega);have P2:=uA out.length (by omega);have l1:=pP s.length;have l2:=pP out.length;have l3:=kO A;have l4:=kO B;have l5:=DU hCo hol;generalize put.cA s.length=b1 at*;generalize put.cA out.length=b2 at*;generalize runs.aR A=b3 at*;generalize runs.aR B=b4 at*;generalize bits.iG (pieces A B out)=b5 at*;(repeat' (first|refine Wa ?_|refine We ?_|refine Wc (RA ..) ?_|refine Wc (RB ..) ?_|refine Wc (PK ..) ?_|refine Wc (P1 ..) ?_|refine Wc (P2 ..) ?_|fail));exact Ea (x:=⟨out,hF,by rw[hmB];rfl,rfl⟩)
end Go.Proofs.YtbjalbcdbgcgdaaGreat.kG
