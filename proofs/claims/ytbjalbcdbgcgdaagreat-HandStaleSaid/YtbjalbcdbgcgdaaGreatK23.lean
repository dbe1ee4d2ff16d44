/- Law HandStale: its texts, packed. -/
import Derived.Test.YtbjalbcdbgcgdaaGreatK22
import Derived.Test.YtbjalbcdbgcgdaaGreatK07
open List renaming append_assoc->ep,append_nil->jc,cons_append->jg,eq_nil_of_length_eq_zero->ml,getElem?_eq_getElem->aj,getElem?_eq_some_iff->ah,length_append->ag,length_drop->eu,length_eq_one_iff->mu,length_singleton->df,length_take->b9,mem_append->ft,mem_append_left->gh,mem_append_right->mn,mem_of_getElem?->jm,mem_of_mem_drop->mr,mem_of_mem_take->kt,nil_append->fe,take_append_drop->il
open Nat renaming add_sub_cancel_left->mo,eq_zero_or_pos->ei,lt_or_ge->iq
set_option linter.unusedVariables false
set_option maxRecDepth 100000
set_option maxHeartbeats 8000000
namespace Go.Proofs.YtbjalbcdbgcgdaaGreat.nJ
open Go.RowKit bG sl srt
theorem AP {l:List CV} (h:oL l) (k:Nat):oL (l.take k):=h.sublist (List.take_sublist k l)
theorem AQ {l:List CV} (h:oL l) (k:Nat):oL (l.drop k):=h.sublist (List.drop_sublist k l)
theorem aiP {A B:List CV} {D s:Nat} (hA:oL A) (hB:oL B) (hD:(A.length+B.length)/2=D) (h1:D-B.length≤s) (h2:s≤A.length) (hs:s≤D) (f1:s=D-B.length∨ ∀ x y,A[s-1]? =some x→B[D-s]? =some y→x.1≤y.1): ∀ x∈A.take s, ∀ y∈B.drop (D-s),kf x≤kf y:=fun x hx y hy=>by
 obtain⟨i,hi,hxi⟩:=AN hx;obtain⟨j,hj,hyj⟩:=AO hy;have hjl:=(ah.1 hyj).1;rcases f1 with e|f
 ·omega
 ·obtain⟨x',hx'⟩: ∃ z,A[s-1]? =some z:=⟨_,aj (by omega)⟩;obtain⟨y',hy'⟩: ∃ z,B[D-s]? =some z:=⟨_,aj (by omega)⟩;have g1:=uH hA (by omega:i≤s-1) hxi hx';have g2:=uH hB hj hy' hyj;have g3:=f x' y' hx' hy';show x.1≤y.1;omega
theorem ZU {A B:List CV} {D s:Nat} (hA:oL A) (hB:oL B) (h2:s≤A.length) (hs:s≤D) (hBD:D-s≤B.length) (f2:s=min D A.length∨ ∀ x y,A[s]? =some x→B[D-1-s]? =some y→y.1<x.1): ∀ x∈B.take (D-s), ∀ y∈A.drop s,kf x<kf y:=fun x hx y hy=>by
 obtain⟨i,hi,hxi⟩:=AN hx;obtain⟨j,hj,hyj⟩:=AO hy;have hjl:=(ah.1 hyj).1;have hil:=(ah.1 hxi).1;rcases f2 with e|f
 ·omega
 ·obtain⟨x',hx'⟩: ∃ z,A[s]? =some z:=⟨_,aj (by omega)⟩;obtain⟨y',hy'⟩: ∃ z,B[D-1-s]? =some z:=⟨_,aj (by omega)⟩;have g1:=uH hB (by omega:i≤D-1-s) hxi hy';have g2:=uH hA hj hx' hyj;have g3:=f x' y' hx' hy';show x.1<y.1;omega
def atY (sz:Nat):Prop:= ∀ (q:Option Addr) (c kb:Nat) (P A B S:List CV) (a m e N:Nat),P.length=a→a+A.length=m→m+B.length=e→0<A.length→0<B.length→A.length+B.length≤sz→(P++A++B++S).length=N→N≤1000000000→(∀ x∈A++B,0≤x.1∧x.1≤1000000000000)→oL A→oL B→
  Ct Tryz.prog 360 [.slice q N c, .int .i64 (a:Int), .int .i64 (m:Int), .int .i64 (e:Int),sF kb] [own (.slice q N c) 437 2 N (flat fC (P++A++B++S)),KB kb]
   fun v H'=>v= .tuple #[]∧H'=[own (.slice q N c) 437 2 N (flat fC (P++aK (A++B)++S))]
attribute [local irreducible] box own sl gH aH bC Qt cJ cG dC dG eO
theorem aEM (sz:Nat) (ih:atY sz) (q:Option Addr) (c kb:Nat) (P A B S:List CV) (a N D:Nat) (ha:P.length=a) (hA2:2≤A.length) (hB2:2≤B.length) (hsz:A.length+B.length≤sz+1) (hN:(P++A++B++S).length=N) (hNb:N≤1000000000) (hw: ∀ x∈A++B,0≤x.1∧x.1≤1000000000000) (hA:oL A) (hB:oL B) (hD:(A.length+B.length)/2=D) (hside:D<A.length):
  Ct Tryz.prog 360 [.slice q N c, .int .i64 (a:Int), .int .i64 ((a+A.length:Nat):Int), .int .i64 ((a+A.length+B.length:Nat):Int),sF kb] [own (.slice q N c) 437 2 N (flat fC (P++A++B++S)),KB kb]
   fun v H'=>v= .tuple #[]∧H'=[own (.slice q N c) 437 2 N (flat fC (P++aK (A++B)++S))]:=by
 have hlen:P.length+A.length+B.length+S.length=N:=by rw[←hN];simp only[ag]
 have hmid:((a:Int)+((a+A.length+B.length:Nat):Int))/2=((a+D:Nat):Int):=by omega
 unfold sF;have hst:((a+D:Nat):Int)+((a+A.length:Nat):Int)-((a+A.length+B.length:Nat):Int)=((a+(D-B.length):Nat):Int):=by omega
 (refine Ye Tryz.func360 Tryz.ntmps360 ?_;intro Fr);refine mD aN (by omega) ?_;rintro g rfl hc;refine aZ ?_;rw[hmid,hst];(refine aC (σ:=Nat×Nat) (fun y=>((a+(D-B.length)≤y.1∧y.1≤y.2)∧y.2≤a+min D A.length)∧(y.1=a+(D-B.length)∨ ∀ x z,A[y.1-a-1]? =some x→B[D-(y.1-a)]? =some z→x.1≤z.1)∧(y.2=a+min D A.length∨ ∀ x z,A[y.2-a]? =some x→B[D-1-(y.2-a)]? =some z→z.1<x.1)) (fun y=>[(20, .int .i64 (y.1:Int)),(21, .int .i64 (y.2:Int))]) (fun y=>[own (.slice (some ⟨g,0,none⟩) N c) 437 2 N (flat fC (P++A++B++S))]) _ (fun y=>y.2-y.1) ((a+(D-B.length),a+D)) (by exact⟨⟨⟨by first|omega|(dsimp only;omega)|dsimp only,by first|omega|(dsimp only;omega)|dsimp only⟩,by first|omega|(dsimp only;omega)|dsimp only⟩, .inl Zq, .inl Zq⟩) (by exact gA) Zb (fun⟨s,r⟩ ⟨⟨⟨hs1,hs2⟩,hr⟩,f1,f2⟩=> ?_);refine Da ?_);dsimp only at hs1 hs2 hr f1 f2;rcases iq s r with hlt|hge
 ·obtain⟨w,hw2⟩: ∃ w,(s+r)/2=a+w:=⟨(s+r)/2-a,by omega⟩;have hwu:s≤a+w∧a+w<r:=by omega
  obtain⟨x,hx⟩: ∃ x,A[w]? =some x:=⟨_,aj (by omega)⟩;obtain⟨y,hy⟩: ∃ y,B[D-1-w]? =some y:=⟨_,aj (by omega)⟩;have hxl:=aEL (P:=P) (A:=A) (B:=B) (S:=S) ha hx;have hyl:=azT (P:=P) (A:=A) (B:=B) (S:=S) (m:=a+A.length) (by rw[ha]) hy;have hh:((s:Int)+(r:Int))/2=((a+w:Nat):Int):=by omega
  have hpc:((a+D:Nat):Int)+((a+A.length:Nat):Int)-1-((a+w:Nat):Int)=((a+A.length+(D-1-w):Nat):Int):=by omega
  have hwx:=hw x (gh _ (jm hx));have hwy:=hw y (mn _ (jm hy));have CM:=AM kb y x hwy hwx;have hi1:a+w<N:=by omega
  have hi2:a+A.length+(D-1-w)<N:=by omega
  generalize hZ:P++A++B++S=Z at*;by_cases hyx:y.1<x.1
  ·have hsub:y.1-x.1<0:=by omega
   refine Yw7 ?_;rw[hh]
   skip
   rw[hpc];(refine aA 5 ?_;refine aU _ rfl rfl wt (by decide +kernel) iS rfl (bR rfl rfl rfl aN rfl (by omega)) ?_);refine gX ?_;(refine aA 11 ?_;refine Oa (l:=by exact (dD (first:=[]) (cap:=[aH kb 0]) rfl rfl rfl CM rfl (Lp.view (lR kb) Lp.nil (cR aN)))) (k:= ?_);rintro _ _ ⟨rfl,rfl⟩;refine Te ?_;(try refine Da ?_));refine pT ?_;rw[←hZ];refine Ee ((s,a+w)) ?_ ?_
   ·refine⟨⟨⟨hs1,by dsimp only;omega⟩,by dsimp only;omega⟩,f1, .inr fun x' z' h1 h2=> ?_⟩;dsimp only at h1 h2;rw[mo] at h1 h2;rw[hx] at h1;rw[hy] at h2;cases h1;cases h2;exact hyx
   ·dsimp only;omega
  ·have hsub: ¬ y.1-x.1<0:=by omega
   refine Yw7 ?_;rw[hh]
   skip
   rw[hpc];(refine aA 5 ?_;refine aU _ rfl rfl wt (by decide +kernel) iS rfl (bR rfl rfl rfl aN rfl (by omega)) ?_);refine gX ?_;(refine aA 11 ?_;refine Oa (l:=by exact (dD (first:=[]) (cap:=[aH kb 0]) rfl rfl rfl CM rfl (Lp.view (lR kb) Lp.nil (cR aN)))) (k:= ?_);rintro _ _ ⟨rfl,rfl⟩;refine Te ?_;(try refine Da ?_));refine pT ?_;rw[←hZ,show ((a+w:Nat):Int)+1=((a+w+1:Nat):Int) by omega];refine Ee ((a+w+1,r)) ?_ ?_
   ·refine⟨⟨⟨by dsimp only;omega,by dsimp only;omega⟩,hr⟩, .inr fun x' z' h1 h2=> ?_,f2⟩;dsimp only at h1 h2;rw[show a+w+1-a-1=w by omega,hx] at h1;rw[show D-(a+w+1-a)=D-1-w by omega,hy] at h2;cases h1;cases h2;omega
   ·dsimp only;omega
 ·obtain⟨s,rfl⟩: ∃ k,s=a+k:=⟨s-a,by omega⟩;have hrs:r=a+s:=by omega
  subst hrs;rw[mo] at f1 f2;have hsA:s≤A.length:=by omega
  have hsD:s≤D:=by omega
  have hlow:=aiP hA hB hD (by omega) hsA hsD (by rcases f1 with h|h;exact .inl (by omega);exact .inr h);have hhigh:=ZU hA hB hsA hsD (by omega) (by rcases f2 with h|h;exact .inl (by omega);exact .inr h);obtain⟨f,rfl⟩: ∃ f,D=s+f:=⟨D-s,by omega⟩;rw[mo] at hlow hhigh;have hfB:f≤B.length:=by omega
  have hDs:s+f+1≤A.length+B.length:=by omega
  have hDp:1≤s+f:=by omega
  clear f1 f2 hs1 hs2 hr hge hD hmid hside hsD;(try clear hst);have hsum:=atV (a1:=A.take s) (a2:=A.drop s) (b1:=B.take f) (b2:=B.drop f) (by rw[il];exact hA) (by rw[il];exact hB) hlow hhigh;rw[il,il] at hsum;have eA:A=A.take s++A.drop s:=(il _ _).symm;have eB:B=B.take f++B.drop f:=(il _ _).symm;have l1:(A.take s).length=s:=by rw[b9];omega
  have l2:s+(A.drop s).length=A.length:=by rw[eu];omega
  have l3:(B.take f).length=f:=by rw[b9];omega
  have l4:f+(B.drop f).length=B.length:=by rw[eu];omega
  have w1: ∀ x∈A.take s++B.take f,0≤x.1∧x.1≤1000000000000:=fun x hx=>hw x (by rcases ft.1 hx with h|h;exact gh _ (kt h);exact mn _ (kt h))
  have w2: ∀ x∈A.drop s++B.drop f,0≤x.1∧x.1≤1000000000000:=fun x hx=>hw x (by rcases ft.1 hx with h|h;exact gh _ (mr h);exact mn _ (mr h))
  have s1:=AP hA s;have s2:=AQ hA s;have s3:=AP hB f;have s4:=AQ hB f;have hfin:P++aK (A++B)++S=P++aK (A.take s++B.take f)++aK (A.drop s++B.drop f)++S:=by rw[←hsum];simp
  rw[hfin];have hLn:=eC (A.take s++B.take f);rw[ag,l1,l3] at hLn;have hend:((a+(s+f):Nat):Int)+((a+A.length:Nat):Int)-((a+s:Nat):Int)=((a+A.length+f:Nat):Int):=by omega
  have hST:P++A++B++S=P++A.take s++A.drop s++B.take f++(B.drop f++S):=by
   rw[show P++A.take s++A.drop s++B.take f++(B.drop f++S)=P++(A.take s++A.drop s)++(B.take f++B.drop f)++S by simp only[ep],il,il]
  rw[hST];clear hlow hhigh hsum hfin hST eA eB;generalize A.take s=A1 at*;generalize A.drop s=A2 at*;generalize B.take f=B1 at*;generalize B.drop f=B2 at*;have ROT:0<A2.length→0<B1.length→Ct Tryz.prog 362 _ _ _:=fun g1 g2=>LY (some ⟨g,0,none⟩) c (sF kb) (P++A1) A2 B1 (B2++S) (a+s) (a+A.length) (a+A.length+f) N Zi (by omega) (by omega) g1 g2 Zn hNb
  have LFT:0<A1.length→0<B1.length→Ct Tryz.prog 360 _ _ _:=fun g1 g2=>ih (some ⟨g,0,none⟩) c kb P A1 B1 (A2++B2++S) a (a+s) (a+(s+f)) N ha (by omega) (by omega) g1 g2 (by omega) Zn hNb w1 s1 s3
  have RGT:0<A2.length→0<B2.length→Ct Tryz.prog 360 _ _ _:=fun g1 g2=>ih (some ⟨g,0,none⟩) c kb (P++aK (A1++B1)) A2 B2 S (a+(s+f)) (a+A.length+f) (a+A.length+B.length) N Zi (by omega) (by omega) g1 g2 (by omega) Zn hNb w2 s2 s4
  unfold sF at ROT LFT RGT;by_cases hc1:(0<A2.length∧0<B1.length)
  ·refine aZ ?_;rw[hend];refine aI wt rfl (aV rfl (ROT hc1.1 hc1.2) rfl PG) ?_;rintro _ _ ⟨_,⟨rfl,rfl⟩,rfl⟩;dsimp only[jg,fe];rw[show P++A1++B1++A2++(B2++S)=P++A1++B1++(A2++B2++S) by simp];by_cases hc2:(0<A1.length∧0<B1.length)
   ·refine aZ ?_;refine aI wt rfl (aV rfl (LFT hc2.1 hc2.2) rfl (Lp.out aN (Lp.view (lR kb) Lp.nil (cR aN)))) ?_;rintro _ _ ⟨_,⟨rfl,rfl⟩,rfl⟩;dsimp only[jg,fe];rw[show P++aK (A1++B1)++(A2++B2++S)=P++aK (A1++B1)++A2++B2++S by simp];by_cases hc3:(0<A2.length∧0<B2.length)
    ·refine aZ ?_;(try rw[hend]);refine aI wt rfl (aV rfl (RGT hc3.1 hc3.2) rfl (Lp.out aN (Lp.view (lR kb) Lp.nil (cR aN)))) ?_;rintro _ _ ⟨_,⟨rfl,rfl⟩,rfl⟩;dsimp only[jg,fe];refine eU ?_;exact Eb (x:=⟨rfl,rfl⟩)
    ·have e3:P++aK (A1++B1)++A2++B2++S=P++aK (A1++B1)++aK (A2++B2)++S:=by
      have e9:aK (A2++B2)=A2++B2:=by
       rcases ei A2.length with h|h
       ·rw[ml h,fe,cE s4]
       ·rw[ml (by omega:B2.length=0),jc,cE s2]
      rw[e9];simp only[ep]
     rw[e3];refine aZ ?_;exact Eb (x:=⟨rfl,rfl⟩)
   ·have e2:P++A1++B1++(A2++B2++S)=P++aK (A1++B1)++A2++B2++S:=by
     have e9:aK (A1++B1)=A1++B1:=by
      rcases ei A1.length with h|h
      ·rw[ml h,fe,cE s3]
      ·rw[ml (by omega:B1.length=0),jc,cE s1]
     rw[e9];simp only[ep]
    rw[e2];by_cases hc3:(0<A2.length∧0<B2.length)
    ·refine aZ ?_;(try rw[hend]);refine aI wt rfl (aV rfl (RGT hc3.1 hc3.2) rfl (Lp.out aN (Lp.view (lR kb) Lp.nil (cR aN)))) ?_;rintro _ _ ⟨_,⟨rfl,rfl⟩,rfl⟩;dsimp only[jg,fe];refine eU ?_;exact Eb (x:=⟨rfl,rfl⟩)
    ·have e3:P++aK (A1++B1)++A2++B2++S=P++aK (A1++B1)++aK (A2++B2)++S:=by
      have e9:aK (A2++B2)=A2++B2:=by
       rcases ei A2.length with h|h
       ·rw[ml h,fe,cE s4]
       ·rw[ml (by omega:B2.length=0),jc,cE s2]
      rw[e9];simp only[ep]
     rw[e3];refine aZ ?_;exact Eb (x:=⟨rfl,rfl⟩)
  ·have e1:P++A1++A2++B1++(B2++S)=P++A1++B1++(A2++B2++S):=by
    rcases ei A2.length with h|h
    ·rw[ml h];simp
    ·rw[ml (by omega:B1.length=0)];simp
   rw[e1];by_cases hc2:(0<A1.length∧0<B1.length)
   ·refine aZ ?_;refine aI wt rfl (aV rfl (LFT hc2.1 hc2.2) rfl (Lp.out aN (Lp.view (lR kb) Lp.nil (cR aN)))) ?_;rintro _ _ ⟨_,⟨rfl,rfl⟩,rfl⟩;dsimp only[jg,fe];rw[show P++aK (A1++B1)++(A2++B2++S)=P++aK (A1++B1)++A2++B2++S by simp];by_cases hc3:(0<A2.length∧0<B2.length)
    ·refine aZ ?_;(try rw[hend]);refine aI wt rfl (aV rfl (RGT hc3.1 hc3.2) rfl (Lp.out aN (Lp.view (lR kb) Lp.nil (cR aN)))) ?_;rintro _ _ ⟨_,⟨rfl,rfl⟩,rfl⟩;dsimp only[jg,fe];refine eU ?_;exact Eb (x:=⟨rfl,rfl⟩)
    ·have e3:P++aK (A1++B1)++A2++B2++S=P++aK (A1++B1)++aK (A2++B2)++S:=by
      have e9:aK (A2++B2)=A2++B2:=by
       rcases ei A2.length with h|h
       ·rw[ml h,fe,cE s4]
       ·rw[ml (by omega:B2.length=0),jc,cE s2]
      rw[e9];simp only[ep]
     rw[e3];refine aZ ?_;exact Eb (x:=⟨rfl,rfl⟩)
   ·have e2:P++A1++B1++(A2++B2++S)=P++aK (A1++B1)++A2++B2++S:=by
     have e9:aK (A1++B1)=A1++B1:=by
      rcases ei A1.length with h|h
      ·rw[ml h,fe,cE s3]
      ·rw[ml (by omega:B1.length=0),jc,cE s1]
     rw[e9];simp only[ep]
    rw[e2];by_cases hc3:(0<A2.length∧0<B2.length)
    ·refine aZ ?_;(try rw[hend]);refine aI wt rfl (aV rfl (RGT hc3.1 hc3.2) rfl (Lp.out aN (Lp.view (lR kb) Lp.nil (cR aN)))) ?_;rintro _ _ ⟨_,⟨rfl,rfl⟩,rfl⟩;dsimp only[jg,fe];refine eU ?_;exact Eb (x:=⟨rfl,rfl⟩)
    ·have e3:P++aK (A1++B1)++A2++B2++S=P++aK (A1++B1)++aK (A2++B2)++S:=by
      have e9:aK (A2++B2)=A2++B2:=by
       rcases ei A2.length with h|h
       ·rw[ml h,fe,cE s4]
       ·rw[ml (by omega:B2.length=0),jc,cE s2]
      rw[e9];simp only[ep]
     rw[e3];refine aZ ?_;exact Eb (x:=⟨rfl,rfl⟩)
end Go.Proofs.YtbjalbcdbgcgdaaGreat.nJ
namespace Go.Proofs.YtbjalbcdbgcgdaaGreat.nJ
open Go.RowKit bG sl srt
attribute [local irreducible] box own sl gH aH bC Qt cJ cG dC dG eO
theorem aEN (sz:Nat) (ih:atY sz) (q:Option Addr) (c kb:Nat) (P A B S:List CV) (a N D:Nat) (ha:P.length=a) (hA2:2≤A.length) (hB2:2≤B.length) (hsz:A.length+B.length≤sz+1) (hN:(P++A++B++S).length=N) (hNb:N≤1000000000) (hw: ∀ x∈A++B,0≤x.1∧x.1≤1000000000000) (hA:oL A) (hB:oL B) (hD:(A.length+B.length)/2=D) (hside:A.length≤D):
  Ct Tryz.prog 360 [.slice q N c, .int .i64 (a:Int), .int .i64 ((a+A.length:Nat):Int), .int .i64 ((a+A.length+B.length:Nat):Int),sF kb] [own (.slice q N c) 437 2 N (flat fC (P++A++B++S)),KB kb]
   fun v H'=>v= .tuple #[]∧H'=[own (.slice q N c) 437 2 N (flat fC (P++aK (A++B)++S))]:=by
 have hlen:P.length+A.length+B.length+S.length=N:=by rw[←hN];simp only[ag]
 have hmid:((a:Int)+((a+A.length+B.length:Nat):Int))/2=((a+D:Nat):Int):=by omega
 unfold sF;(refine Ye Tryz.func360 Tryz.ntmps360 ?_;intro Fr);refine mD aN (by omega) ?_;rintro g rfl hc;refine aZ ?_;rw[hmid];(refine aC (σ:=Nat×Nat) (fun y=>((a+(D-B.length)≤y.1∧y.1≤y.2)∧y.2≤a+min D A.length)∧(y.1=a+(D-B.length)∨ ∀ x z,A[y.1-a-1]? =some x→B[D-(y.1-a)]? =some z→x.1≤z.1)∧(y.2=a+min D A.length∨ ∀ x z,A[y.2-a]? =some x→B[D-1-(y.2-a)]? =some z→z.1<x.1)) (fun y=>[(20, .int .i64 (y.1:Int)),(21, .int .i64 (y.2:Int))]) (fun y=>[own (.slice (some ⟨g,0,none⟩) N c) 437 2 N (flat fC (P++A++B++S))]) _ (fun y=>y.2-y.1) ((a,a+A.length)) (by exact⟨⟨⟨by first|omega|(dsimp only;omega)|dsimp only,by first|omega|(dsimp only;omega)|dsimp only⟩,by first|omega|(dsimp only;omega)|dsimp only⟩, .inl Zq, .inl Zq⟩) (by exact gA) Zb (fun⟨s,r⟩ ⟨⟨⟨hs1,hs2⟩,hr⟩,f1,f2⟩=> ?_);refine Da ?_);dsimp only at hs1 hs2 hr f1 f2;rcases iq s r with hlt|hge
 ·obtain⟨w,hw2⟩: ∃ w,(s+r)/2=a+w:=⟨(s+r)/2-a,by omega⟩;have hwu:s≤a+w∧a+w<r:=by omega
  obtain⟨x,hx⟩: ∃ x,A[w]? =some x:=⟨_,aj (by omega)⟩;obtain⟨y,hy⟩: ∃ y,B[D-1-w]? =some y:=⟨_,aj (by omega)⟩;have hxl:=aEL (P:=P) (A:=A) (B:=B) (S:=S) ha hx;have hyl:=azT (P:=P) (A:=A) (B:=B) (S:=S) (m:=a+A.length) (by rw[ha]) hy;have hh:((s:Int)+(r:Int))/2=((a+w:Nat):Int):=by omega
  have hpc:((a+D:Nat):Int)+((a+A.length:Nat):Int)-1-((a+w:Nat):Int)=((a+A.length+(D-1-w):Nat):Int):=by omega
  have hwx:=hw x (gh _ (jm hx));have hwy:=hw y (mn _ (jm hy));have CM:=AM kb y x hwy hwx;have hi1:a+w<N:=by omega
  have hi2:a+A.length+(D-1-w)<N:=by omega
  generalize hZ:P++A++B++S=Z at*;by_cases hyx:y.1<x.1
  ·have hsub:y.1-x.1<0:=by omega
   refine Yw7 ?_;rw[hh]
   skip
   rw[hpc];(refine aA 5 ?_;refine aU _ rfl rfl wt (by decide +kernel) iS rfl (bR rfl rfl rfl aN rfl (by omega)) ?_);refine gX ?_;(refine aA 11 ?_;refine Oa (l:=by exact (dD (first:=[]) (cap:=[aH kb 0]) rfl rfl rfl CM rfl (Lp.view (lR kb) Lp.nil (cR aN)))) (k:= ?_);rintro _ _ ⟨rfl,rfl⟩;refine Te ?_;(try refine Da ?_));refine pT ?_;rw[←hZ];refine Ee ((s,a+w)) ?_ ?_
   ·refine⟨⟨⟨hs1,by dsimp only;omega⟩,by dsimp only;omega⟩,f1, .inr fun x' z' h1 h2=> ?_⟩;dsimp only at h1 h2;rw[mo] at h1 h2;rw[hx] at h1;rw[hy] at h2;cases h1;cases h2;exact hyx
   ·dsimp only;omega
  ·have hsub: ¬ y.1-x.1<0:=by omega
   refine Yw7 ?_;rw[hh]
   skip
   rw[hpc];(refine aA 5 ?_;refine aU _ rfl rfl wt (by decide +kernel) iS rfl (bR rfl rfl rfl aN rfl (by omega)) ?_);refine gX ?_;(refine aA 11 ?_;refine Oa (l:=by exact (dD (first:=[]) (cap:=[aH kb 0]) rfl rfl rfl CM rfl (Lp.view (lR kb) Lp.nil (cR aN)))) (k:= ?_);rintro _ _ ⟨rfl,rfl⟩;refine Te ?_;(try refine Da ?_));refine pT ?_;rw[←hZ,show ((a+w:Nat):Int)+1=((a+w+1:Nat):Int) by omega];refine Ee ((a+w+1,r)) ?_ ?_
   ·refine⟨⟨⟨by dsimp only;omega,by dsimp only;omega⟩,hr⟩, .inr fun x' z' h1 h2=> ?_,f2⟩;dsimp only at h1 h2;rw[show a+w+1-a-1=w by omega,hx] at h1;rw[show D-(a+w+1-a)=D-1-w by omega,hy] at h2;cases h1;cases h2;omega
   ·dsimp only;omega
 ·obtain⟨s,rfl⟩: ∃ k,s=a+k:=⟨s-a,by omega⟩;have hrs:r=a+s:=by omega
  subst hrs;rw[mo] at f1 f2;have hsA:s≤A.length:=by omega
  have hsD:s≤D:=by omega
  have hlow:=aiP hA hB hD (by omega) hsA hsD (by rcases f1 with h|h;exact .inl (by omega);exact .inr h);have hhigh:=ZU hA hB hsA hsD (by omega) (by rcases f2 with h|h;exact .inl (by omega);exact .inr h);obtain⟨f,rfl⟩: ∃ f,D=s+f:=⟨D-s,by omega⟩;rw[mo] at hlow hhigh;have hfB:f≤B.length:=by omega
  have hDs:s+f+1≤A.length+B.length:=by omega
  have hDp:1≤s+f:=by omega
  clear f1 f2 hs1 hs2 hr hge hD hmid hside hsD;(try clear hst);have hsum:=atV (a1:=A.take s) (a2:=A.drop s) (b1:=B.take f) (b2:=B.drop f) (by rw[il];exact hA) (by rw[il];exact hB) hlow hhigh;rw[il,il] at hsum;have eA:A=A.take s++A.drop s:=(il _ _).symm;have eB:B=B.take f++B.drop f:=(il _ _).symm;have l1:(A.take s).length=s:=by rw[b9];omega
  have l2:s+(A.drop s).length=A.length:=by rw[eu];omega
  have l3:(B.take f).length=f:=by rw[b9];omega
  have l4:f+(B.drop f).length=B.length:=by rw[eu];omega
  have w1: ∀ x∈A.take s++B.take f,0≤x.1∧x.1≤1000000000000:=fun x hx=>hw x (by rcases ft.1 hx with h|h;exact gh _ (kt h);exact mn _ (kt h))
  have w2: ∀ x∈A.drop s++B.drop f,0≤x.1∧x.1≤1000000000000:=fun x hx=>hw x (by rcases ft.1 hx with h|h;exact gh _ (mr h);exact mn _ (mr h))
  have s1:=AP hA s;have s2:=AQ hA s;have s3:=AP hB f;have s4:=AQ hB f;have hfin:P++aK (A++B)++S=P++aK (A.take s++B.take f)++aK (A.drop s++B.drop f)++S:=by rw[←hsum];simp
  rw[hfin];have hLn:=eC (A.take s++B.take f);rw[ag,l1,l3] at hLn;have hend:((a+(s+f):Nat):Int)+((a+A.length:Nat):Int)-((a+s:Nat):Int)=((a+A.length+f:Nat):Int):=by omega
  have hST:P++A++B++S=P++A.take s++A.drop s++B.take f++(B.drop f++S):=by
   rw[show P++A.take s++A.drop s++B.take f++(B.drop f++S)=P++(A.take s++A.drop s)++(B.take f++B.drop f)++S by simp only[ep],il,il]
  rw[hST];clear hlow hhigh hsum hfin hST eA eB;generalize A.take s=A1 at*;generalize A.drop s=A2 at*;generalize B.take f=B1 at*;generalize B.drop f=B2 at*;have ROT:0<A2.length→0<B1.length→Ct Tryz.prog 362 _ _ _:=fun g1 g2=>LY (some ⟨g,0,none⟩) c (sF kb) (P++A1) A2 B1 (B2++S) (a+s) (a+A.length) (a+A.length+f) N Zi (by omega) (by omega) g1 g2 Zn hNb
  have LFT:0<A1.length→0<B1.length→Ct Tryz.prog 360 _ _ _:=fun g1 g2=>ih (some ⟨g,0,none⟩) c kb P A1 B1 (A2++B2++S) a (a+s) (a+(s+f)) N ha (by omega) (by omega) g1 g2 (by omega) Zn hNb w1 s1 s3
  have RGT:0<A2.length→0<B2.length→Ct Tryz.prog 360 _ _ _:=fun g1 g2=>ih (some ⟨g,0,none⟩) c kb (P++aK (A1++B1)) A2 B2 S (a+(s+f)) (a+A.length+f) (a+A.length+B.length) N Zi (by omega) (by omega) g1 g2 (by omega) Zn hNb w2 s2 s4
  unfold sF at ROT LFT RGT;by_cases hc1:(0<A2.length∧0<B1.length)
  ·refine aZ ?_;rw[hend];refine aI wt rfl (aV rfl (ROT hc1.1 hc1.2) rfl PG) ?_;rintro _ _ ⟨_,⟨rfl,rfl⟩,rfl⟩;dsimp only[jg,fe];rw[show P++A1++B1++A2++(B2++S)=P++A1++B1++(A2++B2++S) by simp];by_cases hc2:(0<A1.length∧0<B1.length)
   ·refine aZ ?_;refine aI wt rfl (aV rfl (LFT hc2.1 hc2.2) rfl (Lp.out aN (Lp.view (lR kb) Lp.nil (cR aN)))) ?_;rintro _ _ ⟨_,⟨rfl,rfl⟩,rfl⟩;dsimp only[jg,fe];rw[show P++aK (A1++B1)++(A2++B2++S)=P++aK (A1++B1)++A2++B2++S by simp];by_cases hc3:(0<A2.length∧0<B2.length)
    ·refine aZ ?_;(try rw[hend]);refine aI wt rfl (aV rfl (RGT hc3.1 hc3.2) rfl (Lp.out aN (Lp.view (lR kb) Lp.nil (cR aN)))) ?_;rintro _ _ ⟨_,⟨rfl,rfl⟩,rfl⟩;dsimp only[jg,fe];refine eU ?_;exact Eb (x:=⟨rfl,rfl⟩)
    ·have e3:P++aK (A1++B1)++A2++B2++S=P++aK (A1++B1)++aK (A2++B2)++S:=by
      have e9:aK (A2++B2)=A2++B2:=by
       rcases ei A2.length with h|h
       ·rw[ml h,fe,cE s4]
       ·rw[ml (by omega:B2.length=0),jc,cE s2]
      rw[e9];simp only[ep]
     rw[e3];refine aZ ?_;exact Eb (x:=⟨rfl,rfl⟩)
   ·have e2:P++A1++B1++(A2++B2++S)=P++aK (A1++B1)++A2++B2++S:=by
     have e9:aK (A1++B1)=A1++B1:=by
      rcases ei A1.length with h|h
      ·rw[ml h,fe,cE s3]
      ·rw[ml (by omega:B1.length=0),jc,cE s1]
     rw[e9];simp only[ep]
    rw[e2];by_cases hc3:(0<A2.length∧0<B2.length)
    ·refine aZ ?_;(try rw[hend]);refine aI wt rfl (aV rfl (RGT hc3.1 hc3.2) rfl (Lp.out aN (Lp.view (lR kb) Lp.nil (cR aN)))) ?_;rintro _ _ ⟨_,⟨rfl,rfl⟩,rfl⟩;dsimp only[jg,fe];refine eU ?_;exact Eb (x:=⟨rfl,rfl⟩)
    ·have e3:P++aK (A1++B1)++A2++B2++S=P++aK (A1++B1)++aK (A2++B2)++S:=by
      have e9:aK (A2++B2)=A2++B2:=by
       rcases ei A2.length with h|h
       ·rw[ml h,fe,cE s4]
       ·rw[ml (by omega:B2.length=0),jc,cE s2]
      rw[e9];simp only[ep]
     rw[e3];refine aZ ?_;exact Eb (x:=⟨rfl,rfl⟩)
  ·have e1:P++A1++A2++B1++(B2++S)=P++A1++B1++(A2++B2++S):=by
    rcases ei A2.length with h|h
    ·rw[ml h];simp
    ·rw[ml (by omega:B1.length=0)];simp
   rw[e1];by_cases hc2:(0<A1.length∧0<B1.length)
   ·refine aZ ?_;refine aI wt rfl (aV rfl (LFT hc2.1 hc2.2) rfl (Lp.out aN (Lp.view (lR kb) Lp.nil (cR aN)))) ?_;rintro _ _ ⟨_,⟨rfl,rfl⟩,rfl⟩;dsimp only[jg,fe];rw[show P++aK (A1++B1)++(A2++B2++S)=P++aK (A1++B1)++A2++B2++S by simp];by_cases hc3:(0<A2.length∧0<B2.length)
    ·refine aZ ?_;(try rw[hend]);refine aI wt rfl (aV rfl (RGT hc3.1 hc3.2) rfl (Lp.out aN (Lp.view (lR kb) Lp.nil (cR aN)))) ?_;rintro _ _ ⟨_,⟨rfl,rfl⟩,rfl⟩;dsimp only[jg,fe];refine eU ?_;exact Eb (x:=⟨rfl,rfl⟩)
    ·have e3:P++aK (A1++B1)++A2++B2++S=P++aK (A1++B1)++aK (A2++B2)++S:=by
      have e9:aK (A2++B2)=A2++B2:=by
       rcases ei A2.length with h|h
       ·rw[ml h,fe,cE s4]
       ·rw[ml (by omega:B2.length=0),jc,cE s2]
      rw[e9];simp only[ep]
     rw[e3];refine aZ ?_;exact Eb (x:=⟨rfl,rfl⟩)
   ·have e2:P++A1++B1++(A2++B2++S)=P++aK (A1++B1)++A2++B2++S:=by
     have e9:aK (A1++B1)=A1++B1:=by
      rcases ei A1.length with h|h
      ·rw[ml h,fe,cE s3]
      ·rw[ml (by omega:B1.length=0),jc,cE s1]
     rw[e9];simp only[ep]
    rw[e2];by_cases hc3:(0<A2.length∧0<B2.length)
    ·refine aZ ?_;(try rw[hend]);refine aI wt rfl (aV rfl (RGT hc3.1 hc3.2) rfl (Lp.out aN (Lp.view (lR kb) Lp.nil (cR aN)))) ?_;rintro _ _ ⟨_,⟨rfl,rfl⟩,rfl⟩;dsimp only[jg,fe];refine eU ?_;exact Eb (x:=⟨rfl,rfl⟩)
    ·have e3:P++aK (A1++B1)++A2++B2++S=P++aK (A1++B1)++aK (A2++B2)++S:=by
      have e9:aK (A2++B2)=A2++B2:=by
       rcases ei A2.length with h|h
       ·rw[ml h,fe,cE s4]
       ·rw[ml (by omega:B2.length=0),jc,cE s2]
      rw[e9];simp only[ep]
     rw[e3];refine aZ ?_;exact Eb (x:=⟨rfl,rfl⟩)
theorem aiQ: ∀ sz,atY sz:=by
 intro sz;induction sz with
 |zero=>intro q c kb P A B S a m e N ha hm he hA0 hB0 hsz;omega
 |succ sz ih=>
  intro q c kb P A B S a m e N ha hm he hA0 hB0 hsz hN hNb hw hA hB;have hlen:P.length+A.length+B.length+S.length=N:=by rw[←hN];simp only[ag]
  subst hm he;by_cases h1:A.length=1
  ·obtain⟨x,rfl⟩: ∃ x,A=[x]:=mu.1 h1;exact atX q c kb P B S x a (a+[x].length+B.length) N ha rfl (by simp only[df] at hlen;omega) hNb (hw x (by simp)) (fun y hy=>hw y (mn _ hy)) hB
  ·by_cases h2:B.length=1
   ·obtain⟨x,rfl⟩: ∃ x,B=[x]:=mu.1 h2;exact amP q c kb P A S x a (a+A.length) N ha rfl (by omega) (by simp only[df] at hlen;omega) hNb (hw x (by simp)) (fun y hy=>hw y (gh _ hy)) hA
   ·by_cases hside:(A.length+B.length)/2<A.length
    ·exact aEM sz ih q c kb P A B S a N _ ha (by omega) (by omega) hsz hN hNb hw hA hB rfl hside
    ·exact aEN sz ih q c kb P A B S a N _ ha (by omega) (by omega) hsz hN hNb hw hA hB rfl (by omega)
end Go.Proofs.YtbjalbcdbgcgdaaGreat.nJ
