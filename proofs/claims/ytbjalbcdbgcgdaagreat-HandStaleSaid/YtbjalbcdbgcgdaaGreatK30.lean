/- Law HandStale: its texts, packed. -/
import Derived.Test.YtbjalbcdbgcgdaaGreatRows
import Derived.Test.YtbjalbcdbgcgdaaGreatK00
import Derived.Test.YtbjalbcdbgcgdaaGreatK29
import Derived.Test.YtbjalbcdbgcgdaaGreatK07
import Derived.Test.YtbjalbcdbgcgdaaGreatK05
import Derived.Test.YtbjalbcdbgcgdaaGreatK06
import Derived.Test.YtbjalbcdbgcgdaaGreatK27
open List renaming drop->n5,getElem?_eq_getElem->aj,getElem?_eq_none->dz,getElem?_eq_some_iff->ah,length_append->ag,length_cons->fb,length_replicate->n7,mem_of_getElem?->jm,range->jn,replicate->eb
open Nat renaming lt_or_ge->iq
open Int renaming toNat_natCast->fq
open UInt8 renaming toNat->gw
set_option linter.unusedVariables false
set_option maxRecDepth 100000
set_option maxHeartbeats 8000000
namespace Go.Proofs.YtbjalbcdbgcgdaaGreat.within
end Go.Proofs.YtbjalbcdbgcgdaaGreat.within
namespace Go.Proofs.YtbjalbcdbgcgdaaGreat.kG
open Go.RowKit bG sl put
def PU (s:List UInt8):List UInt8:=1::put.cA s.length++s
def aAT (s:List UInt8):Prop:= ∀ b∈s,b=0
def pY (s t:List UInt8):Prop:=(aAT s∧t=0::put.cA s.length)∨
 (¬ aAT s∧ ∃ out,lz.Found s out∧((jS s out).length<(PU s).length∧t=jS s out∨ ¬ (jS s out).length<(PU s).length∧t=PU s))
theorem MS {s:List UInt8}:aAT s↔s.count 0=s.length:=by
 rw[List.count_eq_length];exact⟨fun h b hb=>(h b hb).symm,fun h b hb=>(h b hb).symm⟩
theorem auY (s:List UInt8):Ct Tryz.prog 259 [.string (str s), .string (str [0])] [] fun v H'=>v= .int .i64 ((s.count 0:Nat):Int)∧H'=[]:=
 aW fun W _=>(Tryz.strings_Count_one (str s) 0 W).mono fun e' w' ⟨h1,h2⟩=>⟨h1,by rw[h2];exact Below.refl _ _⟩
theorem SH {s t:List UInt8} (h:pY s t):t≠[]∧t.length≤s.length+1+(put.cA s.length).length:=by
 have e:(PU s).length=s.length+1+(put.cA s.length).length:=by
  unfold PU;rw[ag,fb];omega
 rcases h with⟨_,rfl⟩|⟨_,out,_,⟨h1,rfl⟩|⟨_,rfl⟩⟩
 ·exact⟨by simp,by rw[fb];omega⟩
 ·exact⟨by unfold jS;simp,by omega⟩
 ·exact⟨by unfold PU;simp,by omega⟩
attribute [local irreducible] box own sl gH aH bC Qt cJ cG dC dG eO
theorem anL (s:List UInt8) (hs:s.length≤512):Ct Tryz.prog 219 [.string (str s)] [] fun v H'=> ∃ t,pY s t∧v= .tuple #[.string (str t), .int .i64 0]∧H'=[]:=by
 have P0:=uA s.length (by omega);have l1:=pP s.length;have C0:=auY s;have MA:=afC s hs;have hcl:s.count 0≤s.length:=List.count_le_length;have hraw:PU s=1::put.cA s.length++s:=rfl;by_cases hz:s.count 0=s.length
 ·have R0:pY s (0::put.cA s.length):= .inl ⟨MS.2 hz,rfl⟩;generalize put.cA s.length=b1 at*;generalize s.count 0=ct at*;(refine Ye Tryz.func219 Tryz.ntmps219 ?_;intro Fr);(repeat' (first|refine Wa ?_|refine We ?_|refine Wc (P0 ..) ?_|refine Wc (C0 ..) ?_|fail));exact Ea (x:=⟨_,R0,rfl,rfl⟩)
 ·have hz': ¬ aAT s:=fun h=>hz (MS.1 h)
  have R1: ∀ out,lz.Found s out→(jS s out).length<(PU s).length→pY s (jS s out):=fun out h1 h2=> .inr ⟨hz',out,h1, .inl ⟨h2,rfl⟩⟩
  have R2: ∀ out,lz.Found s out→ ¬ (jS s out).length<(PU s).length→pY s (PU s):=fun out h1 h2=> .inr ⟨hz',out,h1, .inr ⟨h2,rfl⟩⟩
  rw[hraw] at R1 R2;generalize put.cA s.length=b1 at*;generalize s.count 0=ct at*;(refine Ye Tryz.func219 Tryz.ntmps219 ?_;intro Fr);(repeat' (first|refine Wa ?_|refine We ?_|refine Wc (P0 ..) ?_|refine Wc (C0 ..) ?_|fail));(refine Ca (MA) ?_;rintro _ _ ⟨_,⟨out,hF,rfl,rfl⟩,rfl⟩;refine Da ?_);have R1:=R1 out hF;have R2:=R2 out hF;have hbl:(1::b1++s).length=1+b1.length+s.length:=by simp;omega
  generalize jS s out=mb at*;have hbl2:(1::(b1++s)).length=1+b1.length+s.length:=hbl;by_cases hlt:mb.length<1+b1.length+s.length
  ·have R1:=R1 (by rw[hbl];exact hlt);refine aZ ?_;exact Ea (x:=⟨mb,R1,rfl,rfl⟩)
  ·have R2:=R2 (by rw[hbl];exact hlt);refine aZ ?_;exact Ea (x:=⟨_,R2,rfl,rfl⟩)
end Go.Proofs.YtbjalbcdbgcgdaaGreat.kG
namespace Go.Proofs.YtbjalbcdbgcgdaaGreat.kG
open Go.RowKit bG sl put get
theorem AX (n:Nat) (r:List UInt8) (h:n≤512):eD (put.cA n++r)=(n,(put.cA n).length,0)∧(put.cA n).length≤(put.cA n++r).length∧(put.cA n++r).drop (put.cA n).length=r:=
 ⟨zP n r (by omega),by rw[ag];omega,List.drop_left⟩
theorem afD (s:List UInt8) (out:List Mk):jS s out=2::(put.cA s.length++(put.cA out.length++(runs.aR (la out)++(runs.aR (lb out)++bits.iG (pieces (la out) (lb out) out))))):=by
 unfold jS;simp only[List.cons_append,List.append_assoc]
attribute [local irreducible] box own sl gH aH bC Qt cJ cG dC dG eO
attribute [local irreducible] lens.cH pieces eN fG pcs runs.aR bits.iG bits.pW bits.total eD put.cA la lb dB.iW
theorem anM (n:Nat) (hn:n≤512):Ct Tryz.prog 153 [.string (str (0::put.cA n))] [] fun v H'=>v= .tuple #[.string (str (eb n 0)), .int .i64 0]∧H'=[]:=by
 obtain⟨g1,g2,g3⟩:=AX n [] hn;rw[List.append_nil] at g1 g2 g3;have l1:=pP n;have N0:=fun b=>VP b (by omega) g1 g2 hn
 rw[g3] at N0;have R0:=anI n (by omega);have hl:(0::put.cA n).length=(put.cA n).length+1:=rfl;have e0:((0::put.cA n)==[])=false:=rfl;have e1:n5 1 (0::put.cA n)=put.cA n:=rfl;have e2:(0::put.cA n)[0]? =some 0:=rfl;have hu:gw 0=0:=rfl;have hrl:(eb n (0:UInt8)).length=n:=n7;clear g1 g2 g3;generalize put.cA n=b1 at*;generalize eb n (0:UInt8)=z at*;(refine Ye Tryz.func153 Tryz.ntmps153 ?_;intro Fr);(repeat' (first|refine Wa ?_|refine We ?_|(refine Wb ?_;intro b)|fail));(refine Ca (N0 _) ?_;rintro _ _ ⟨_,⟨rfl,rfl⟩,rfl⟩;refine Da ?_);(repeat' (first|refine Wa ?_|refine We ?_|refine Wc (R0 ..) ?_|fail));exact Ea (x:=⟨rfl,rfl⟩)
theorem aaU (s:List UInt8) (hs:s.length≤512) (out:List Mk) (hF:lz.Found s out):Ct Tryz.prog 153 [.string (str (jS s out))] [] fun v H'=>v= .tuple #[.string (str s), .int .i64 0]∧H'=[]:=by
 have hok:=MN out [] s hF.2.1 hF.1;have hol:=hF.2.2.1;have hCo:=aaJ hok hol;have hA:(la out).length=320:=by unfold la;rw[dB.qZ];exact eJ _ _
 have hB:(lb out).length=9:=by unfold lb;rw[dB.qZ];exact eJ _ _
 have MK:=fun b=>anH b (la out) (lb out) out hCo hA hB hol
 have X1:=fun q c=>lz.anG q c out hF.2.1 (by omega) hF.1
 have hpl:=DU hCo hol;have hw1:=kO (la out);have hw2:=kO (lb out);have l1:=pP s.length;have l2:=pP out.length;rw[afD];generalize bits.iG (pieces (la out) (lb out) out)=T at*;generalize runs.aR (lb out)=w2 at*;generalize runs.aR (la out)=w1 at*;have hr1:(w1++(w2++T)).length≤10000:=by simp only[ag];omega
 generalize w1++(w2++T)=r1 at*;obtain⟨k1,k2,k3⟩:=AX out.length r1 hol;have hr2:(put.cA out.length++r1).length≤10100:=by simp only[ag];omega
 generalize hR2:put.cA out.length++r1=r2 at*;obtain⟨g1,g2,g3⟩:=AX s.length r2 hs;have hr3:(put.cA s.length++r2).length≤10200:=by simp only[ag];omega
 generalize hR3:put.cA s.length++r2=r3 at*;have N0:=fun b=>VP b (by omega) g1 g2 hs
 have N1:=fun b=>VP b (by omega) k1 k2 hol
 rw[g3] at N0;rw[k3] at N1;have hl:(2::r3).length=r3.length+1:=rfl;have e0:((2::r3)==[])=false:=rfl;have e1:n5 1 (2::r3)=r3:=rfl;have e2:(2::r3)[0]? =some 2:=rfl;have hu:gw 2=2:=rfl;clear g1 g2 g3 k1 k2 k3 hF hok hCo hA hB hR2 hR3 l1 l2 hw1 hw2;(refine Ye Tryz.func153 Tryz.ntmps153 ?_;intro Fr);(repeat' (first|refine Wa ?_|refine We ?_|(refine Wb ?_;intro b)|fail));(refine Ca (N0 _) ?_;rintro _ _ ⟨_,⟨rfl,rfl⟩,rfl⟩;refine Da ?_);refine aZ ?_;(refine Ca (N1 _) ?_;rintro _ _ ⟨_,⟨rfl,rfl⟩,rfl⟩;refine Da ?_);refine aZ ?_;(refine Ca (MK _) ?_;rintro _ _ ⟨_,⟨q1,c1,rfl,rfl⟩,rfl⟩;refine Da ?_);(repeat' (first|refine Wa ?_|refine We ?_|refine Wc (X1 ..) ?_|fail));exact Ea (x:=⟨rfl,rfl⟩)
theorem KE {s t:List UInt8} (hs:s.length≤512) (h:pY s t):Ct Tryz.prog 153 [.string (str t)] [] fun v H'=>v= .tuple #[.string (str s), .int .i64 0]∧H'=[]:=by
 rcases h with⟨hz,rfl⟩|⟨_,out,hF,⟨_,rfl⟩|⟨_,rfl⟩⟩
 ·have e:s=eb s.length 0:=List.eq_replicate_iff.2 ⟨rfl,hz⟩;have:=anM s.length hs;rw[←e] at this;exact this
 ·exact aaU s hs out hF
 ·obtain⟨g1,g2,g3⟩:=AX s.length s hs;have l1:=pP s.length;have:=auM (put.cA s.length++s) s Zi g1 g2 g3;have e:PS s.length s=(s,0):=by unfold PS;rw[if_pos ⟨hs,rfl⟩]
  rw[e] at this;exact this
end Go.Proofs.YtbjalbcdbgcgdaaGreat.kG
namespace Go.Proofs.YtbjalbcdbgcgdaaGreat.file
open Go.RowKit bG sl
def fT (l:List UInt8):List Value:=[.string (str l)]
theorem JZ (l:List UInt8): ∀ u∈fT l,u.oneCell'=true:=by simp [fT,Value.oneCell']
instance (priority := 2000) eqT {P : Program} {T : TypeId} [hs : yV P T] : EqV P T (fun l : List UInt8 => Value.string (str l)) := ⟨fun op x y p q w => by simp [eqGuard], fun p w => by simp [binOp, Op.stringOp], fun p q w hne => by
 have h:(str p).data≠(str q).data:=fun e=>hne (by simpa using e)
 simp [binOp, Op.stringOp, hne]⟩
theorem MT (c:Nat) (hc:c≤1000000):Ct Tryz.prog 221 [.string (str [0]), .int .i64 (c:Int)] [] fun v H'=>v= .string (str (eb c 0))∧H'=[]:=
 aW fun w _=>by
  have h:=Tryz.strings_Repeat (str [0]) c w (by omega) (by show 1*c≤_;omega);have e:Lib.repeatL (str [0]).data.toList c=eb c 0:=by
   show Lib.repeatL [0] c=_;clear h;induction c with
   |zero=>rfl
   |succ c ih=>show 0::Lib.repeatL [0] c=_;rw[ih (by omega)];rfl
  rw[e] at h;exact h
def aJ (n:Nat):Nat:=(n+511)/512
def bZ (n i:Nat):Nat:=min 512 (n-512*i)
attribute [local irreducible] box own sl gH aH bC Qt cJ cG dC dG eO
theorem SI (n:Nat) (hn:n≤1000000):Ct Tryz.prog 224 [.int .i64 (n:Int)] [] fun v H'=>v= .int .i64 (aJ n:Int)∧H'=[]:=by
 have e:(aJ n:Int)=((n:Int)+512-1)/512:=by unfold aJ;omega
 rw[e];(refine Ye Tryz.func224 Tryz.ntmps224 ?_;intro Fr);refine aZ ?_;exact Ea (x:=⟨rfl,rfl⟩)
theorem AY (n i:Nat) (hn:n≤1000000) (hi:512*i≤n):Ct Tryz.prog 218 [.int .i64 (n:Int), .int .i64 (i:Int)] [] fun v H'=>v= .int .i64 (bZ n i:Int)∧H'=[]:=by
 have e:(bZ n i:Int)=min 512 ((n:Int)-i*512):=by unfold bZ;omega
 rw[e];(refine Ye Tryz.func218 Tryz.ntmps218 ?_;intro Fr);refine aZ ?_;exact Ea (x:=⟨rfl,rfl⟩)
theorem uM {n i:Nat} (h:i<aJ n):512*i<n:=by unfold aJ at h;omega
theorem kK (n i:Nat):bZ n i≤512:=by unfold bZ;omega
def eT (n:Nat) (ps:List (List UInt8)):Prop:=n≤4096∧ps.length=aJ n∧ ∀ (i:Nat) s,ps[i]? =some s→s≠[]→s.length=bZ n i
open Classical in
noncomputable def lN (n:Int) (ps:List (List UInt8)):Int:=if n<0∨4096<n then 2 else if eT n.toNat ps then 0 else 4
theorem kY {n:Nat} {ps:List (List UInt8)} (h:eT n ps):lN n ps=0:=by
 unfold lN;rw[if_neg (by have:=h.1;omega),if_pos (by rw[fq];exact h)]
theorem bH (q:Option Addr) (c:Nat) (n:Int) (ps:List (List UInt8)) (hp:ps.length≤9223372036854775807) (hs: ∀ s∈ps,s.length≤9223372036854775807):
  Ct Tryz.prog 154 [.agg #[.int .i64 n, .slice q ps.length c]] [sl 1 (.slice q ps.length c) (ps.map fT)] fun v H'=>v= .int .i64 (lN n ps)∧H'=[]:=by
 by_cases h0:n<0
 ·have e:lN n ps=2:=by unfold lN;rw[if_pos (.inl h0)]
  rw[e];(refine Ye Tryz.func154 Tryz.ntmps154 ?_;intro Fr);(repeat' (first|refine Wa ?_|refine We ?_|(refine Wb ?_;intro b)|fail));exact Ea (x:=⟨rfl,rfl⟩)
 ·by_cases h1:4096<n
  ·have e:lN n ps=2:=by unfold lN;rw[if_pos (.inr h1)]
   rw[e];(refine Ye Tryz.func154 Tryz.ntmps154 ?_;intro Fr);(repeat' (first|refine Wa ?_|refine We ?_|(refine Wb ?_;intro b)|fail));exact Ea (x:=⟨rfl,rfl⟩)
  ·obtain⟨m,rfl⟩: ∃ m:Nat,n=(m:Int):=⟨n.toNat,by omega⟩;have P0:=SI m (by omega);have hno: ¬ eT m ps→lN m ps=4:=fun h=>by unfold lN;rw[if_neg (by omega),if_neg (by rw[fq];exact h)]
   by_cases h2:(ps.length:Int)=(aJ m:Int)
   ·(refine Ye Tryz.func154 Tryz.ntmps154 ?_;intro Fr);(repeat' (first|refine Wa ?_|refine Wk ?_|refine We ?_|(refine Wb ?_;intro b)|refine Wc (P0 ..) ?_|fail));(refine cK (σ:=Nat) (fun k=>k≤ps.length∧ ∀ (i:Nat),i<k→ ∀ s,ps[i]? =some s→s≠[]→s.length=bZ m i) (fun k=>[(23, .int .i64 (k:Int))]) (fun k=>ps.length-k) (0) (by exact⟨by omega,fun i hi=>absurd hi (by omega)⟩) (by exact gA) (fun k ⟨hk,hd⟩=> ?_);refine Da ?_);rcases iq k ps.length with hlt|hge
    ·obtain⟨s,hsk⟩: ∃ s,ps[k]? =some s:=⟨_,aj hlt⟩;have hsl:=hs s (jm hsk);have hkn:k<aJ m:=by omega
     have L0:=AY m k (by omega) (by have:=uM hkn;omega);by_cases e1:s=[]
     ·have e2:(s==[])=true:=by rw[e1];rfl
      refine aZ ?_;refine Ee (k+1) ?_ ?_
      ·refine⟨hlt,fun i hi t ht hne=> ?_⟩;rcases iq i k with h|h
       ·exact hd i h t ht hne
       ·have:i=k:=by omega
        subst this;rw[hsk] at ht;cases ht;exact absurd e1 hne
      ·show ps.length-(k+1)<ps.length-k;omega
     ·have e2:(s==[])=false:=by simpa using e1
      by_cases e3:(s.length:Int)=(bZ m k:Int)
      ·(repeat' (first|refine Wa ?_|refine We ?_|refine Wc (L0 ..) ?_|fail));refine Ee (k+1) ?_ ?_
       ·refine⟨hlt,fun i hi t ht hne=> ?_⟩;rcases iq i k with h|h
        ·exact hd i h t ht hne
        ·have:i=k:=by omega
         subst this;rw[hsk] at ht;cases ht;omega
       ·show ps.length-(k+1)<ps.length-k;omega
      ·have e:=hno fun h=>e3 (by rw[h.2.2 k s hsk e1])
       rw[e];(repeat' (first|refine Wa ?_|refine We ?_|refine Wc (L0 ..) ?_|fail));exact Ea (x:=⟨rfl,rfl⟩)
    ·have e:lN m ps=0:=kY ⟨by omega,by omega,fun i s hi=>hd i (by have:=(ah.1 hi).1;omega) s hi⟩;rw[e];refine aZ ?_;exact Ea (x:=⟨rfl,rfl⟩)
   ·have e:=hno fun h=>h2 (by rw[h.2.1])
    rw[e];(refine Ye Tryz.func154 Tryz.ntmps154 ?_;intro Fr);(repeat' (first|refine Wa ?_|refine Wk ?_|refine We ?_|(refine Wb ?_;intro b)|refine Wc (P0 ..) ?_|fail));exact Ea (x:=⟨rfl,rfl⟩)
end Go.Proofs.YtbjalbcdbgcgdaaGreat.file
namespace Go.Proofs.YtbjalbcdbgcgdaaGreat.file
open Go.RowKit bG sl
def yA (k:Nat) (s:List UInt8):List UInt8:=if s=[] then [] else if k≤s.length then s.take k else s++eb (k-s.length) 0
def kP (m:Nat) (ps:List (List UInt8)):List (List UInt8):=(jn (aJ m)).map fun i=>yA (bZ m i) (ps.getD i [])
def lO (m:Nat) (ps:List (List UInt8)) (k:Nat):List (List UInt8):=(jn (aJ m)).map fun i=>if i<k then yA (bZ m i) (ps.getD i []) else []
theorem aaV (m:Nat) (ps:List (List UInt8)):lO m ps 0=eb (aJ m) []:=by
 unfold lO;simp [List.map_const']
theorem MU (m:Nat) (ps:List (List UInt8)) (k:Nat):(lO m ps k).length=aJ m:=by simp [lO]
theorem oP (m:Nat) (ps:List (List UInt8)):(kP m ps).length=aJ m:=by simp [kP]
theorem MV {m:Nat} {ps:List (List UInt8)} {k:Nat} {s:List UInt8} (hs:ps[k]? =some s):(lO m ps k).set k (yA (bZ m k) s)=lO m ps (k+1):=by
 apply List.ext_getElem?;intro i;rw[List.getElem?_set,MU];unfold lO;simp only[List.getElem?_map];rcases iq i (aJ m) with hi|hi
 ·rw[List.getElem?_range hi];by_cases h:k=i
  ·subst h;rw[if_pos rfl,if_pos hi];simp [List.getD,hs]
  ·rw[if_neg h];simp only[Option.map_some,Option.some.injEq];by_cases h2:i<k
   ·rw[if_pos h2,if_pos (by omega)]
   ·rw[if_neg h2,if_neg (by omega)]
 ·rw[dz (by simpa using hi)];split
  ·rw[if_neg (by omega)];rfl
  ·rfl
theorem SK {m:Nat} {ps:List (List UInt8)} {k:Nat} (hk:k<aJ m):(lO m ps k)[k]? =some []:=by
 unfold lO;simp [hk]
theorem aaW {m:Nat} {ps:List (List UInt8)} {k:Nat} (hk:k<aJ m) (hs:ps[k]? =some []):lO m ps (k+1)=lO m ps k:=by
 rw[←MV hs];have:yA (bZ m k) []=[]:=rfl;rw[this];have h:=SK (ps:=ps) hk;obtain⟨hl,hx⟩:=ah.1 h
 conv=>lhs;rw[←hx]
 exact List.set_getElem_self hl
theorem afE {m:Nat} {ps:List (List UInt8)}:lO m ps (min ps.length (aJ m))=kP m ps:=by
 unfold lO kP;refine List.map_congr_left fun i hi=> ?_
 rw[List.mem_range] at hi;by_cases h:i<min ps.length (aJ m)
 ·rw[if_pos h]
 ·rw[if_neg h,List.getD_eq_getElem?_getD,dz (by omega)];rfl
attribute [local irreducible] box own sl gH aH bC Qt cJ cG dC dG eO
theorem DX (q:Option Addr) (c:Nat) (n:Int) (m:Nat) (ps:List (List UInt8)) (hm:m≤4096) (hp:ps.length≤1000000000000000) (hs: ∀ s∈ps,s.length≤1000000000000000):
  Ct Tryz.prog 217 [.agg #[.int .i64 n, .slice q ps.length c], .int .i64 (m:Int)] [sl 1 (.slice q ps.length c) (ps.map fT)] fun v H'=> ∃ qa,v= .agg #[.int .i64 (m:Int), .slice qa (aJ m) (aJ m)]∧H'=[own (.slice qa (aJ m) (aJ m)) 9 1 (aJ m) (flat fT (kP m ps))]:=by
 have P0:=SI m (by omega);have hpm:aJ m≤9:=by unfold aJ;omega
 obtain⟨t,ht⟩: ∃ t,t=min ps.length (aJ m):=⟨_,rfl⟩;have htI:min (ps.length:Int) (aJ m:Int)=(t:Int):=by omega
 rw[←afE, ←ht];(refine Ye Tryz.func217 Tryz.ntmps217 ?_;intro Fr);(repeat' (first|refine Wa ?_|refine We ?_|(refine Wb ?_;intro b)|refine Wc (P0 ..) ?_|fail));(refine aI wt rfl (cT (fT) (([]:List UInt8)) (c:=aJ m) rfl rfl rfl Ze Ze rfl rfl (by omega) Zg) ?_;rintro _ _ ⟨qa,rfl,rfl⟩);rw[←aaV m ps];(repeat' (first|refine Wa ?_|refine We ?_|(refine Wb ?_;intro b)|fail));(refine aC (σ:=Nat) (fun k=>k≤t) (fun k=>[(21, .int .i64 (k:Int))]) (fun k=>[own (.slice qa (aJ m) (aJ m)) 9 1 (aJ m) (flat fT (lO m ps k))]) _ (fun k=>t-k) (0) (by simp) (by exact gA) Zb (fun k hk=> ?_);refine Da ?_);rcases iq k t with hlt|hge
 ·obtain⟨s,hsk⟩: ∃ s,ps[k]? =some s:=⟨_,aj (by omega)⟩;have hsl:=hs s (jm hsk);have hkn:k<aJ m:=by omega
  have L0:=AY m k (by omega) (by have:=uM hkn;omega);have hl5:=kK m k;have hx:=SK (ps:=ps) hkn;have hln:=MU m ps k;have hsx:=MV (m:=m) hsk;by_cases e1:s=[]
  ·have e2:(s==[])=true:=by rw[e1];rfl
   have e3:=aaW hkn (by rw[hsk,e1]);clear hsx hx;(repeat' (first|refine Wa ?_|refine Wk ?_|refine We ?_|refine Wc (L0 ..) ?_|fail));rw[←e3];refine Ee (k+1) ?_ ?_
   ·exact hlt
   ·show t-(k+1)<t-k;omega
  ·have e2:(s==[])=false:=by simpa using e1
   by_cases e3:bZ m k≤s.length
   ·have e4:(bZ m k:Int)≤(s.length:Int):=by omega
    rw[show yA (bZ m k) s=s.take (bZ m k) from by unfold yA;rw[if_neg e1,if_pos e3]] at hsx;clear e1;generalize bZ m k=z at*;refine dN ?_;(refine aB (Hq:=[_,_]) [3,4] [] rfl (by kernel_rfl) Za ?_);(repeat' (first|refine Wa ?_|refine Wk ?_|refine aF ?_|refine Wc (L0 ..) ?_|fail));(refine aB (Hq:=[_]) [1] [] rfl (by kernel_rfl) Za ?_);refine gX ?_;(refine aA 7 ?_;refine Ob (l:=by exact (aG (f:=fT) (q':=s.take z) rfl rfl rfl rfl (by exact aN) rfl (by omega) (by intro _;rfl) (by assumption) rfl rfl (by rfl))) (k:= ?_);rintro _ _ ⟨rfl,rfl⟩;refine Te ?_;(try refine Da ?_));rw[hsx];refine pT ?_;refine Ee (k+1) ?_ ?_
    ·exact hlt
    ·show t-(k+1)<t-k;omega
   ·have e4: ¬ (bZ m k:Int)≤(s.length:Int):=by omega
    have R0:=MT (bZ m k-s.length) (by omega);have e5:((bZ m k-s.length:Nat):Int)=(bZ m k:Int)-(s.length:Int):=by omega
    rw[show yA (bZ m k) s=s++eb (bZ m k-s.length) 0 from by unfold yA;rw[if_neg e1,if_neg e3]] at hsx;rw[e5] at R0;obtain⟨rz,hrz⟩: ∃ rz:List UInt8,rz=eb (bZ m k-s.length) 0:=⟨_,rfl⟩;have hrl:rz.length=bZ m k-s.length:=by rw[hrz,n7]
    rw[←hrz] at R0 hsx;clear e1 hrz;refine dN ?_;(refine aB (Hq:=[_,_]) [3,4] [] rfl (by kernel_rfl) Za ?_);(repeat' (first|refine Wa ?_|refine Wk ?_|refine aF ?_|refine Wc (L0 ..) ?_|fail));(refine aB (Hq:=[_]) [1] [] rfl (by kernel_rfl) Za ?_);(repeat' (first|refine Wk ?_|refine Wc (R0 ..) ?_|refine Wz ?_|fail));(refine aA 11 ?_;refine Ob (l:=by exact (aG (f:=fT) (q':=s++rz) rfl rfl rfl rfl (by exact aN) rfl (by omega) (by intro _;rfl) (by assumption) rfl rfl (by rfl))) (k:= ?_);rintro _ _ ⟨rfl,rfl⟩;refine Te ?_;(try refine Da ?_));rw[hsx];refine pT ?_;refine Ee (k+1) ?_ ?_
    ·exact hlt
    ·show t-(k+1)<t-k;omega
 ·have hkt:k=t:=by omega
  subst hkt;refine aZ ?_;exact Ea (x:=⟨qa,rfl,rfl⟩)
end Go.Proofs.YtbjalbcdbgcgdaaGreat.file
