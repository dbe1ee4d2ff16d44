/- Law HandStale: its texts, packed. -/
import Derived.Test.YtbjalbcdbgcgdaaGreatK30
import Derived.Test.YtbjalbcdbgcgdaaGreatK07
import Derived.Test.YtbjalbcdbgcgdaaGreatK06
import Derived.Lib.AppendStr
import Derived.Test.YtbjalbcdbgcgdaaGreatK27
import Derived.Shelf.Strings.BuilderK
open List renaming ext_getElem?->da,getD_eq_getElem?_getD->iw,getElem?_eq_getElem->aj,getElem?_eq_none->dz,getElem?_eq_some_iff->ah,getElem?_map->al,getElem?_of_mem->je,getElem?_range->na,length_append->ag,length_drop->eu,length_nil->lk,length_replicate->n7,length_set->n8,length_take->b9,map->oc,range->jn,replicate->eb,take_length->jb,take_zero->n9
open Nat renaming le_trans->ae,lt_or_ge->iq,zero_le->fg
open Decidable renaming em->od
set_option linter.unusedVariables false
set_option maxRecDepth 100000
set_option maxHeartbeats 8000000
namespace Go.Proofs.YtbjalbcdbgcgdaaGreat.file
open Go.RowKit bG sl
theorem auZ {k:Nat} {s:List UInt8} (h:yA k s≠[]):(yA k s).length=k:=by
 unfold yA at*;split at h
 ·exact absurd rfl h
 ·rename_i hs;rw[if_neg hs];split
  ·rw[b9];omega
  ·rw[ag,n7];omega
theorem anN {m i:Nat} {ps:List (List UInt8)} {t:List UInt8} (h:(kP m ps)[i]? =some t):i<aJ m∧t=yA (bZ m i) (ps.getD i []):=by
 have hl:=(ah.1 h).1;rw[oP] at hl;refine⟨hl, ?_⟩;unfold kP at h;rw[al,na hl] at h;exact (Option.some.inj h).symm
theorem MW {m:Nat} (ps:List (List UInt8)) (hm:m≤4096):eT m (kP m ps):=by
 refine⟨hm,oP m ps,fun i s hs hne=> ?_⟩;obtain⟨_,rfl⟩:=anN hs;exact auZ hne
theorem ajI {n i:Nat} {ps:List (List UInt8)} (h:eT n ps) (hi:i<aJ n):ps.getD i []=[]∨(ps.getD i []).length=bZ n i:=by
 have hi2:i<ps.length:=by rw[h.2.1];exact hi
 rcases od (ps.getD i []=[]) with e|e
 ·exact .inl e
 ·refine .inr (h.2.2 i _ ?_ e);rw[iw,aj hi2];rfl
theorem anO {m:Nat} {ps qs:List (List UInt8)} (hq:qs.length=aJ m) (h: ∀ i,i<aJ m→yA (bZ m i) (ps.getD i [])=qs.getD i []):kP m ps=qs:=by
 apply da;intro i;rcases iq i (aJ m) with hi|hi
 ·have h1:=h i hi;unfold kP;rw[al,na hi,Option.map_some,h1,iw,aj (by omega)];rfl
 ·rw[dz (by rw[oP];exact hi),dz (by omega)]
theorem anP {k:Nat} {s:List UInt8} (h:s=[]∨s.length=k):yA k s=s:=by
 unfold yA;split
 ·exact ‹s=[]›.symm
 ·rcases h with h|h
  ·contradiction
  ·rw[if_pos (by omega), ←h,jb]
theorem MX {n:Nat} {ps:List (List UInt8)} (h:eT n ps):kP n ps=ps:=
 anO h.2.1 fun i hi=>anP (ajI h hi)
attribute [local irreducible] box own sl gH aH bC Qt cJ cG dC dG eO
theorem VR (q:Option Addr) (c:Nat) (n:Nat) (ps:List (List UInt8)) (m:Nat) (hg:eT n ps) (hm:m≤4096):
  Ct Tryz.prog 151 [.agg #[.int .i64 (n:Int), .slice q ps.length c], .int .i64 (m:Int)] [sl 1 (.slice q ps.length c) (ps.map fT)] fun v H'=> ∃ qa,v= .tuple #[.agg #[.int .i64 (m:Int), .slice qa (aJ m) (aJ m)], .int .i64 0]∧H'=[own (.slice qa (aJ m) (aJ m)) 9 1 (aJ m) (flat fT (kP m ps))]:=by
 have hp9:ps.length≤8:=by have h1:=hg.1;have h2:=hg.2.1;unfold aJ at h2;omega
 have hs: ∀ s∈ps,s.length≤1000000000000000:=by
  intro s hs;obtain⟨i,hi⟩:=je hs;by_cases hne:s=[]
  ·rw[hne,lk];omega
  ·have h1:=hg.2.2 i s hi hne;have h2:=kK n i;omega
 have C0:=bH q c n ps (by omega) fun s h=>ae (hs s h) (by omega)
 rw[kY hg] at C0;have S0:=DX q c n m ps hm (by omega) hs;(refine Ye Tryz.func151 Tryz.ntmps151 ?_;intro Fr);(repeat' (first|refine Wa ?_|refine Wk ?_|refine We ?_|(refine Wb ?_;intro b)|(refine Wq ?_;intro q)|refine Wc (C0 ..) ?_|(refine Ws ?_ ?_<;>intro h)|refine Wz ?_|fail));(refine Ca (S0) ?_;rintro _ _ ⟨_,⟨qa,rfl,rfl⟩,rfl⟩;refine Da ?_);(repeat' (first|refine Wa ?_|refine Wk ?_|refine We ?_|(refine Wb ?_;intro b)|(refine Wq ?_;intro q)|(refine Ws ?_ ?_<;>intro h)|refine Wz ?_|fail));exact Ea (x:=⟨qa,rfl,rfl⟩)
end Go.Proofs.YtbjalbcdbgcgdaaGreat.file
namespace Go.Proofs.YtbjalbcdbgcgdaaGreat.file
open Go.RowKit bG sl
def hit (at' len i:Nat):Prop:=max at' (512*i)<min (at'+len) (512*i+512)
instance (a b c:Nat):Decidable (hit a b c):=by unfold hit;infer_instance
def aaX (at':Nat) (text:List UInt8) (s:List UInt8) (i j:Nat):UInt8:=if at'≤512*i+j∧512*i+j<at'+text.length then text.getD (512*i+j-at') 0 else s.getD j 0
def AZ (N at':Nat) (text:List UInt8) (i:Nat) (s:List UInt8):List UInt8:=if hit at' text.length i then (jn (bZ N i)).map (aaX at' text s i) else s
def iM (N at':Nat) (text:List UInt8) (out:List (List UInt8)):List (List UInt8):=(jn out.length).map fun i=>AZ N at' text i (out.getD i [])
theorem gN (N at':Nat) (text:List UInt8) (out:List (List UInt8)):(iM N at' text out).length=out.length:=by simp [iM]
theorem oQ {N at':Nat} {text:List UInt8} {out:List (List UInt8)} {i:Nat} (h:i<out.length):(iM N at' text out).getD i []=AZ N at' text i (out.getD i []):=by
 unfold iM;rw[iw,al,na h];rfl
theorem SL {a b:List (List UInt8)} (h:a.length=b.length) (h2: ∀ i,i<a.length→a.getD i []=b.getD i []):a=b:=by
 apply da;intro i;rcases iq i a.length with hi|hi
 ·have:=h2 i hi;rw[iw,iw,aj hi,aj (by omega)] at this;rw[aj hi,aj (by omega)];exact congrArg some this
 ·rw[dz hi,dz (by omega)]
theorem MY (N at':Nat) (out:List (List UInt8)):iM N at' [] out=out:=
 SL (gN ..) fun i hi=>by
  rw[gN] at hi;rw[oQ hi];unfold AZ;rw[if_neg (by unfold hit;simp only[lk];omega)]
theorem rC {a b:List UInt8} (h:a.length=b.length) (h2: ∀ j,j<a.length→a.getD j 0=b.getD j 0):a=b:=by
 apply da;intro i;rcases iq i a.length with hi|hi
 ·have:=h2 i hi;rw[iw,iw,aj hi,aj (by omega)] at this;rw[aj hi,aj (by omega)];exact congrArg some this
 ·rw[dz hi,dz (by omega)]
theorem iR {n j:Nat} (f:Nat→UInt8) (h:j<n):((jn n).map f).getD j 0=f j:=by
 rw[iw,al,na h];rfl
theorem sK {N at' i j:Nat} {text s:List UInt8} (h:j<bZ N i) (hj:j<512):(AZ N at' text i s).getD j 0=aaX at' text s i j:=by
 unfold AZ;split
 ·exact iR _ h
 ·rename_i hh;unfold aaX;rw[if_neg];intro ⟨h1,h2⟩;exact hh (by unfold hit;omega)
theorem rD {N at' i:Nat} {text s:List UInt8} (h:hit at' text.length i):(AZ N at' text i s).length=bZ N i:=by
 unfold AZ;rw[if_pos h];simp
def MZ (L k:Nat) (s t:List UInt8):List UInt8:=
 let b:=(eb L 0).take 0++s++(eb L 0).drop (0+s.length)
 b.take k++t++b.drop (k+t.length)
theorem BB (a b:List UInt8) (j:Nat):(a++b).getD j 0=if j<a.length then a.getD j 0 else b.getD (j-a.length) 0:=by
 simp only[iw,List.getElem?_append];split<;>rfl
theorem getD_take (a:List UInt8) (k j:Nat):(a.take k).getD j 0=if j<k then a.getD j 0 else 0:=by
 simp only[iw,List.getElem?_take];split<;>rfl
theorem vT (a:List UInt8) (k j:Nat):(a.drop k).getD j 0=a.getD (k+j) 0:=by
 simp only[iw,List.getElem?_drop]
theorem aaY (L j:Nat):(eb L (0:UInt8)).getD j 0=0:=by
 simp only[iw,List.getElem?_replicate];split<;>rfl
theorem avA {a:List UInt8} {j:Nat} (h:a.length≤j):a.getD j 0=0:=by
 rw[iw,dz h];rfl
theorem SN {L k:Nat} {s t:List UInt8} (hs:s.length≤L) (ht:k+t.length≤L):(MZ L k s t).length=L:=by
 simp only[MZ,ag,b9,eu,n7];omega
theorem afF {L k j:Nat} {s t:List UInt8} (hs:s.length≤L) (ht:k+t.length≤L) (hj:j<L):(MZ L k s t).getD j 0=if k≤j∧j<k+t.length then t.getD (j-k) 0 else s.getD j 0:=by
 have hb: ∀ j,((eb L (0:UInt8)).take 0++s++(eb L 0).drop (0+s.length)).getD j 0=s.getD j 0:=by
  intro j;rw[n9,List.nil_append,BB];split
  ·rfl
  ·rw[vT,aaY,avA (by omega)]
 have hl:((eb L (0:UInt8)).take 0++s++(eb L 0).drop (0+s.length)).length=L:=by
  simp only[ag,b9,eu,n7];omega
 unfold MZ;dsimp only;rw[BB,BB,getD_take,vT,hb,hb];simp only[ag,b9,hl];by_cases h1:j<k
 ·rw[if_pos (by omega),if_pos (by omega),if_pos h1,if_neg (by omega)]
 ·by_cases h2:j<k+t.length
  ·rw[if_pos (by omega),if_neg (by omega),if_pos (by omega),Nat.min_eq_left (by omega)]
  ·rw[if_neg (by omega),if_neg (by omega)];congr 1;omega
theorem avB {out:List (List UInt8)} {i m:Nat} {b:List UInt8}:(out.set i b).getD m []=if i=m∧m<out.length then b else out.getD m []:=by
 simp only[iw,List.getElem?_set];by_cases h:i=m
 ·subst h;by_cases h2:i<out.length
  ·rw[if_pos rfl,if_pos h2,if_pos ⟨rfl,h2⟩];rfl
  ·rw[if_pos rfl,if_neg h2,if_neg (by omega),dz (by omega)]
 ·rw[if_neg h,if_neg (by omega)]
theorem afG {N at' d cnt i k:Nat} {text s:List UInt8} {out:List (List UInt8)} (hi:i<out.length) (hp:at'+d=512*i+k) (hk:k+cnt≤bZ N i) (hc:0<cnt) (hd:d+cnt≤text.length) (hs:(iM N at' (text.take d) out).getD i []=s) (hsl:s.length≤bZ N i):(iM N at' (text.take d) out).set i (MZ (bZ N i) k s ((text.drop d).take cnt))=iM N at' (text.take (d+cnt)) out:=by
 have hl5:=kK N i;have ht1:(text.take d).length=d:=by rw[b9];omega
 have ht2:(text.take (d+cnt)).length=d+cnt:=by rw[b9];omega
 have ht3:((text.drop d).take cnt).length=cnt:=by rw[b9,eu];omega
 refine SL (by rw[n8,gN,gN]) fun m hm=> ?_
 rw[n8,gN] at hm;rw[avB,gN,oQ hm,oQ hm];by_cases h:i=m
 ·subst h;rw[if_pos ⟨rfl,hm⟩];have hh:hit at' (text.take (d+cnt)).length i:=by rw[ht2];unfold hit;omega
  refine rC (by rw[SN hsl (by omega),rD hh]) fun j hj=> ?_
  rw[SN hsl (by omega)] at hj;rw[afF hsl (by omega) hj,sK hj (by omega), ←hs,oQ hm,sK hj (by omega)];unfold aaX;rw[ht1,ht2,ht3];by_cases h1:k≤j∧j<k+cnt
  ·rw[if_pos h1,if_pos (by omega),getD_take,vT,getD_take,if_pos (by omega),if_pos (by omega)];congr 1;omega
  ·rw[if_neg h1];by_cases h2:at'≤512*i+j∧512*i+j<at'+d
   ·rw[if_pos h2,if_pos (by omega),getD_take,getD_take,if_pos (by omega),if_pos (by omega)]
   ·rw[if_neg h2,if_neg (by omega)]
 ·rw[if_neg (by omega)];by_cases hh:hit at' (text.take d).length m
  ·have hh2:hit at' (text.take (d+cnt)).length m:=by
    rw[ht1] at hh;rw[ht2];unfold hit at*;omega
   refine rC (by rw[rD hh,rD hh2]) fun j hj=> ?_
   rw[rD hh] at hj;have hl6:=kK N m;rw[sK hj (by omega),sK hj (by omega)];unfold aaX;rw[ht1,ht2];by_cases h2:at'≤512*m+j∧512*m+j<at'+d
   ·rw[if_pos h2,if_pos (by omega),getD_take,getD_take,if_pos (by omega),if_pos (by omega)]
   ·rw[if_neg h2,if_neg (by omega)]
  ·have hh2: ¬ hit at' (text.take (d+cnt)).length m:=by
    rw[ht1] at hh;rw[ht2];unfold hit at*;omega
   unfold AZ;rw[if_neg hh,if_neg hh2]
end Go.Proofs.YtbjalbcdbgcgdaaGreat.file
namespace Go.Proofs.YtbjalbcdbgcgdaaGreat.file
open Go.RowKit bG sl
theorem sL {N at':Nat} {text:List UInt8} {out:List (List UInt8)} (h:eT N out):eT N (iM N at' text out):=by
 refine⟨h.1,by rw[gN];exact h.2.1,fun i s hs hne=> ?_⟩;have hi:i<out.length:=by
  have:=(ah.1 hs).1;rwa [gN] at this
 have h1:(iM N at' text out).getD i []=s:=by rw[iw,hs];rfl
 rw[oQ hi] at h1;by_cases hh:hit at' text.length i
 ·rw[←h1,rD hh]
 ·unfold AZ at h1;rw[if_neg hh] at h1;rcases ajI h (i:=i) (by rw[←h.2.1];exact hi) with e|e
  ·exact absurd (h1.symm.trans e) hne
  ·rw[←h1];exact e
theorem BC {N i:Nat} {out:List (List UInt8)} {s:List UInt8} (h:eT N out) (hs:out[i]? =some s):s.length≤bZ N i:=by
 by_cases hne:s=[]
 ·rw[hne];exact fg _
 ·rw[h.2.2 i s hs hne];exact Nat.le_refl _
attribute [local irreducible] box own sl gH aH bC Qt cJ cG dC dG eO
theorem uN (q:Option Addr) (c:Nat) (n:Nat) (ps:List (List UInt8)) (at':Nat) (text:List UInt8) (hg:eT n ps) (hne:text≠[]) (hle:at'+text.length≤4096):
  Ct Tryz.prog 150 [.agg #[.int .i64 (n:Int), .slice q ps.length c], .int .i64 (at':Int), .string (str text)] [sl 1 (.slice q ps.length c) (ps.map fT)] fun v H'=> ∃ qa,v= .tuple #[.agg #[.int .i64 ((max n (at'+text.length):Nat):Int), .slice qa (aJ (max n (at'+text.length))) (aJ (max n (at'+text.length)))], .int .i64 0]∧H'=[own (.slice qa (aJ (max n (at'+text.length))) (aJ (max n (at'+text.length)))) 9 1 (aJ (max n (at'+text.length))) (flat fT (iM (max n (at'+text.length)) at' text (kP (max n (at'+text.length)) ps)))]:=by
 have hn:=hg.1;have hpl:=hg.2.1;have hs: ∀ s∈ps,s.length≤1000000000000000:=by
  intro s hs;obtain⟨i,hi⟩:=je hs;have:=BC hg hi;have:=kK n i;omega
 have C0:=bH q c n ps (by unfold aJ at hpl;omega) fun s h=>ae (hs s h) (by omega)
 rw[kY hg] at C0;obtain⟨N,hN⟩: ∃ N,N=max n (at'+text.length):=⟨_,rfl⟩;rw[←hN];have hN4:N≤4096:=by omega
 have hNI:(N:Int)=max (n:Int) ((at':Int)+(text.length:Int)):=by omega
 have S0:=DX q c n N ps hN4 (by unfold aJ at hpl;omega) hs;have hgo:=MW ps hN4;have hol:=oP N ps;generalize kP N ps=out at*;rw[hNI] at S0;obtain⟨res,hres⟩: ∃ res,res=iM N at' text out:=⟨_,rfl⟩;rw[←hres];have e0:(text==[])=false:=by simpa using hne
 (refine Ye Tryz.func150 Tryz.ntmps150 ?_;intro Fr);(repeat' (first|refine Wa ?_|refine We ?_|(refine Wb ?_;intro b)|refine Wc (C0 ..) ?_|fail));(refine Ca (S0) ?_;rintro _ _ ⟨_,⟨qa,rfl,rfl⟩,rfl⟩;refine Da ?_);rw[←hNI];(repeat' (first|refine Wa ?_|refine We ?_|(refine Wb ?_;intro b)|fail));rw[show flat fT out=flat fT (iM N at' (text.take 0) out) from by rw[n9,MY]];(refine aC (σ:=Nat) (fun d=>d≤text.length) (fun d=>[(1, .int .i64 ((at'+d:Nat):Int)),(2, .string (str (text.drop d)))]) (fun d=>[own (.slice qa (aJ N) (aJ N)) 9 1 (aJ N) (flat fT (iM N at' (text.take d) out))]) _ (fun d=>text.length-d) (0) (by simp) (by exact gA) Zb (fun d hd=> ?_);refine Da ?_);rcases iq d text.length with hlt|hge
 ·obtain⟨p,hp⟩: ∃ p,p=at'+d:=⟨_,rfl⟩;obtain⟨r,hr⟩: ∃ r,r=text.drop d:=⟨_,rfl⟩;have hrl:r.length=text.length-d:=by rw[hr,eu]
  have e1:(r==[])=false:=by
   have:r≠[]:=fun h=>by rw[h,lk] at hrl;omega
   simpa using this
  obtain⟨i,hi⟩: ∃ i,i=p/512:=⟨_,rfl⟩;obtain⟨k,hk⟩: ∃ k,k=p%512:=⟨_,rfl⟩;have hiI:(p:Int)/512=(i:Int):=by omega
  have hkI:(p:Int)%512=(k:Int):=by omega
  have hpk:at'+d=512*i+k:=by omega
  obtain⟨cnt,hc⟩: ∃ cnt,cnt=min r.length (512-k):=⟨_,rfl⟩;have hcI:min (r.length:Int) (512-(k:Int))=(cnt:Int):=by omega
  have hin:i<aJ N:=by unfold aJ;omega
  have hwl:(iM N at' (text.take d) out).length=aJ N:=by rw[gN,hol]
  obtain⟨s,hsk⟩: ∃ s,(iM N at' (text.take d) out)[i]? =some s:=⟨_,aj (by omega)⟩;have hsl:=BC (sL (at':=at') (text:=text.take d) hgo) hsk;have hll:bZ N i=min 512 (N-512*i):=rfl;have hst:=afG (N:=N) (at':=at') (d:=d) (cnt:=cnt) (i:=i) (k:=k) (text:=text) (s:=s) (out:=out) (by omega) hpk (by omega) (by omega) (by omega) (by rw[iw,hsk];rfl) hsl;have L0:=AY N i (by omega) (by omega);rw[←hiI] at L0;rw[←hp, ←hr];rw[←hr] at hst;generalize iM N at' (text.take d) out=cur at*;obtain⟨cur',hcu⟩: ∃ x,x=iM N at' (text.take (d+cnt)) out:=⟨_,rfl⟩;rw[←hcu] at hst;generalize bZ N i=lg at*;(repeat' (first|refine Wa ?_|refine We ?_|refine Wc (L0 ..) ?_|fail));rw[hiI,hkI,hcI];(refine aI wt rfl (cT (fY) ((0:UInt8)) (c:=lg) rfl rfl rfl Ze Ze rfl rfl (by omega) Zg) ?_;rintro _ _ ⟨qb,rfl,rfl⟩);refine aZ ?_;refine aI wt rfl (FC (k:=0) (.inr ⟨rfl,rfl⟩) rfl rfl rfl aN (by omega) (by omega)) ?_;rintro _ _ ⟨rfl,rfl⟩;generalize hb1:(eb lg (0:UInt8)).take 0++s++(eb lg (0:UInt8)).drop (0+s.length)=b1;refine dN ?_;refine QO aN (by omega) ?_;rintro g rfl hgc;(refine aB (Hq:=[]) [] [] rfl (by kernel_rfl) Za ?_);refine gX ?_;have hcr:(r.take cnt).length=cnt:=by rw[b9];omega
  (refine aA 6 ?_;refine Oa (l:=by exact (FC (k:=k) (.inl rfl) rfl rfl rfl aN (by omega) (by omega))) (k:= ?_);rintro _ _ ⟨rfl,rfl⟩;refine Te ?_;(try refine Da ?_));have hmade:b1.take k++r.take cnt++b1.drop (k+(r.take cnt).length)=MZ lg k s (r.take cnt):=by rw[←hb1];rfl
  rw[hmade];generalize MZ lg k s (r.take cnt)=b2 at*;refine KA ?_;(refine cM wt (aG (f:=fT) (q':=b2) rfl rfl rfl rfl (by exact aN) rfl (by omega) (by intro _;rfl) (by assumption) rfl rfl (by rfl)) ?_;rintro _ _ ⟨rfl,rfl⟩);rw[hst];refine KA ?_;rw[show (p:Int)+(cnt:Int)=((at'+(d+cnt):Nat):Int) from by omega,show r.drop cnt=text.drop (d+cnt) from by rw[hr,List.drop_drop],hcu];refine Ee (d+cnt) ?_ ?_
  ·show d+cnt≤text.length;omega
  ·show text.length-(d+cnt)<text.length-d;omega
 ·have hdt:d=text.length:=by omega
  subst hdt;rw[jb, ←hres];have e1:(text.drop text.length==[])=true:=by rw[List.drop_length];rfl
  refine aZ ?_;exact Ea (x:=⟨qa,rfl,rfl⟩)
theorem anQ (q:Option Addr) (c:Nat) (n:Nat) (ps:List (List UInt8)) (at':Int) (hg:eT n ps) (ha:0≤at'):
  Ct Tryz.prog 150 [.agg #[.int .i64 (n:Int), .slice q ps.length c], .int .i64 at', .string (str [])] [sl 1 (.slice q ps.length c) (ps.map fT)] fun v H'=> ∃ qa,v= .tuple #[.agg #[.int .i64 (n:Int), .slice qa (aJ n) (aJ n)], .int .i64 0]∧H'=[own (.slice qa (aJ n) (aJ n)) 9 1 (aJ n) (flat fT ps)]:=by
 have hn:=hg.1;have hpl:=hg.2.1;have hs: ∀ s∈ps,s.length≤1000000000000000:=by
  intro s hs;obtain⟨i,hi⟩:=je hs;have:=BC hg hi;have:=kK n i;omega
 have C0:=bH q c n ps (by unfold aJ at hpl;omega) fun s h=>ae (hs s h) (by omega)
 rw[kY hg] at C0;have S0:=DX q c n n ps hn (by unfold aJ at hpl;omega) hs;rw[MX hg] at S0;have e0:(([]:List UInt8)==[])=true:=rfl;(refine Ye Tryz.func150 Tryz.ntmps150 ?_;intro Fr);(repeat' (first|refine Wa ?_|refine We ?_|(refine Wb ?_;intro b)|refine Wc (C0 ..) ?_|fail));(refine Ca (S0) ?_;rintro _ _ ⟨_,⟨qa,rfl,rfl⟩,rfl⟩;refine Da ?_);refine eU ?_;exact Ea (x:=⟨qa,rfl,rfl⟩)
open Classical in
noncomputable def bK (n:Int) (ps:List (List UInt8)) (at':Int) (text:List UInt8):Int:=if lN n ps≠0 then lN n ps else if at'<0 then 1 else if text=[] then 0 else if 4096<(text.length:Int) then 2 else if 4096-(text.length:Int)<at' then 2 else 0
theorem anR (q:Option Addr) (c:Nat) (n:Int) (ps:List (List UInt8)) (at':Int) (text:List UInt8) (hp:ps.length≤9223372036854775807) (hs: ∀ s∈ps,s.length≤9223372036854775807) (ht:text.length≤1000000000000000) (hb:bK n ps at' text≠0):
  Ct Tryz.prog 150 [.agg #[.int .i64 n, .slice q ps.length c], .int .i64 at', .string (str text)] [sl 1 (.slice q ps.length c) (ps.map fT)] fun v H'=>v= .tuple #[.agg #[.int .i64 0, .slice none 0 0], .int .i64 (bK n ps at' text)]∧H'=[]:=by
 have C0:=bH q c n ps hp hs;unfold bK at*;by_cases h0:lN n ps=0
 ·rw[if_neg (by simpa using h0)] at*;rw[h0] at C0;by_cases h1:at'<0
  ·rw[if_pos h1];(refine Ye Tryz.func150 Tryz.ntmps150 ?_;intro Fr);(repeat' (first|refine Wa ?_|refine We ?_|(refine Wb ?_;intro b)|refine Wc (C0 ..) ?_|fail));exact Ea (x:=⟨rfl,rfl⟩)
  ·rw[if_neg h1] at*;by_cases h2:text=[]
   ·rw[if_pos h2] at hb;exact absurd rfl hb
   ·rw[if_neg h2] at*;have e0:(text==[])=false:=by simpa using h2
    by_cases h3:4096<(text.length:Int)
    ·rw[if_pos h3];(refine Ye Tryz.func150 Tryz.ntmps150 ?_;intro Fr);(repeat' (first|refine Wa ?_|refine We ?_|(refine Wb ?_;intro b)|refine Wc (C0 ..) ?_|fail));exact Ea (x:=⟨rfl,rfl⟩)
    ·rw[if_neg h3] at*;by_cases h4:4096-(text.length:Int)<at'
     ·rw[if_pos h4];(refine Ye Tryz.func150 Tryz.ntmps150 ?_;intro Fr);(repeat' (first|refine Wa ?_|refine We ?_|(refine Wb ?_;intro b)|refine Wc (C0 ..) ?_|fail));exact Ea (x:=⟨rfl,rfl⟩)
     ·rw[if_neg h4] at hb;exact absurd rfl hb
 ·rw[if_pos h0];generalize lN n ps=e at*;(refine Ye Tryz.func150 Tryz.ntmps150 ?_;intro Fr);(repeat' (first|refine Wa ?_|refine We ?_|(refine Wb ?_;intro b)|refine Wc (C0 ..) ?_|fail));exact Ea (x:=⟨rfl,rfl⟩)
end Go.Proofs.YtbjalbcdbgcgdaaGreat.file
namespace Go.Proofs.YtbjalbcdbgcgdaaGreat.file
open Go.RowKit bG sl
def jL (n at':Nat) (text:List UInt8):Nat:=if text=[] then n else max n (at'+text.length)
def mX (n at':Nat) (text:List UInt8) (ps:List (List UInt8)):List (List UInt8):=iM (jL n at' text) at' text (kP (jL n at' text) ps)
theorem anS (n at':Nat) (text:List UInt8) (ps:List (List UInt8)):(mX n at' text ps).length=aJ (jL n at' text):=by
 unfold mX;rw[gN,oP]
theorem anT (q:Option Addr) (c:Nat) (n:Nat) (ps:List (List UInt8)) (at':Nat) (text:List UInt8) (hg:eT n ps) (h:text=[]∨at'+text.length≤4096):Ct Tryz.prog 150 [.agg #[.int .i64 (n:Int), .slice q ps.length c], .int .i64 (at':Int), .string (str text)] [sl 1 (.slice q ps.length c) (ps.map fT)] fun v H'=> ∃ qa,v= .tuple #[.agg #[.int .i64 ((jL n at' text:Nat):Int), .slice qa (aJ (jL n at' text)) (aJ (jL n at' text))], .int .i64 0]∧H'=[own (.slice qa (aJ (jL n at' text)) (aJ (jL n at' text))) 9 1 (aJ (jL n at' text)) (flat fT (mX n at' text ps))]:=by
 by_cases ht:text=[]
 ·subst ht;have h1:=anQ q c n ps (at':Int) hg (by omega);have e:jL n at' []=n:=by unfold jL;rw[if_pos rfl]
  unfold mX;rw[e,MY,MX hg];exact h1
 ·have h1:=uN q c n ps at' text hg ht (h.resolve_left ht);have e:jL n at' text=max n (at'+text.length):=by unfold jL;rw[if_neg ht]
  unfold mX;rw[e];exact h1
end Go.Proofs.YtbjalbcdbgcgdaaGreat.file
namespace Go.Proofs.YtbjalbcdbgcgdaaGreat.file
open Go.RowKit bG sl
def NA (ps:List (List UInt8)) (j:Nat):UInt8:=(ps.getD (j/512) []).getD (j%512) 0
def jM (n:Nat) (ps:List (List UInt8)):List UInt8:=(jn n).map (NA ps)
def gG (n:Nat) (ps:List (List UInt8)) (at' cnt:Nat):List UInt8:=(jn (min cnt (n-at'))).map fun j=>NA ps (at'+j)
theorem fO (n:Nat) (ps:List (List UInt8)):(jM n ps).length=n:=by simp [jM]
theorem anU (n:Nat) (ps:List (List UInt8)) (at' cnt:Nat):(gG n ps at' cnt).length=min cnt (n-at'):=by simp [gG]
def FZ (k:Nat) (s:List UInt8):List UInt8:=if s=[] then eb k 0 else s
theorem oR {n k:Nat} {ps:List (List UInt8)} {s:List UInt8} (hg:eT n ps) (hs:ps[k]? =some s):jM (min n (512*k)) ps++FZ (bZ n k) s=jM (min n (512*(k+1))) ps:=by
 have hk:k<aJ n:=by
  have:=(ah.1 hs).1;rwa [hg.2.1] at this
 have h5:=uM hk;have hL:(FZ (bZ n k) s).length=bZ n k:=by
  unfold FZ;split
  ·simp
  ·exact hg.2.2 k s hs ‹_›
 have hlen:min n (512*k)+bZ n k=min n (512*(k+1)):=by unfold bZ;omega
 refine rC (by rw[ag,fO,fO,hL,hlen]) fun j hj=> ?_
 rw[ag,fO,hL,hlen] at hj;rw[BB,fO];show _=(oc (NA ps) (jn _)).getD j 0;rw[iR _ hj];split
 ·exact iR _ ‹_›
 ·rename_i hge;have e1:j/512=k:=by omega
  have e2:j-min n (512*k)=j%512:=by omega
  unfold NA;rw[e1,e2,iw (l:=ps),hs,Option.getD_some];unfold FZ;split
  ·rw[aaY, ‹s=[]›];rfl
  ·rfl
theorem afH {n at' cnt:Nat} (ps:List (List UInt8)) (h:at'≤n):((jM n ps).take (at'+min cnt (n-at'))).drop at'=gG n ps at' cnt:=by
 refine rC ?_ fun j hj=> ?_
 ·rw[eu,b9,fO,anU];omega
 ·rw[eu,b9,fO] at hj;rw[vT,getD_take,if_pos (by omega)];show (oc (NA ps) (jn n)).getD _ 0=(oc (fun j=>NA ps (at'+j)) (jn _)).getD j 0;rw[iR _ (by omega),iR _ (by omega)]
theorem CZ {n k cnt:Nat} (ps:List (List UInt8)) (h:n≤k):gG n ps k cnt=[]:=by
 have:min cnt (n-k)=0:=by omega
 unfold gG;rw[this];rfl
end Go.Proofs.YtbjalbcdbgcgdaaGreat.file
namespace Go.Proofs.YtbjalbcdbgcgdaaGreat.sl
open Go.RowKit bG
theorem aaZ {P:Program} (w:World) (t u ty e:TypeId) (i:TypeInfo) (ht:P.underlying t=some (.slice e)) (hu:P.underlying u=some .string) (hi:P.info? e=some i) (hz:i.zero=some (.int .u8 0)) (hsize:i.size=1) (hby:i.bytes=1) (v:Value) (n:Nat) (xs:List Value) (hown:w.ownsRow 0 e 1 v n xs) (s:ByteArray) (hbytes:n+s.size≤140737488355328): ∃ v' w',(Builtin.append_ #[t,u] ty #[v, .string s]).run P w= .ok v' w'∧w'.ownsRow 0 e 1 v' (n+s.size) (xs++Lib.strCells s)∧w.grownBy w' v.ownBlock∧(v'= .slice none 0 0↔v= .slice none 0 0∧s.size=0)∧(v'.ownBlock=v.ownBlock∨v'.ownBlock=some w.heap.size):=by
 obtain⟨v',w',hr,g1,g2,g3⟩:=Lib.run_append_own_string (P:=P) w 0 t u ty e i ht hu hi hz hsize hby v n xs hown s Zh hbytes (fg _);refine⟨v',w',hr,g1,g2,g3, ?_⟩;have hxl:xs.length=n:=by simpa using hown.1
 rcases hown.2 with⟨rfl,rfl⟩|⟨g,cap,cur,rfl,hbg,hg,hnc,hcm,hcs,htake⟩
 ·by_cases hm:s.size=0
  ·rw[g3.2 ⟨rfl,hm⟩];exact .inl rfl
  ·have h2:=run_append_nil_string (P:=P) w t u ty e i (.int .u8 0) ht hu hi hz s (by omega) (by omega) (by rw[hby];omega);rw[hr] at h2;injection h2 with h3 h4
   rw[h3];exact .inr rfl
 ·by_cases hroom:n+s.size≤cap
  ·have hcs':cur.size=cap:=by simpa using hcs
   have h2:=Lib.run_append_room_string (P:=P) w t u ty e i ht hu hi hsize g n cap cur hg s hroom (by omega);rw[hr] at h2;injection h2 with h3 h4
   rw[h3];exact .inl rfl
  ·have holds: ∀ j u,xs[j]? =some u→w.cell? ((⟨g,0,none⟩:Addr).add j)=some u:=hown.cells (g:=g) rfl;have h2:=Lib.run_append_grow_string (P:=P) w t u ty e i (.int .u8 0) ht hu hi hz ⟨g,0,none⟩ n cap xs (by rw[hsize];simpa using hxl) holds s (by omega) (by omega) (by rw[hby];exact growslice_fits (by omega) (by omega));rw[hr] at h2;injection h2 with h3 h4
   rw[h3];exact .inr rfl
section
variable {P:Program} {n:Nat} {F:dF} {H R:List Ent} {o:Oper} {x y z:Operand} {v u z':Value} {T S:TypeId}
theorem NB {t tt e m:Nat} {agg:Bool} {xs l:List UInt8} [ht:nH P t e] [hs:Ty P e agg 1 1 (.int .u8 0)] [hst:yV P tt] (ho:o.op= .call { callee:= .builtin .append,args:= #[x,y],argTypes:= #[t,tt] }) (hx:ev F x=some v) (hy:ev F y=some (.string (str l)))
  (p:bF (own v e 1 m (flat fY xs)) H R) (hb:m+l.length≤140737488355328):
  cJ P n o F H fun r H'=> ∃ q' cap',r= .slice q' (m+l.length) cap'∧(r= .slice none 0 0↔v= .slice none 0 0∧l=[])∧H'=own (.slice q' (m+l.length) cap') e 1 (m+l.length) (flat fY (xs++l))::R:=fun Q a w next ha hw hn=>by
 have hw':=hw.perm p.perm;obtain⟨it,dt,e1,_,_,e2,e3,e4⟩:=hs.info;have hls:(str l).size=l.length:=bP l;obtain⟨v',w',hr,g1,g2,g3,g4⟩:=aaZ w t tt o.type e it ht.h hst.h e1 e4 e2 e3 v m _ hw'.head (str l) (by rw[hls];exact hb);rw[hls] at g1 g3;obtain⟨q',cap',rfl⟩:=qI g1;have ef:flat fY xs++Lib.strCells (str l)=flat fY (xs++l):=by
  rw[←XN,zF l];rfl
 rw[ef] at g1;unfold Oper.wp;simp only[execOp,ho,resolve,invoke,builtin,List.map_toArray,List.map_cons,List.map_nil,ha.eval hx,ha.eval hy,Sem.run_bind,Sem.run_pure,Result.andThen_ok,hr,Oper.upon];refine hn _ _ _ ⟨q',cap',rfl, ?_,rfl⟩ (vE hw' g2 g1 g4);rw[g3];constructor
 ·exact fun⟨h1,h2⟩=>⟨h1,List.eq_nil_of_length_eq_zero h2⟩
 ·exact fun⟨h1,h2⟩=>⟨h1,by rw[h2];rfl⟩
end
end Go.Proofs.YtbjalbcdbgcgdaaGreat.sl
namespace Go.Proofs.YtbjalbcdbgcgdaaGreat.bld
open Go.RowKit Go.Shelf
theorem avC:Go.Proofs.Lays.n240 Tryz.prog Tryz.pQ:={
 mixed:=Tryz.aO.mixed
 f240:=Tryz.aO.f240
 f276:=Tryz.aO.f276
 t0:=Tryz.aO.t0
 a0:=Tryz.aO.a0
 z0:=Tryz.aO.z0
 v0:=Tryz.aO.v0
 t4:=Tryz.aO.t4
 a4:=Tryz.aO.a4
 z4:=Tryz.aO.z4
 v4:=Tryz.aO.v4
 t9:=Tryz.aO.t9
 a9:=Tryz.aO.a9
 z9:=Tryz.aO.z9
 v9:=Tryz.aO.v9
 t20:=Tryz.aO.t20
 a20:=Tryz.aO.a20
 z20:=Tryz.aO.z20
 v20:=Tryz.aO.v20
 t70:=Tryz.aO.t70
 a70:=Tryz.aO.a70
 z70:=Tryz.aO.z70
 v70:=Tryz.aO.v70
 t72:=Tryz.aO.t72
 a72:=Tryz.aO.a72
 z72:=Tryz.aO.z72
 v72:=Tryz.aO.v72
 t164:=Tryz.aO.t164
 a164:=Tryz.aO.a164
 z164:=Tryz.aO.z164
 v164:=Tryz.aO.v164
}
theorem aET:Go.Proofs.Lays.n169 Tryz.prog Tryz.pQ:={
 mixed:=Tryz.aO.mixed
 f169:=Tryz.aO.f169
 t0:=Tryz.aO.t0
 a0:=Tryz.aO.a0
 z0:=Tryz.aO.z0
 v0:=Tryz.aO.v0
 t3:=Tryz.aO.t3
 a3:=Tryz.aO.a3
 z3:=Tryz.aO.z3
 v3:=Tryz.aO.v3
 t9:=Tryz.aO.t9
 a9:=Tryz.aO.a9
 z9:=Tryz.aO.z9
 v9:=Tryz.aO.v9
 t37:=Tryz.aO.t37
 a37:=Tryz.aO.a37
 z37:=Tryz.aO.z37
 v37:=Tryz.aO.v37
 t70:=Tryz.aO.t70
 a70:=Tryz.aO.a70
 z70:=Tryz.aO.z70
 v70:=Tryz.aO.v70
 t72:=Tryz.aO.t72
 a72:=Tryz.aO.a72
 z72:=Tryz.aO.z72
 v72:=Tryz.aO.v72
 t127:=Tryz.aO.t127
 a127:=Tryz.aO.a127
 z127:=Tryz.aO.z127
 v127:=Tryz.aO.v127
}
theorem string (B b:Nat) (l:List UInt8) (w:World) (h:Lib.IsBuilderF 313 5 B b (Lib.byteCells l) w) (h0:l≠[]):Calls Tryz.prog 226 #[.pointer (some ⟨b,0,none⟩)] w fun e w'=>e= .returned (.string ⟨l.toArray⟩)∧(Lib.IsBuilderF 313 5 B b (Lib.byteCells l) w'∧Below B w w'):=Any.Builder_String_f aET Tryz.iX B b l w h h0
end Go.Proofs.YtbjalbcdbgcgdaaGreat.bld
