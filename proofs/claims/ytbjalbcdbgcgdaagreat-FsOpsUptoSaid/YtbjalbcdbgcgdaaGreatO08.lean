/- FsOps, packed. -/
import Derived.Test.YtbjalbcdbgcgdaaGreatOQ
import Derived.Test.YtbjalbcdbgcgdaaGreatO02
import Derived.Test.YtbjalbcdbgcgdaaGreatO04
import Derived.Test.YtbjalbcdbgcgdaaGreatO00
import Derived.Test.YtbjalbcdbgcgdaaGreatO03
import Derived.Deep.RegionHeld3
open Go.Proofs.Tryz renaming prog->lk
open List renaming Perm.swap->kj,append_assoc->fu,cons_append->dw,drop->adq,drop_eq_getElem_cons->bh,drop_eq_nil_of_le->adh,drop_left'->aem,drop_length->abc,drop_of_length_le->fv,eq_nil_of_length_eq_zero->bp,getD_eq_getElem?_getD->my,getElem?_append_left->lu,getElem?_append_right->gz,getElem?_eq_getElem->ak,getElem?_eq_none->je,getElem?_eq_some_iff->aj,getElem?_of_mem->abl,length_append->ae,length_cons->dv,length_drop->bq,length_singleton->gk,length_take->ar,mem_append->ei,mem_cons->al,mem_cons_of_mem->a8,mem_cons_self->bu,mem_of_getElem?->jg,mem_of_mem_drop->ln,nil_append->dz,pairwise_cons->an,replicate->du,replicate_succ->aek,replicate_succ'->aeg,take->aef,takeWhile_cons->ael,take_append_drop->gl,take_left'->aeh,take_length->mz,take_of_length_le->bd,take_take->aco
open Nat renaming add_assoc->b9,add_comm->aao,add_mul->ff,add_sub_cancel->nb,div_add_mod->gq,eq_zero_or_pos->jo,le_of_mul_le_mul_right->aei,le_refl->df,lt_irrefl->aen,lt_or_ge->ig,min_eq_left->j9,mul_le_mul_right->cr,pow_add->aac,pow_le_pow_right->mr,sub_self->ku,two_pow_pos->aaf,zero_le->fe
open Int renaming eq_ofNat_of_zero_le->adg,toNat_natCast->dc
open UInt8 renaming ofNat->ky
open Decidable renaming byContradiction->acv
open Bool renaming true_and->aej
open Go.Value renaming int->gh,oneCell'->a6
open Go.IntKind renaming i64->kx,u8->kz
open Go.World renaming ownsRow_nil->aan
open Go.Lit renaming int->kg
set_option linter.unusedVariables false
set_option maxRecDepth 100000
set_option maxHeartbeats 8000000
namespace Go.Proofs.YtbjalbcdbgcgdaaGreat
open Go.RowKit bO
namespace code
open sl lens flip
def OH (p:Int×Int):List Value:=[.int .u64 p.1, .int .i64 p.2]
theorem aLG (p:Int×Int): ∀ u∈OH p,u.oneCell'=true:=by simp [OH,a6]
theorem aLH (n w:Nat) (h1:n<18446744073709551616) (hw:w≤64):Ct lk 340 [.int .u64 (n:Int), .int .i64 (w:Int)] [] fun v H'=>v= .int .u64 ((iS n w:Nat):Int)∧H'=[]:=
 bK fun W _=>(aDR n w h1 W).mono fun e w' ⟨h1,h2⟩=>⟨by rw[h1,show (max 0 (min 64 (w:Int))).toNat=w by omega],by rw[h2];exact Below.refl _ _⟩
def SQ (l:List Int) (x:Int):Prop:=0≤x∧l.getD x.toNat 0≠0
instance (l:List Int) (x:Int):Decidable (SQ l x):=by unfold SQ;infer_instance
def jK (l:List Int) (x:Int):Int×Int:=((iS (iG l x.toNat) (l.getD x.toNat 0).toNat:Nat),l.getD x.toNat 0)
def wrF (l:List Int):List Int→List (Int×Int)→List (Int×Int)×Int
 |[],out=>(out,0)
 |x::t,out=>if SQ l x then wrF l t (out++[jK l x]) else ([],1)
def rR (l dB:List Int):List (Int×Int)×Int:=if dD l=0 then wrF l dB [] else ([],(dD l:Int))
theorem aLJ {l:List Int} (h:l.length≤320) (hb: ∀ x∈l,0≤x∧x≤15) (i:Nat):iG l i≤41943360:=by
 rcases ig i l.length with hi|hi
 ·have hx:l[i]? =some l[i]:=ak hi;obtain⟨h0,h15⟩:=hb _ (List.getElem_mem hi);obtain⟨m,hm⟩:=adg h0;rw[hm] at hx;rcases jo m with hz|hp
  ·subst hz;rw[aaM hx];omega
  ·rw[FY hx hp];exact aPI l h i m Z8
 ·unfold iG;rw[je hi];exact fe _
theorem aDS (l:List Int) {i:Nat} (h:i<l.length):(wQ l)[i]? =some ((iG l i:Nat):Int):=by
 unfold wQ;rw[List.getElem?_map,List.getElem?_range h];rfl
attribute [local irreducible] box own sl bL aH bJ Qt cN cM dG dL eQ
theorem kJ (q qs:Option Addr) (c cs:Nat) (l dB:List Int) (hg: ∀ x∈l,(kg .i64 x).wf=true) (hn:l.length≤1000000000000000) (hs:dB.length≤1000000):
  Ct lk 306 [.slice q l.length c, .slice qs dB.length cs] [sl 1 (.slice q l.length c) (l.map fI),sl 1 (.slice qs dB.length cs) (dB.map fI)]
   fun v H'=> ∃ q2 c2,v= .tuple #[.slice q2 (rR l dB).1.length c2, .int .i64 (rR l dB).2]∧H'=[own (.slice q2 (rR l dB).1.length c2) 394 2 (rR l dB).1.length (flat OH (rR l dB).1)]:=by
 have C0:=ahZ q c l hg hn;by_cases hc:dD l=0
 ·obtain⟨hl,hb⟩:=jY hc;have e:rR l dB=wrF l dB []:=by unfold rR;rw[Jg hc]
  rw[e];have C1:Ct lk 313 [.slice q l.length c] [sl 1 (.slice q l.length c) (l.map fI)] fun v H'=> ∃ q c,v= .tuple #[.slice q l.length c, .int .i64 0]∧H'=[own (.slice q l.length c) 3 1 l.length (flat fI (wQ l))]:=bY C0 fun v H' h=>by
   rcases h with⟨h1,_⟩|⟨_,h2⟩
   ·exact absurd hc h1
   ·exact h2
  have hcl:=avN l;have zu:=fun i=>aDS l (i:=i)
  obtain⟨r,hr⟩: ∃ r,wrF l dB []=r:=⟨_,rfl⟩;rw[hr];(refine Ye Tryz.func306 Tryz.ntmps306 ?_;intro Fr);refine bM ?_;(refine Ca (C1) ?_;rintro _ _ ⟨_,⟨q1,c1,rfl,rfl⟩,rfl⟩;refine Da ?_);refine bM ?_;refine aO (aS _ 394 2) ?_;(refine aC (σ:=Nat×Option Addr×Nat×List (Int×Int)) (fun x=>x.1≤dB.length∧x.2.2.2.length=x.1∧wrF l (dB.drop x.1) x.2.2.2=r) (fun x=>[(21, .int .i64 (x.1:Int)),(8, .slice x.2.1 x.2.2.2.length x.2.2.1)]) (fun x=>[own (.slice x.2.1 x.2.2.2.length x.2.2.1) 394 2 x.2.2.2.length (flat OH x.2.2.2)]) _ (fun x=>dB.length-x.1) ((0,none,0,[])) (by exact⟨fe _,rfl,hr⟩) Ze Zb (fun⟨i,q3,c3,out⟩ ⟨hi,zv,zy⟩=> ?_);refine Da ?_);dsimp only at hi zv zy ⊢;rcases ig i dB.length with hlt|hge
  ·obtain⟨x,hx⟩: ∃ x,dB[i]? =some x:=⟨_,ak hlt⟩;have zt:dB.drop i=x::dB.drop (i+1):=by
    rw[bh hlt];have:dB[i]=x:=(aj.1 hx).2;rw[this]
   rw[zt,wrF] at zy;by_cases hh:SQ l x
   ·rw[Jg hh] at zy;obtain⟨h0,h1⟩:=hh;obtain⟨j,rfl⟩:=adg h0;have zx:j<l.length:=by
     rcases ig j l.length with h|h
     ·exact h
     ·rw[dc,my,je h] at h1;exact absurd rfl h1
    obtain⟨y,hy⟩: ∃ y,l[j]? =some y:=⟨_,ak zx⟩;have zw:l.getD j 0=y:=by rw[my,hy];rfl
    obtain⟨y0,y15⟩:=hb y (jg hy);obtain⟨m,rfl⟩:=adg y0;rw[dc,zw] at h1;have hcb:=aLJ hl hb j;have hcj:=zu j zx;have F0:=aLH (iG l j) m Z8 Z8;have zr:jK l (j:Int)=(((iS (iG l j) m:Nat):Int),(m:Int)):=by
     unfold jK;rw[dc,zw,dc]
    rw[zr] at zy;have hm0: ¬ ((m:Int)=0):=h1;generalize iG l j=cj at*;have hone: ∀ y, ∀ u∈OH y,u.oneCell'=true:=aLG;refine kB ?_;(refine aD (Hq:=[_,_]) [1,2] [] rfl Jd Za ?_);(repeat' (first|refine Wk ?_|refine Wc (F0 ..) ?_|refine Wz ?_|fail));(refine aB 16 ?_;refine Oa (l:=by exact aT rfl rfl rfl Zp rfl rfl Z9 rfl) (k:= ?_);rintro _ _ ⟨q9,rfl,rfl⟩;refine Te ?_;(try refine Da ?_));(refine aB 17 ?_;refine Oa (l:=by exact (by first|exact Ma (OH) [(((iS cj m:Nat):Int),(m:Int))] rfl|exact Mb (OH) [(((iS cj m:Nat):Int),(m:Int))] rfl)) (k:= ?_);rintro _ _ ⟨q4,c4,rfl,rfl⟩;refine Te ?_;(try refine Da ?_));refine sO ?_;refine Ee ((i+1,q4,c4,out++[(((iS cj m:Nat):Int),(m:Int))])) ?_ ?_
    ·exact⟨hlt,by dsimp only;rw[ae,gk,zv],zy⟩
    ·dsimp only;omega
   ·rw[Jf hh] at zy;subst zy;by_cases hx0:x<0
    ·refine bM ?_;exact Ea (x:=⟨none,0,rfl,rfl⟩)
    ·obtain⟨j,rfl⟩:=adg (by omega:0≤x);rcases ig j l.length with zx|zx
     ·obtain⟨y,hy⟩: ∃ y,l[j]? =some y:=⟨_,ak zx⟩;have zw:l.getD j 0=y:=by rw[my,hy];rfl
      have zq:y=0:=by
       unfold SQ at hh;rw[dc,zw] at hh;exact acv fun h=>hh ⟨Z8,h⟩
      subst zq;refine bM ?_;exact Ea (x:=⟨none,0,rfl,rfl⟩)
     ·refine bM ?_;exact Ea (x:=⟨none,0,rfl,rfl⟩)
  ·have zn:i=dB.length:=Z8
   subst zn;rw[abc,wrF] at zy;subst zy;refine bM ?_;exact Ea (x:=⟨q3,c3,rfl,rfl⟩)
 ·have e:rR l dB=([],(dD l:Int)):=by unfold rR;rw[Jf hc]
  rw[e];have C1:Ct lk 313 [.slice q l.length c] [sl 1 (.slice q l.length c) (l.map fI)] fun v H'=>v= .tuple #[.slice none 0 0, .int .i64 (dD l:Int)]∧H'=[]:=bY C0 fun v H' h=>by
   rcases h with⟨_,h2⟩|⟨h1,_⟩
   ·exact h2
   ·exact absurd h1 hc
  generalize dD l=ce at*;(refine Ye Tryz.func306 Tryz.ntmps306 ?_;intro Fr);(repeat' (first|refine Y3 ?_|refine Wc (C1 ..) ?_|fail));exact Ea (x:=⟨none,0,rfl,rfl⟩)
end code
namespace code
open sl lens flip Go.Proofs.YtbjalbcdbgcgdaaGreat.bits
theorem aLL (s:List UInt8) (k:Nat):avQ s k=tJ s/2^k%2:=by
 unfold avQ;rcases ig (k/8) s.length with h|h
 ·have hb:s[k/8]? =some s[k/8]:=ak h;have h1:=aiF s (k/8) (k%8) 1 _ hb Z8;rw[gq,Nat.pow_one] at h1;rw[h1,my,hb];rfl
 ·have h1:=aRB s;have h2:(256:Nat)^s.length=2^(8*s.length):=by rw[Nat.pow_mul]
  have h3:2^(8*s.length)≤2^k:=mr Z9 Z8;have h4:tJ s/2^k=0:=Nat.div_eq_of_lt Z8;rw[my,je h,h4];simp
theorem aRE {l:List Int} {w i:Nat} (hi:l[i]? =some (w:Int)): ∀ k,k≤l.length→i<k→(idx l w k)[cnt (l.take i) w]? =some (i:Int):=by
 intro k;induction k with
 |zero=>intro _ h;omega
 |succ k ih=>
  intro hk hik;obtain⟨y,hy⟩: ∃ y,l[k]? =some y:=⟨_,ak Z8⟩;rw[SL hy];rcases ig i k with h|h
  ·have h1:=ih Z8 h;split
   ·rw[lu (aj.1 h1).1];exact h1
   ·exact h1
  ·have zy:i=k:=Z8
   subst zy;rw[hy] at hi;rw[Jg (Option.some.inj hi), ←adD l w i Z8,gz (df _),ku];rfl
theorem aRF {l:List Int} {w j:Nat} (h1:1≤w) (h15:w≤15) (hj:j<cnt l w):(rQ l 15)[(rQ l (w-1)).length+j]? =(idx l w l.length)[j]? :=by
 have hl:(idx l w l.length).length=cnt l w:=by have:=adD l w l.length (df _);rwa [mz] at this
 have key: ∀ b,w≤b→(rQ l b)[(rQ l (w-1)).length+j]? =(idx l w l.length)[j]? :=by
  intro b;induction b with
  |zero=>intro h;omega
  |succ b ih=>
   intro h;rw[rQ];rcases ig w (b+1) with h2|h2
   ·rw[lu,ih Z8];have h3:=aiB l w b Z8;have h4:rQ l w=rQ l (w-1)++idx l w l.length:=by
     obtain⟨v,rfl⟩: ∃ v,w=v+1:=⟨w-1,Z8⟩;rfl
    rw[h4,ae,hl] at h3;omega
   ·have h3:w=b+1:=Z8
    subst h3;rw[nb,gz Z8,Nat.add_sub_cancel_left]
 exact key 15 h15
theorem avW (s:List UInt8) (k w:Nat):iS (tJ s/2^k) w*2+avQ s (k+w)=iS (tJ s/2^k) (w+1):=by
 rw[aLL,iS,Nat.div_div_eq_div_mul, ←aac]
end code
namespace code
open sl lens flip Go.Proofs.YtbjalbcdbgcgdaaGreat.bits
theorem aED {l:List Int} {i v:Nat} (h:l[i]? =some (v:Int)):jK l (i:Int)=(((iS (iG l i) v:Nat):Int),(v:Int)):=by
 have hd:l.getD i 0=(v:Int):=by rw[my,h];rfl
 unfold jK;rw[dc,hd,dc]
end code
namespace code
open sl lens flip Go.Proofs.YtbjalbcdbgcgdaaGreat.bits
theorem amY {n c w:Nat} (hc:c<2^w) (h:n%2^w=iS c w) {v:Nat} (hv:v≤w):iS n v=c/2^(w-v):=by
 apply Nat.eq_of_testBit_eq;intro i;rw[aaN,Nat.testBit_div_two_pow];by_cases hi:i<v
 ·have h1:(n%2^w).testBit (v-1-i)=(iS c w).testBit (v-1-i):=by rw[h]
  rw[Nat.testBit_mod_two_pow,aaN,decide_eq_true (by omega:v-1-i<w),aej,aej,show w-1-(v-1-i)=w-v+i by omega] at h1;rw[decide_eq_true hi,aej,h1,aao]
 ·rw[decide_eq_false hi,Bool.false_and];symm;apply Nat.testBit_lt_two_pow;exact Nat.lt_of_lt_of_le hc (mr Z9 Z8)
theorem TA {l:List Int} (h:dD l=0):jR l≤32768:=by
 unfold dD at h;split at h
 ·rename_i h9;exact absurd h h9
 ·split at h
  ·cases h
  ·omega
theorem avX {l:List Int} {s:List UInt8} {k w i:Nat} (hc:dD l=0) (hi:l[i]? =some (w:Int)) (hw:1≤w) (hn:tJ s/2^k%2^w=iS (iG l i) w) (hk:k+w≤8*s.length):one l s k=((i:Int),k+w,0):=by
 obtain⟨hl,hb⟩:=jY hc;have h15:w≤15:=by
  have:=(hb _ (jg hi)).2;omega
 have hlt:=aLK hb (TA hc) hi hw h15;have hfl:=TA hc;have zy:=FY hi Z8;unfold nx at zy;rw[Jf Z8] at zy;have hcn:cnt (l.take i) w+1≤cnt l w:=by
  have h1:=pJ hi w;rw[Jg rfl] at h1;have h2:=aiG l (i+1) w;omega
 have zw:=adF l w hw h15;obtain⟨c,zt⟩: ∃ c,iG l i=c:=⟨_,rfl⟩;rw[zt] at hlt zy hn;have zr:c<2^w:=by
  have h1:(c+1)*2^(15-w)≤2^w*2^(15-w):=by
   rw[←aac,show w+(15-w)=15 by omega,ff,Nat.one_mul];omega
  exact aei h1 (aaf _)
 have key: ∀ f v,f+v=16→v≤w→XG (fA l 16) (fR l 16) (fC l) (rQ l 15) s f v (iS (tJ s/2^k) v) (k+v)=((i:Int),k+w,0):=by
  intro f;induction f with
  |zero=>intro v h1 h2;omega
  |succ f ih=>
   intro v hv zu;have hA:fA l 16 v=(KI l v:Int):=by unfold fA;rw[Jg Z8]
   have hR:fR l 16 v=((rQ l (v-1)).length:Int):=by unfold fR;rw[Jg Z8]
   have zx:=amY zr hn zu;rw[XG];rcases ig v w with h1|h1
   ·have hC:0<v→fC l v=(cnt l v:Int):=fun h=>by unfold fC;rw[Jf Z8]
    rw[Jf,Jf,Jf,b9,avW]
    ·exact ih (v+1) Z8 Z8
    ·omega
    ·have zq:XF (fA l 16) (fC l) (iS (tJ s/2^k) v) v=true:=by
      refine (FZ _ _ _ _).2 ⟨w,Z8,zu, ?_⟩;have zn:fA l 16 w=(KI l w:Int):=by unfold fA;rw[Jg Z8]
      have zm:fC l w=(cnt l w:Int):=by unfold fC;rw[Jf Z8]
      unfold aiA;rw[zn,zm,zx];have g1:c/2^(w-v)*2^(w-v)≤c:=Nat.div_mul_le_self _ _;have g2:c<c/2^(w-v)*2^(w-v)+2^(w-v):=by
       have g3:=gq c (2^(w-v));have g4:=Nat.mod_lt c (aaf (w-v));rw[Nat.mul_comm] at g3;omega
      generalize c/2^(w-v)*2^(w-v)=z at*;generalize 2^(w-v)=p at*;refine⟨Z8,Z8,Z8⟩
     rw[zq];decide
    ·rintro⟨h2,h3,h4⟩;rw[hA,hC h2,zx] at h4;have h5:KI l v+cnt l v≤c/2^(w-v):=by
      rw[Nat.le_div_iff_mul_le (aaf _)];have h6:=adF l v Z8 Z8;have h7:=uL l v Z8;have h8:=aaP l (v+1) w Z8;have h9:(KI l v+cnt l v)*2^(w-v)*2^(15-w)≤c*2^(15-w):=by
       rw[Nat.mul_assoc, ←aac,show w-v+(15-w)=15-v by omega,ff,h6, ←h7];refine Nat.le_trans h8 ?_;rw[←zw];exact cr _ Z8
      exact aei h9 (aaf _)
     omega
   ·have zv:v=w:=Z8
    subst zv;have hC:fC l v=(cnt l v:Int):=by unfold fC;rw[Jf Z8]
    rw[ku,Nat.pow_zero,Nat.div_one] at zx;rw[hA,hC,hR,zx,Jg Z8];have hj:cnt (l.take i) v<cnt l v:=Z8
    have zl:i<l.length:=(aj.1 hi).1;rw[show (((rQ l (v-1)).length:Int)+(c:Int)-(KI l v:Int)).toNat=(rQ l (v-1)).length+cnt (l.take i) v by omega,my,aRF hw h15 hj,aRE hi l.length (df _) zl];rfl
 exact key 16 0 rfl (fe _)
end code
namespace code
open sl lens flip Go.Proofs.YtbjalbcdbgcgdaaGreat.bits
theorem TB {ps:List (Int×Int)} (h: ∀ p∈ps, ∃ a v:Nat,a<2^v∧v≤15∧p=((a:Int),(v:Int))):dJ ps=0∧total ps≤15*ps.length:=by
 induction ps with
 |nil=>exact⟨rfl,df _⟩
 |cons p ps ih=>
  obtain⟨a,v,h1,h2,rfl⟩:=h p bu;obtain⟨h3,h4⟩:=ih fun q hq=>h q (a8 _ hq)
  refine⟨?_, ?_⟩
  ·rw[dJ,sV _ _ Z8,Jg h1,Jg rfl];exact h3
  ·rw[total,dv];simp only[dc];omega
end code
namespace runs
open put
def pF (w:Int):List Value:=[gh .i64 w]
def jB:List Int→Bool
 |[]=>false
 |x::l=>if x<0∨15<x then true else jB l
def gC (l:List Int):Nat:=if 320<l.length then 2 else if jB l=true then 1 else 0
def lead:Nat→Int→List Int→Nat
 |0,_,_=>0
 |_+1,_,[]=>0
 |c+1,x,y::l=>if y=x then lead c x l+1 else 0
def wF:Nat→List Int→List UInt8
 |0,_=>[]
 |_+1,[]=>[]
 |f+1,x::l=>ky (x.toNat*16+lead 15 x l)::wF f (l.drop (lead 15 x l))
def bE (l:List Int):List UInt8:=cY l.length++wF l.length l
def fL (l:List Int):ByteArray:=if gC l=0 then ⟨(bE l).toArray⟩ else ⟨#[]⟩
theorem xS (a b:List Int):jB (a++b)=(jB a||jB b):=by
 induction a with
 |nil=>simp [jB]
 |cons p a ih=>
  rw[dw,jB,jB,ih];split<;>simp
theorem KH {l:List Int} {k:Nat} {w:Int} (hp:l[k]? =some w) (h0:jB (l.take k)=false) (hw: ¬ (w<0∨15<w)):jB (l.take (k+1))=false:=by
 rw[take_one hp,xS,h0,jB,Jf hw];rfl
theorem FX {l:List Int} {k:Nat} {w:Int} (hp:l[k]? =some w) (hw:w<0∨15<w):jB l=true:=by
 have e1:l=l.take k++(w::l.drop (k+1)):=by
  conv=>lhs;rw[←gl k l]
  rw[bh (aj.1 hp).1,(aj.1 hp).2]
 rw[e1,xS,jB,Jg hw,Bool.or_true]
theorem uJ {l:List Int} (h:jB l=false) {w:Int} (hw:w∈l):0≤w∧w≤15:=by
 induction l with
 |nil=>cases hw
 |cons p l ih=>
  unfold jB at h;split at h
  ·cases h
  ·rcases al.1 hw with rfl|hw
   ·omega
   ·exact ih h hw
theorem adT: ∀ (f g:Nat) (l:List Int),l.length≤f→l.length≤g→wF f l=wF g l
 |0,g,l,h,_=>by
  have:l=[]:=bp Z8;subst this;cases g<;>rfl
 |f+1,0,l,_,h=>by
  have:l=[]:=bp Z8;subst this;rfl
 |f+1,g+1,[],_,_=>rfl
 |f+1,g+1,x::l,h1,h2=>by
  rw[wF,wF];simp only[dv] at h1 h2;rw[adT f g _ Zq Zq]
theorem ajE: ∀ (c:Nat) (x:Int) (l:List Int),lead c x l≤l.length∧lead c x l≤c
 |0,_,l=>by simp [lead]
 |_+1,_,[]=>by simp [lead]
 |c+1,x,y::l=>by
  rw[lead];have:=ajE c x l;split<;>simp<;>omega
def NK (xs:List Int) (k:Nat):List UInt8:=wF xs.length (xs.drop k)
theorem anQ {xs:List Int} {k:Nat} {x:Int} (h:xs[k]? =some x) {L:Nat} (hL:lead 15 x (xs.drop (k+1))=L):NK xs k=ky (x.toNat*16+L)::NK xs (k+1+L):=by
 have hk:=(aj.1 h).1;unfold NK;rw[bh hk,(aj.1 h).2,adT xs.length ((xs.drop (k+1)).length+1) _ Zq Ja,wF,hL,List.drop_drop];rw[adT xs.length (xs.drop (k+1)).length _ Ja Zq]
theorem awK (xs:List Int):NK xs xs.length=[]:=by
 unfold NK;rw[abc];cases xs.length<;>rfl
theorem awL {xs:List Int} {k m:Nat} {x:Int} (h:xs[k+m]? =some x) (hm:m<16):lead (16-m) x (xs.drop (k+m))=lead (16-(m+1)) x (xs.drop (k+(m+1)))+1:=by
 have hk:=(aj.1 h).1;rw[bh hk,(aj.1 h).2,show 16-m=(16-(m+1))+1 from by omega,lead,Jg rfl];rfl
theorem anR {xs:List Int} {k m:Nat} {x y:Int} (h:xs[k+m]? =some y) (zy:y≠x):lead (16-m) x (xs.drop (k+m))=0:=by
 have hk:=(aj.1 h).1;rw[bh hk,(aj.1 h).2];cases 16-m with
 |zero=>rfl
 |succ c=>rw[lead,Jf zy]
theorem aFC {xs:List Int} {k m:Nat} {x:Int} (h:xs.length≤k+m):lead (16-m) x (xs.drop (k+m))=0:=by
 rw[fv h];cases 16-m<;>rfl
theorem aFD: ∀ a b:Fin 16,bits BinOp.or kx (((a.val:Nat):Int)*16) ((b.val:Nat):Int)%256=((ky (a.val*16+b.val)).toNat:Int):=Z9
theorem UC (x:Int) (m:Nat) (hx:0≤x∧x≤15) (hm:1≤m∧m≤16):bits BinOp.or kx (x*16) ((m:Int)-1)%256=((ky (x.toNat*16+(m-1))).toNat:Int):=by
 have h:=aFD ⟨x.toNat,Z8⟩ ⟨m-1,Z8⟩;simp only at h;rw[Int.toNat_of_nonneg hx.1,show ((m-1:Nat):Int)=(m:Int)-1 from by omega] at h;exact h
theorem DA {xs:List Int} {l:List UInt8} {k m:Nat} {x:Int} (h:bE xs=l++NK xs k) (hp:xs[k]? =some x) (hm:1≤m) (hL:lead 15 x (xs.drop (k+1))=m-1):bE xs=(l++[ky (x.toNat*16+(m-1))])++NK xs (k+m):=by
 rw[h,anQ hp hL,show k+1+(m-1)=k+m from by omega];simp
theorem kJ (v:Value) (xs:List Int) (W:World) (hs:bX W 1 v (xs.map pF)) (hg: ∀ x∈xs,(kg .i64 x).wf=true) (hn:xs.length≤1000000000000000):
  Calls lk 307 #[v] W fun e w'=>e= .returned (.tuple #[.string (fL xs), .int .i64 (gC xs:Int)])∧Below W.heap.size W w':=by
 obtain⟨q,cap,b,off,rfl,hq,hc⟩:=hs.view;simp only[List.length_map] at hq ⊢;have HQ:=Lib.hid hq;have HC:Hid (∀ k x,xs[k]? =some x→W.cell? ⟨b,off+k,none⟩=some (.int .i64 x)):=fun k p hx=>by
  have:=hc k _ ZL 0 _ rfl;simpa [Nat.mul_one] using this
 clear hs hq hc;by_cases hbig:(320:Int)<(xs.length:Int)
 ·have hE:gC xs=2:=by rw[gC,Jg Z8]
  have hS:fL xs=⟨#[]⟩:=by rw[fL,Jf Zt]
  rw[hS,hE]
  go_enter Tryz.func307,Tryz.ntmps307
  go_wp2_with (fail)
  go_ret2
  exact⟨rfl,Below.refl _ _⟩
 ·have hn3:xs.length≤320:=Z8
  go_enter Tryz.func307,Tryz.ntmps307
  go_wp2_with (fail)
  go_loopw [14] (fun y wr=> ∃ k:Nat,k≤xs.length∧y= .int .i64 k∧Hid (jB (xs.take k)=false)∧W=wr) (fun y _=>xs.length-(intOf y).toNat)
  case atStart=>exact⟨0,fe _,rfl,rfl,rfl⟩
  case round=>
   obtain⟨k,hk,rfl,hfe,rfl⟩:=hrel;by_cases hlt:k<xs.length
   ·obtain⟨rfl,hblk⟩:=HQ.out k hlt;obtain⟨x,hp⟩: ∃ p,xs[k]? =some p:=⟨_,ak hlt⟩;have hc0:=HC.out k _ hp;have hltI:(k:Int)<(xs.length:Int):=Z8
    have hp2:=IV (hg _ (jg hp));have HP:=Lib.hid hp;clear hp;by_cases hneg:x<0
    ·have hE:gC xs=1:=by rw[gC,Jf Z8,Jg (FX HP.out (.inl hneg))]
     have hS:fL xs=⟨#[]⟩:=by rw[fL,Jf Zt]
     go_wp2_with (fail)
     go_ret2
     exact⟨rfl,Below.refl _ _⟩
    ·by_cases hbig:15<x
     ·have hE:gC xs=1:=by rw[gC,Jf Z8,Jg (FX HP.out (.inr hbig))]
      have hS:fL xs=⟨#[]⟩:=by rw[fL,Jf Zt]
      go_wp2_with (fail)
      go_ret2
      exact⟨rfl,Below.refl _ _⟩
     ·have HE:=Lib.hid (KH HP.out hfe.out Z8)
      go_wp2_with (fail)
      exact⟨⟨k+1,Z8,rfl,HE,trivial⟩,by show xs.length-(((k:Int)+1).toNat)<xs.length-((k:Int).toNat);omega⟩
   ·have hke:k=xs.length:=Z8
    subst hke;rw[mz] at hfe;have hE:gC xs=0:=by rw[gC,Jf Z8,Jf (by rw[hfe.out];decide)]
    have hS:fL xs=⟨(bE xs).toArray⟩:=by rw[fL,Jg hE]
    have HE:=Lib.hid hE;have HS:=Lib.hid hS;clear hE hS;have hu:(xs.length:Int)<18446744073709551616:=Z8
    go_wp2_with (fail)
    refine (oX xs.length Z8 W).mono ?_;rintro e W1 ⟨rfl,hb1⟩;have hsz:=hb1.size;have hpl:(⟨(cY xs.length).toArray⟩:ByteArray).size≤11:=by rw[aJK];exact (xH 10 xs.length).2
    go_wp2_with (refine KK rfl 9 292 5 _ rfl Tryz.underlying9 Tryz.underlying292 Tryz.underlying5 _ Zl rfl hb1 hsz ?_)
    intro ov W2 hown hb2;clear hb1 hsz hpl
    go_wp2_with (fail)
    have h63:xs.length≤320:=hn3
    go_loopw [6,7] (fun o y wr=> ∃ (k:Nat) (l:List UInt8),k≤xs.length∧y= .int .i64 k∧TD wr W.heap.size 5 o l∧l.length≤11+k∧Hid (bE xs=l++NK xs k)∧Below W.heap.size W wr) (fun _ y _=>xs.length-(intOf y).toNat)
    case atStart=>exact⟨0,cY xs.length,fe _,rfl,hown,by rw[Nat.add_zero];exact (xH 10 xs.length).2,rfl,hb2⟩
    case round=>
     obtain⟨k,l,hk,rfl,hown,hll,hwr,hb⟩:=hrel;by_cases hlt:k<xs.length
     ·obtain⟨rfl,hblk⟩:=HQ.out k hlt;obtain⟨x,hp⟩: ∃ p,xs[k]? =some p:=⟨_,ak hlt⟩;have hx:=uJ hfe.out (jg hp);have hltI:(k:Int)<(xs.length:Int):=Z8
      have HP:=Lib.hid hp;have HC0:=Lib.hid (HC.out k _ hp);clear hp;obtain⟨w0,rfl⟩: ∃ w0,w0=wr:=⟨_,rfl⟩
      go_wp2_with (fail)
      go_loopw [8] (fun y wx=> ∃ m:Nat,1≤m∧m≤16∧k+m≤xs.length∧y= .int .i64 m∧Hid (lead 15 x (xs.drop (k+1))+1=m+lead (16-m) x (xs.drop (k+m)))∧w0.grownBy wx none) (fun y _=>16-(intOf y).toNat)
      case atStart=>exact⟨1,Z8,Z8,Z8,rfl,by show _+1=1+_;rw[aao],BI _ _⟩
      case round=>
       obtain⟨m,hm1,hm16,hkm,rfl,hlead,hgr⟩:=hrel;have hb3:=yR hb hgr;have c0: ∀ x':BW wr,x'.w.cell? ⟨b,off+k,none⟩=some (.int .i64 x):=fun x'=>((hb3.trans (x'.h.mono hb3.size)).cell (p:=⟨b,off+k,none⟩) hblk).trans HC0.out
       have hexit:lead (16-m) x (xs.drop (k+m))=0→lead 15 x (xs.drop (k+1))=m-1:=fun h=>by have:=hlead.out;omega
       by_cases hm:(m:Int)<16
       ·by_cases hin:(k:Int)+(m:Int)<(xs.length:Int)
        ·obtain⟨y,hy⟩: ∃ y,xs[k+m]? =some y:=⟨_,ak Z8⟩;have c1: ∀ x':BW wr,x'.w.cell? ⟨b,off+(k+m),none⟩=some (.int .i64 y):=fun x'=>((hb3.trans (x'.h.mono hb3.size)).cell (p:=⟨b,off+(k+m),none⟩) hblk).trans (HC.out _ _ hy)
         have HY:=Lib.hid hy;clear hy;by_cases hxy:y=x
         ·subst hxy;have HL:Hid (lead 15 y (xs.drop (k+1))+1=(m+1)+lead (16-(m+1)) y (xs.drop (k+(m+1)))):=by
           have:=hlead.out;rw[awL HY.out Z8] at this;show _=_;omega
          clear hexit
          go_wp2_with (fail)
          refine mK Jd Jd ?_;repeat (go_big_quiet_step (fail))
          refine wpQuiet_nil ?_;rintro _ ⟨wx,rfl⟩
          go_wp2_with (fail)
          exact⟨⟨m+1,Z8,Z8,Z8,rfl,HL,sE hgr (nK wx.h)⟩,by show 16-(((m:Int)+1).toNat)<16-((m:Int).toNat);omega⟩
         ·have hL:=Lib.hid (hexit (anR HY.out hxy));have hne:(y==x)=false:=by simpa using hxy
          clear hexit
          go_wp2_with (fail)
          refine mK Jd Jd ?_;repeat (go_big_quiet_step (fail))
          refine wpQuiet_nil ?_;rintro _ ⟨wx,rfl⟩;have hgx:=sE hgr (nK wx.h);generalize wx.w=w5 at hgx ⊢;have hb5:=yR hb hgx;have hsz5:=hb5.size;have c5:w5.cell? ⟨b,off+k,none⟩=some (.int .i64 x):=(hb5.cell (p:=⟨b,off+k,none⟩) hblk).trans HC0.out;have hown5:=hown.kept hgx;have hval0:=UC x m hx ⟨Z8,Z8⟩;have hw0:=DA hwr.out HP.out (show 1≤m by omega) hL.out;generalize ky (x.toNat*16+(m-1))=c8 at hval0 hw0;have hval:=Lib.hid hval0;have HW:=Lib.hid hw0;clear hval0 hw0;clear wx c0 c1 hgx hb3 hgr hown
          go_wp2_with (at_builtin;refine TE put.tD rfl (.tmp 59) (.tmp 69) rfl _ l _ c8 hval.out rfl rfl hown5 ?c2 hsz5 ?_)
          case c2=>omega
          intro v6 w6 hown6 hb6;have hb7:=hb5.trans hb6;clear hval hb6 hown5 c5 hsz5 hb5 hwr
          go_wp2_with (fail)
          exact⟨⟨k+m,_,hkm,rfl,hown6,by simp;omega,HW,hb7⟩,by show xs.length-(((k:Int)+(m:Int)).toNat)<xs.length-((k:Int).toNat);omega⟩
        ·have hL:=Lib.hid (hexit (aFC Z8));have hinD:decide ((k:Int)+(m:Int)<(xs.length:Int))=false:=decide_eq_false hin;clear hexit
         go_wp2_with (fail)
         refine mK Jd Jd ?_;repeat (go_big_quiet_step (fail))
         refine wpQuiet_nil ?_;rintro _ ⟨wx,rfl⟩;have hgx:=sE hgr (nK wx.h);generalize wx.w=w5 at hgx ⊢;have hb5:=yR hb hgx;have hsz5:=hb5.size;have c5:w5.cell? ⟨b,off+k,none⟩=some (.int .i64 x):=(hb5.cell (p:=⟨b,off+k,none⟩) hblk).trans HC0.out;have hown5:=hown.kept hgx;have hval0:=UC x m hx ⟨Z8,Z8⟩;have hw0:=DA hwr.out HP.out (show 1≤m by omega) hL.out;generalize ky (x.toNat*16+(m-1))=c8 at hval0 hw0;have hval:=Lib.hid hval0;have HW:=Lib.hid hw0;clear hval0 hw0;clear wx c0 hgx hb3 hgr hown
         go_wp2_with (at_builtin;refine TE put.tD rfl (.tmp 59) (.tmp 69) rfl _ l _ c8 hval.out rfl rfl hown5 ?c2 hsz5 ?_)
         case c2=>omega
         intro v6 w6 hown6 hb6;have hb7:=hb5.trans hb6;clear hval hb6 hown5 c5 hsz5 hb5 hwr
         go_wp2_with (fail)
         exact⟨⟨k+m,_,hkm,rfl,hown6,by simp;omega,HW,hb7⟩,by show xs.length-(((k:Int)+(m:Int)).toNat)<xs.length-((k:Int).toNat);omega⟩
       ·have:m=16:=Z8
        subst this;have hL:=Lib.hid (hexit rfl);clear hexit
        go_wp2_with (fail)
        refine mK Jd Jd ?_;repeat (go_big_quiet_step (fail))
        refine wpQuiet_nil ?_;rintro _ ⟨wx,rfl⟩;have hgx:=sE hgr (nK wx.h);generalize wx.w=w5 at hgx ⊢;have hb5:=yR hb hgx;have hsz5:=hb5.size;have c5:w5.cell? ⟨b,off+k,none⟩=some (.int .i64 x):=(hb5.cell (p:=⟨b,off+k,none⟩) hblk).trans HC0.out;have hown5:=hown.kept hgx;have hval0:=UC x 16 hx ⟨Z8,Z8⟩;have hw0:=DA hwr.out HP.out (show 1≤16 by omega) hL.out;generalize ky (x.toNat*16+(16-1))=c8 at hval0 hw0;have hval:=Lib.hid hval0;have HW:=Lib.hid hw0;clear hval0 hw0;clear wx c0 hgx hb3 hgr hown
        go_wp2_with (at_builtin;refine TE put.tD rfl (.tmp 59) (.tmp 69) rfl _ l _ c8 hval.out rfl rfl hown5 ?c2 hsz5 ?_)
        case c2=>omega
        intro v6 w6 hown6 hb6;have hb7:=hb5.trans hb6;clear hval hb6 hown5 c5 hsz5 hb5 hwr
        go_wp2_with (fail)
        exact⟨⟨k+16,_,hkm,rfl,hown6,by simp;omega,HW,hb7⟩,by show xs.length-(((k:Int)+(16:Int)).toNat)<xs.length-((k:Int).toNat);omega⟩
     ·have hke:k=xs.length:=Z8
      subst hke;rw[awK,List.append_nil] at hwr;have hst:=hown.str (src:=292) (dst:=9) Tryz.underlying292 Tryz.underlying5 Tryz.underlying9
      go_wp2_with (fail)
      go_ret2
      exact⟨by rw[HS.out,HE.out,hwr.out];rfl,hb⟩
end runs
namespace runs
open put get
def iT:List UInt8→Nat→Nat→UInt8→List Int×Nat×Nat
 |l,n,k,last=>
  if n≤k then ([],0,0) else
  match l with
  |[]=>([],0,3)
  |b::l=>
   let many:=b.toNat%16+1
   if n<k+many∨(0<k∧b.toNat/16=last.toNat/16∧last.toNat%16≠15) then ([],0,4) else
    let r:=iT l n (k+many) b
    if r.2.2=0 then (du many ((b.toNat/16:Nat):Int)++r.1,r.2.1+1,0) else r
def qC (s:List UInt8):List Int×Nat×Nat:=
 let g:=fK s
 if g.2.2≠0 then ([],0,g.2.2) else
 if 320<g.1 then ([],0,2) else
 let r:=iT (s.drop g.2.1) g.1 0 255
 if r.2.2=0 then (r.1,r.2.1+g.2.1,0) else ([],0,r.2.2)
def lM (l:List Int):List Value:=l.map fun x=>gh .i64 x
theorem UD (l:List UInt8) (n k:Nat) (last:UInt8) (h:n≤k):iT l n k last=([],0,0):=by
 unfold iT;rw[Jg h]
theorem awM (n k:Nat) (last:UInt8) (h: ¬ n≤k):iT [] n k last=([],0,3):=by
 unfold iT;rw[Jf h]
theorem awN (l:List UInt8) (n k:Nat) (b last:UInt8) (h: ¬ n≤k) (hb:n<k+(b.toNat%16+1)∨(0<k∧b.toNat/16=last.toNat/16∧last.toNat%16≠15)):iT (b::l) n k last=([],0,4):=by
 conv=>lhs;unfold iT
 rw[Jf h];dsimp only;rw[Jg hb]
theorem UE (l:List UInt8) (n k:Nat) (b last:UInt8) (h: ¬ n≤k) (hb: ¬ (n<k+(b.toNat%16+1)∨(0<k∧b.toNat/16=last.toNat/16∧last.toNat%16≠15))):iT (b::l) n k last=if (iT l n (k+(b.toNat%16+1)) b).2.2=0 then (du (b.toNat%16+1) ((b.toNat/16:Nat):Int)++(iT l n (k+(b.toNat%16+1)) b).1,(iT l n (k+(b.toNat%16+1)) b).2.1+1,0) else iT l n (k+(b.toNat%16+1)) b:=by
 conv=>lhs;unfold iT
 rw[Jf h];dsimp only;rw[Jf hb]
def gE (L:List UInt8) (m at0 k:Nat) (last:UInt8) (done:List Int):Prop:=
 qC L=(if (iT (L.drop at0) m k last).2.2=0 then (done++(iT (L.drop at0) m k last).1,(iT (L.drop at0) m k last).2.1+at0,0) else ([],0,(iT (L.drop at0) m k last).2.2))
theorem gE.stop {L:List UInt8} {m at0 k:Nat} {last:UInt8} {done:List Int} (h:gE L m at0 k last done) (hk:m≤k):qC L=(done,at0,0):=by
 unfold gE at h;rw[UD _ _ _ _ hk] at h;simpa using h
theorem gE.nil {L:List UInt8} {m at0 k:Nat} {last:UInt8} {done:List Int} (h:gE L m at0 k last done) (hk: ¬ m≤k) (hl:L.length≤at0):qC L=([],0,3):=by
 unfold gE at h;rw[fv hl,awM _ _ _ hk] at h;simpa using h
theorem gE.bad {L:List UInt8} {m at0 k:Nat} {b last:UInt8} {done:List Int} (h:gE L m at0 k last done) (hk: ¬ m≤k) (hl:L[at0]? =some b) (hb:m<k+(b.toNat%16+1)∨(0<k∧b.toNat/16=last.toNat/16∧last.toNat%16≠15)):qC L=([],0,4):=by
 unfold gE at h;rw[bh (aj.1 hl).1,(aj.1 hl).2,awN _ _ _ _ _ hk hb] at h;simpa using h
theorem gE.more {L:List UInt8} {m at0 k:Nat} {b last:UInt8} {done:List Int} (h:gE L m at0 k last done) (hk: ¬ m≤k) (hl:L[at0]? =some b) (hb: ¬ (m<k+(b.toNat%16+1)∨(0<k∧b.toNat/16=last.toNat/16∧last.toNat%16≠15))):gE L m (at0+1) (k+(b.toNat%16+1)) b (done++du (b.toNat%16+1) ((b.toNat/16:Nat):Int)):=by
 unfold gE at h ⊢;rw[bh (aj.1 hl).1,(aj.1 hl).2,UE _ _ _ _ _ hk hb] at h;rw[h];by_cases h0:(iT (L.drop (at0+1)) m (k+(b.toNat%16+1)) b).2.2=0
 ·rw[Jg h0,Jg rfl,Jg h0,fu,b9,aao 1 at0]
 ·rw[Jf h0,Jf h0,Jf h0]
theorem arY {w:World} {B e n:Nat} {v:Value} {xs:List Value} (h:w.ownsRow B e 1 v n xs): ∃ q cap,v= .slice q n cap:=by
 rcases h.2 with⟨rfl,h0⟩|⟨g,cap,cur,rfl,_⟩
 ·subst h0;exact⟨_,_,rfl⟩
 ·exact⟨_,_,rfl⟩
theorem awO: ∀ n:Fin 256,bits BinOp.and kz ((n.val:Nat):Int) 15=((n.val%16:Nat):Int):=Z9
theorem aPL (b:UInt8):bits BinOp.and kz (b.toNat:Int) 15=((b.toNat%16:Nat):Int):=awO ⟨b.toNat,b.toNat_lt⟩
theorem tI:kS lk 23 3 1 8 (.int .i64 0):=BH Tryz.underlying23 Jd rfl Z9
def ajF (s:ByteArray) (W:World) (e:Ending) (w':World):Prop:=
 ∃ ov,e= .returned (.tuple #[ov, .int .i64 ((qC s.data.toList).2.1:Int), .int .i64 ((qC s.data.toList).2.2:Int)])∧w'.ownsRow W.heap.size 3 1 ov (qC s.data.toList).1.length (lM (qC s.data.toList).1)∧Below W.heap.size W w'
theorem xZ {s:ByteArray} {W w':World} {e:Nat} (h:qC s.data.toList=([],0,e)) (hb:Below W.heap.size W w'):ajF s W (.returned (.tuple #[.slice none 0 0, .int .i64 0, .int .i64 (e:Int)])) w':=
 ⟨_,by rw[h];rfl,by rw[h];exact aan _ _ _ _,hb⟩
theorem rI (s:ByteArray) (hs:s.size≤1000000000000000) (W:World):
  Calls lk 312 #[.string s] W (ajF s W):=by
 rcases rG s.data.toList with⟨k,m,h1,h2,h3,h4,h5⟩|h|h
 ·have H:=Lib.hid h1;clear h5;by_cases hbig:(320:Int)<(m:Int)
  ·have hE:qC s.data.toList=([],0,2):=by unfold qC;rw[h1];simp;omega
   have HE:=Lib.hid hE;clear h1 hE
   go_enter Tryz.func312,Tryz.ntmps312
   go_wp2_with (fail)
   refine (amB s Zl m k 0 H.out _).mono ?_;rintro e w' ⟨rfl,rfl⟩
   go_wp2_with (fail)
   go_ret3
   exact xZ HE.out (Below.refl _ _)
  ·clear h1
   go_enter Tryz.func312,Tryz.ntmps312
   go_wp2_with (fail)
   refine (amB s Zl m k 0 H.out _).mono ?_;rintro e w' ⟨rfl,rfl⟩;have hm3:m≤320:=Z8
   have hkk:k≤s.size:=by rw[Lib.size_eq];exact h3
   have hst0:Hid (gE s.data.toList m k 0 255 []):=by
    show gE s.data.toList m k 0 255 [];unfold gE qC;rw[H.out];simp only[ne_eq,not_true_eq_false,if_false,dz];rw[Jf Z8]
   clear hbig h3 h2
   go_wp2_with (fail)
   go_loopw [6,8,9] (fun av o lv wr=> ∃ (at0:Nat) (last:UInt8) (done:List Int),at0≤s.size∧done.length≤m∧av= .int .i64 at0∧lv= .int .u8 (last.toNat:Int)∧wr.ownsRow W.heap.size 3 1 o done.length (lM done)∧Hid (gE s.data.toList m at0 done.length last done)∧Below W.heap.size W wr) (fun av _ _ _=>s.size-(intOf av).toNat)
   case atStart=>exact⟨k,255,[],hkk,fe _,rfl,rfl,aan _ _ _ _,hst0,Below.refl _ _⟩
   case round=>
    obtain⟨at0,last,done,hat,hdl,rfl,rfl,hown,hst,hb⟩:=hrel;obtain⟨q,cap,rfl⟩:=arY hown;have hsI:(s.size:Int)≤1000000000000000:=Z8
    by_cases hfin:(done.length:Int)<(m:Int)
    ·by_cases hend:(at0:Int)=(s.size:Int)
     ·have HE:=Lib.hid (hst.out.nil Z8 (by rw[←Lib.size_eq];omega));have hee:((at0:Int)==(s.size:Int))=true:=by simpa using hend
      clear hend
      go_wp2_with (fail)
      go_ret3
      exact xZ HE.out hb
     ·have hee:((at0:Int)==(s.size:Int))=false:=by simpa using hend
      have hlt:at0<s.size:=Z8
      have hltI:(at0:Int)<(s.size:Int):=Z8
      obtain⟨b,hbi⟩: ∃ b,s[at0]=b:=⟨_,rfl⟩;have hbl:s.data.toList[at0]? =some b:=by
       rw[Lib.size_eq] at hlt;rw[ak hlt, ←hbi];rfl
      have HB:=Lib.hid hbl;obtain⟨mq,hmq⟩: ∃ mq,mq=b.toNat%16:=⟨_,rfl⟩;obtain⟨lq,hlq⟩: ∃ lq,lq=last.toNat%16:=⟨_,rfl⟩;have ha1:=aPL b;have ha2:=aPL last;rw[←hmq] at ha1;rw[←hlq] at ha2;have hm15:mq≤15:=Z8
      have hl15:lq≤15:=Z8
      have hd3:done.length≤320:=Z8
      have HMQ:=Lib.hid hmq;have HLQ:=Lib.hid hlq;clear hend hbl hmq hlq;by_cases hov:(m:Int)<(done.length:Int)+((mq:Int)+1)
      ·have HE:=Lib.hid (hst.out.bad Z8 HB.out (.inl (by rw[←HMQ.out];omega)))
       go_wp2_with (fail)
       go_ret3
       exact xZ HE.out hb
      ·by_cases hrep:0<done.length∧b.toNat/16=last.toNat/16∧lq≠15
       ·obtain⟨r1,r2,r3⟩:=hrep;have HE:=Lib.hid (hst.out.bad Z8 HB.out (.inr ⟨r1,r2,by rw[←HLQ.out];exact r3⟩));have r1I:(0:Int)<(done.length:Int):=Z8
        have r2I:(b.toNat:Int)/16=(last.toNat:Int)/16:=Z8
        have r3I:((lq:Int) !=15)=true:=by simp;omega
        go_wp2_with (fail)
        go_ret3
        exact xZ HE.out hb
       ·have hmore0:=hst.out.more Z8 HB.out (by rw[←HMQ.out, ←HLQ.out];omega);rw[←HMQ.out] at hmore0;obtain⟨vq,hvq⟩: ∃ vq,vq=b.toNat/16:=⟨_,rfl⟩;have hvI:(b.toNat:Int)/16=(vq:Int):=Z8
        have hv15:vq≤15:=by have:=b.toNat_lt;omega
        have hmore:gE s.data.toList m (at0+1) (done.length+(mq+1)) b (done++du (mq+1) (vq:Int)):=by rw[hvq];exact hmore0
        clear hmore0;by_cases r1:(0:Int)<(done.length:Int)
        ·by_cases r2:(b.toNat:Int)/16=(last.toNat:Int)/16
         ·have r3:lq=15:=Z8
          subst r3;have r2b:((vq:Int)==(last.toNat:Int)/16)=true:=by simp;omega
          clear hvq hrep r2
          go_wp2_with (fail)
          go_loopw [8,66] (fun o y wx=> ∃ j:Nat,j≤mq+1∧y= .int .i64 j∧wx.ownsRow W.heap.size 3 1 o (done.length+j) (lM (done++du j (vq:Int)))∧Below W.heap.size W wx) (fun _ y _=>mq+1-(intOf y).toNat)
          case atStart=>exact⟨0,fe _,rfl,by simpa using hown,hb⟩
          case round=>
           obtain⟨j,hj,rfl,hown2,hb2⟩:=hrel;have hsz2:=hb2.size;by_cases hjl:(j:Int)<(mq:Int)+1
           ·go_wp2_with (at_builtin;refine alO tI rfl (.tmp 68) (.tmp 72) rfl _ _ (done.length+j) (lM (done++du j (vq:Int))) rfl rfl hown2 rfl ?c3 ?c4 hb2 hsz2 ?_)
            case c3=>omega
            case c4=>unfold maxLen;omega
            intro v' w1 hown1 _ hbel1 _;rw[show lM (done++du j (vq:Int))++[gh .i64 (vq:Int)]=lM (done++du (j+1) (vq:Int)) from by rw[aeg];simp [lM]] at hown1;clear hown2
            go_wp2_with (fail)
            exact⟨⟨j+1,Z8,rfl,hown1,hbel1⟩,by show mq+1-(((j:Int)+1).toNat)<mq+1-((j:Int).toNat);omega⟩
           ·have hje:j=mq+1:=Z8
            subst hje;have hlen2:(done++du (mq+1) (vq:Int)).length=done.length+(mq+1):=Ja
            have HST:=Lib.hid hmore;rw[←hlen2] at hown2 HST;have hdl2:(done++du (mq+1) (vq:Int)).length≤m:=by rw[hlen2];omega
            generalize done++du (mq+1) (vq:Int)=done2 at hown2 HST hdl2;clear hmore hlen2 hown
            go_wp2_with (fail)
            exact⟨⟨at0+1,b,done2,Z8,hdl2,rfl,rfl,hown2,HST,hb2⟩,by show s.size-(((at0:Int)+1).toNat)<s.size-((at0:Int).toNat);omega⟩
         ·clear hvq hrep
          go_wp2_with (fail)
          go_loopw [8,66] (fun o y wx=> ∃ j:Nat,j≤mq+1∧y= .int .i64 j∧wx.ownsRow W.heap.size 3 1 o (done.length+j) (lM (done++du j (vq:Int)))∧Below W.heap.size W wx) (fun _ y _=>mq+1-(intOf y).toNat)
          case atStart=>exact⟨0,fe _,rfl,by simpa using hown,hb⟩
          case round=>
           obtain⟨j,hj,rfl,hown2,hb2⟩:=hrel;have hsz2:=hb2.size;by_cases hjl:(j:Int)<(mq:Int)+1
           ·go_wp2_with (at_builtin;refine alO tI rfl (.tmp 68) (.tmp 72) rfl _ _ (done.length+j) (lM (done++du j (vq:Int))) rfl rfl hown2 rfl ?c3 ?c4 hb2 hsz2 ?_)
            case c3=>omega
            case c4=>unfold maxLen;omega
            intro v' w1 hown1 _ hbel1 _;rw[show lM (done++du j (vq:Int))++[gh .i64 (vq:Int)]=lM (done++du (j+1) (vq:Int)) from by rw[aeg];simp [lM]] at hown1;clear hown2
            go_wp2_with (fail)
            exact⟨⟨j+1,Z8,rfl,hown1,hbel1⟩,by show mq+1-(((j:Int)+1).toNat)<mq+1-((j:Int).toNat);omega⟩
           ·have hje:j=mq+1:=Z8
            subst hje;have hlen2:(done++du (mq+1) (vq:Int)).length=done.length+(mq+1):=Ja
            have HST:=Lib.hid hmore;rw[←hlen2] at hown2 HST;have hdl2:(done++du (mq+1) (vq:Int)).length≤m:=by rw[hlen2];omega
            generalize done++du (mq+1) (vq:Int)=done2 at hown2 HST hdl2;clear hmore hlen2 hown
            go_wp2_with (fail)
            exact⟨⟨at0+1,b,done2,Z8,hdl2,rfl,rfl,hown2,HST,hb2⟩,by show s.size-(((at0:Int)+1).toNat)<s.size-((at0:Int).toNat);omega⟩
        ·clear hvq hrep
         go_wp2_with (fail)
         go_loopw [8,66] (fun o y wx=> ∃ j:Nat,j≤mq+1∧y= .int .i64 j∧wx.ownsRow W.heap.size 3 1 o (done.length+j) (lM (done++du j (vq:Int)))∧Below W.heap.size W wx) (fun _ y _=>mq+1-(intOf y).toNat)
         case atStart=>exact⟨0,fe _,rfl,by simpa using hown,hb⟩
         case round=>
          obtain⟨j,hj,rfl,hown2,hb2⟩:=hrel;have hsz2:=hb2.size;by_cases hjl:(j:Int)<(mq:Int)+1
          ·go_wp2_with (at_builtin;refine alO tI rfl (.tmp 68) (.tmp 72) rfl _ _ (done.length+j) (lM (done++du j (vq:Int))) rfl rfl hown2 rfl ?c3 ?c4 hb2 hsz2 ?_)
           case c3=>omega
           case c4=>unfold maxLen;omega
           intro v' w1 hown1 _ hbel1 _;rw[show lM (done++du j (vq:Int))++[gh .i64 (vq:Int)]=lM (done++du (j+1) (vq:Int)) from by rw[aeg];simp [lM]] at hown1;clear hown2
           go_wp2_with (fail)
           exact⟨⟨j+1,Z8,rfl,hown1,hbel1⟩,by show mq+1-(((j:Int)+1).toNat)<mq+1-((j:Int).toNat);omega⟩
          ·have hje:j=mq+1:=Z8
           subst hje;have hlen2:(done++du (mq+1) (vq:Int)).length=done.length+(mq+1):=Ja
           have HST:=Lib.hid hmore;rw[←hlen2] at hown2 HST;have hdl2:(done++du (mq+1) (vq:Int)).length≤m:=by rw[hlen2];omega
           generalize done++du (mq+1) (vq:Int)=done2 at hown2 HST hdl2;clear hmore hlen2 hown
           go_wp2_with (fail)
           exact⟨⟨at0+1,b,done2,Z8,hdl2,rfl,rfl,hown2,HST,hb2⟩,by show s.size-(((at0:Int)+1).toNat)<s.size-((at0:Int).toNat);omega⟩
    ·have HE:=Lib.hid (hst.out.stop Z8)
     go_wp2_with (fail)
     go_ret3
     exact⟨_,by rw[HE.out];rfl,by rw[HE.out];exact hown,hb⟩
 all_goals
  have hE:qC s.data.toList=([],0,(fK s.data.toList).2.2):=by unfold qC;rw[h];simp
  rw[h] at hE;have HE:=Lib.hid hE;have H:=Lib.hid h;clear h hE
  go_enter Tryz.func312,Tryz.ntmps312
  go_wp2_with (fail)
  refine (amB s Zl 0 0 _ H.out _).mono ?_;rintro e w' ⟨rfl,rfl⟩
  go_wp2_with (fail)
  go_ret3
  exact xZ HE.out (Below.refl _ _)
end runs
namespace runs
open put get
theorem abC: ∀ (c:Nat) (x:Int) (l:List Int),l.take (lead c x l)=du (lead c x l) x
 |0,_,l=>by simp [lead]
 |_+1,_,[]=>by simp [lead]
 |c+1,x,y::l=>by
  rw[lead];split
  ·rename_i h;subst h;rw[List.take_succ_cons,abC c y l,aek]
  ·simp
theorem abD: ∀ (c:Nat) (x:Int) (l:List Int),lead c x l<c→ ∀ r,l.drop (lead c x l)≠x::r
 |0,_,_,h=>Z8
 |_+1,_,[],_=>Ja
 |c+1,x,y::l,h=>by
  rw[lead] at h ⊢;split at h
  ·rename_i hy;rw[Jg hy,List.drop_succ_cons];exact abD c x l Z8
  ·rename_i hy;rw[Jf hy,List.drop_zero];intro r e;exact hy (List.cons.inj e).1
theorem anU (x:Int) (L:Nat) (hx:0≤x∧x≤15) (hL:L≤15):(ky (x.toNat*16+L)).toNat%16=L∧(((ky (x.toNat*16+L)).toNat/16:Nat):Int)=x:=by
 have e:(ky (x.toNat*16+L)).toNat=x.toNat*16+L:=by simp;omega
 rw[e];omega
theorem ajK: ∀ (f:Nat) (l:List Int) (more:List UInt8) (n k:Nat) (last:UInt8),l.length≤f→n=k+l.length→(∀ x∈l,0≤x∧x≤15)→(k=0∨last.toNat%16=15∨ ∀ r,l≠((last.toNat/16:Nat):Int)::r)→iT (wF f l++more) n k last=(l,(wF f l).length,0)
 |f,[],more,n,k,last,_,hn,_,_=>by
  rw[UD _ _ _ _ (by simp at hn;omega)];cases f<;>rfl
 |0,x::l,more,n,k,last,h,_,_,_=>by simp at h
 |f+1,x::l,more,n,k,last,h,hn,hx,hc=>by
  have h2 := ajE 15 x l;have zy := hx x (bu);obtain ⟨e1, e2⟩ := anU x (lead 15 x l) zy h2.2;rw [wF, dw];simp only [dv] at h hn;have ih := ajK f (l.drop (lead 15 x l)) more n (k + (lead 15 x l + 1)) (ky (x.toNat * 16 + lead 15 x l)) Zq Zq (fun y hy => hx y (a8 _ (ln hy))) (by
   by_cases hl:lead 15 x l<15
   ·right;right;rw[e2];exact abD 15 x l hl
   ·right; left;rw [e1]; omega)
  rw [UE _ _ _ _ _ Z8 (by
   rw[e1];rintro (hb|⟨hb1,zx,zw⟩)
   ·omega
   ·rcases hc with hc|hc|hc
    ·omega
    ·exact zw hc
    ·exact hc l (by rw [← zx, e2]))]
  rw[e1,ih,Jg rfl,e2];simp only[Prod.mk.injEq,dv,and_true];have e3:du (lead 15 x l) x++l.drop (lead 15 x l)=l:=by rw[←abC 15 x l];exact gl _ _
  rw[aek,dw,e3]
theorem lJ (l:List Int) (h:gC l=0) (more:List UInt8):qC (bE l++more)=(l,(bE l).length,0):=by
 have hl:l.length≤320:=by
  unfold gC at h;split at h
  ·cases h
  ·omega
 have zy:jB l=false:=by
  unfold gC at h;rw[Jf Z8] at h;cases hb:jB l with
  |false=>rfl
  |true=>rw[hb] at h;simp at h
 have h1:=ajK l.length l more l.length 0 255 (df _) Z8 (fun x hx=>uJ zy hx) (.inl rfl);unfold qC bE;rw[fu,FE l.length _ Z8];simp only[ne_eq,not_true_eq_false,if_false];rw[Jf Z8,List.drop_left,h1];simp;omega
end runs
namespace dir
open sl uU
abbrev bH:=List UInt8×Int
def fE (p:bH):List Value:=[.string (str p.1), .int .i64 p.2]
theorem BO (p:bH): ∀ u∈fE p,u.oneCell'=true:=by simp [fE,a6]
def nU (p:bH):Int:=if ¬ gU p.1 then 11 else if p.2<0∨48≤p.2 then 1 else 0
theorem cQ {p:bH} (h:nU p=0):gU p.1∧0≤p.2∧p.2<48:=by
 unfold nU at h;split at h
 ·cases h
 ·split at h
  ·cases h
  ·exact⟨by simpa using ‹¬ ¬ gU p.1›,Z8,Z8⟩
theorem HU {p:bH} (h:gU p.1∧0≤p.2∧p.2<48):nU p=0:=by
 unfold nU;rw[Jf (by simpa using h.1),Jf Z8]
def okP:Option (List UInt8)→List UInt8→Bool
 |none,_=>true
 |some p,x=>blt p x
def chk (prev:Option (List UInt8)):List bH→Int
 |[]=>0
 |x::l=>if nU x≠0 then nU x else if okP prev x.1=false then 4 else chk (some x.1) l
def rY (l:List bH) (k:Nat):Option (List UInt8):=if k=0 then none else (l[k-1]?).map (·.1)
def bZ (l:List bH):Int:=if 24<l.length then 2 else chk none l
theorem pL {l:List bH}: ∀ {prev},chk prev l=0→(∀ x∈l,nU x=0)∧(∀ p,prev=some p→ ∀ x∈l,blt p x.1=true)∧l.Pairwise fun a b=>blt a.1 b.1=true:=by
 induction l with
 |nil=>exact fun _=>⟨Ja,Ja,List.Pairwise.nil⟩
 |cons x l ih=>
  intro prev h;unfold chk at h;split at h
  ·exact absurd h ‹_›
  ·rename_i h1;have h1:nU x=0:=by simpa using h1
   split at h
   ·cases h
   ·rename_i h2;obtain⟨a1,a2,a3⟩:=ih h;have a4:=a2 x.1 rfl;refine⟨fun y hy=> ?_,fun p hp y hy=> ?_,an.2 ⟨a4,a3⟩⟩
    ·rcases al.1 hy with rfl|hy
     ·exact h1
     ·exact a1 y hy
    ·subst hp;have h3:blt p x.1=true:=by simpa [okP] using h2
     rcases al.1 hy with rfl|hy
     ·exact h3
     ·exact zU h3 (a4 y hy)
theorem aRR {l:List bH}: ∀ {prev},(∀ x∈l,nU x=0)→(∀ p,prev=some p→ ∀ x∈l,blt p x.1=true)→(l.Pairwise fun a b=>blt a.1 b.1=true)→chk prev l=0:=by
 induction l with
 |nil=>exact fun _ _ _=>rfl
 |cons x l ih=>
  intro prev h1 h2 h3;have h4:=an.1 h3;unfold chk;rw[Jf (by simpa using h1 x bu),Jf]
  ·exact ih (fun y hy=>h1 y (a8 _ hy)) (fun p hp y hy=>by cases hp;exact h4.1 y hy) h4.2
  ·cases prev with
   |none=>simp [okP]
   |some p=>simp [okP,h2 p rfl x bu]
def kY (l:List bH):Prop:=l.length≤24∧(∀ x∈l,nU x=0)∧l.Pairwise fun a b=>blt a.1 b.1=true
theorem eI (l:List bH):bZ l=0↔kY l:=by
 unfold bZ kY;constructor
 ·intro h;split at h
  ·cases h
  ·obtain⟨a1,_,a3⟩:=pL h;exact⟨Z8,a1,a3⟩
 ·rintro⟨h1,h2,h3⟩;rw[Jf Z8];exact aRR h2 Ja h3
theorem aGE {l:List bH} {k:Nat} {x:bH} (h:l[k]? =some x):chk (rY l k) (l.drop k)=if nU x≠0 then nU x else if okP (rY l k) x.1=false then 4 else chk (rY l (k+1)) (l.drop (k+1)):=by
 obtain⟨hlt,he⟩:=aj.1 h;have e:l.drop k=x::l.drop (k+1):=by rw[bh hlt,he]
 rw[e];have e2:rY l (k+1)=some x.1:=by unfold rY;rw[Jf Z8,nb,h];rfl
 rw[e2];rfl
attribute [local irreducible] box own sl bL aH bJ Qt cN cM dG dL eQ
theorem zB (p:bH) (hs:p.1.length≤9223372036854775807):Ct lk 211 [.agg #[.string (str p.1), .int .i64 p.2]] [] fun v H'=>v= .int .i64 (nU p)∧H'=[]:=by
 have G0:=GZ p.1 hs;by_cases h1:gU p.1
 ·have e:nT p.1=0:=by unfold nT;rw[Jg h1]
  rw[e] at G0;by_cases h2:p.2<0
  ·have e2:nU p=1:=by unfold nU;rw[Jf ZC,Jg (.inl h2)]
   rw[e2];(refine Ye Tryz.func211 Tryz.ntmps211 ?_;intro Fr);(refine yZ ?_;intro b);exact Ea (x:=⟨rfl,rfl⟩)
  ·by_cases h3:48≤p.2
   ·have e2:nU p=1:=by unfold nU;rw[Jf ZC,Jg (.inr h3)]
    rw[e2];(refine Ye Tryz.func211 Tryz.ntmps211 ?_;intro Fr);(refine yZ ?_;intro b);exact Ea (x:=⟨rfl,rfl⟩)
   ·have e2:nU p=0:=HU ⟨h1,Z8,Z8⟩;rw[e2];(refine Ye Tryz.func211 Tryz.ntmps211 ?_;intro Fr);(refine yZ ?_;intro b);exact Ea (x:=⟨rfl,rfl⟩)
 ·have e:nT p.1=11:=by unfold nT;rw[Jf h1]
  rw[e] at G0;have e2:nU p=11:=by unfold nU;rw[Jg h1]
  rw[e2];(refine Ye Tryz.func211 Tryz.ntmps211 ?_;intro Fr);(refine yZ ?_;intro b);exact Ea (x:=⟨rfl,rfl⟩)
theorem bP (q:Option Addr) (c:Nat) (l:List bH) (hn:l.length≤1000000000000000000) (hs: ∀ p∈l,p.1.length≤9223372036854775807):
  Ct lk 204 [.slice q l.length c] [sl 2 (.slice q l.length c) (l.map fE)] fun v H'=>v= .int .i64 (bZ l)∧H'=[]:=by
 by_cases h0:24<l.length
 ·have e:bZ l=2:=by unfold bZ;rw[Jg h0]
  rw[e];(refine Ye Tryz.func204 Tryz.ntmps204 ?_;intro Fr);refine bM ?_;exact Ea (x:=⟨rfl,rfl⟩)
 ·have e:bZ l=chk (rY l 0) (l.drop 0):=by unfold bZ;rw[Jf h0];rfl
  rw[e];obtain⟨r,hr⟩: ∃ r,chk (rY l 0) (l.drop 0)=r:=⟨_,rfl⟩;rw[hr];(refine Ye Tryz.func204 Tryz.ntmps204 ?_;intro Fr);refine bM ?_;(refine cU (σ:=Nat) (fun k=>k≤l.length∧chk (rY l k) (l.drop k)=r) (fun k=>[(11, .int .i64 (k:Int))]) (fun k=>l.length-k) (0) (by exact⟨fe _,hr⟩) Ze (fun k ⟨hk,hd⟩=> ?_);refine Da ?_);rcases ig k l.length with hlt|zw
  ·obtain⟨p,zy⟩: ∃ p,l[k]? =some p:=⟨_,ak hlt⟩;have F0:=zB p (hs p (jg zy));rw[aGE zy] at hd;by_cases h1:nU p=0
   ·rw[Jf ZC] at hd;rw[h1] at F0;rcases jo k with h2|h2
    ·subst h2;rw[Jf (by unfold rY;rw[Jg rfl];simp [okP])] at hd;(repeat' (first|refine Y1 ?_|(refine Wb ?_;intro b)|refine Wc (F0 ..) ?_|fail));refine Ee (0+1) ?_ ?_
     ·exact⟨Z8,hd⟩
     ·show l.length-(0+1)<l.length-0;omega
    ·obtain⟨o,zv⟩: ∃ o,l[k-1]? =some o:=⟨_,ak Z8⟩;have e3:rY l k=some o.1:=by unfold rY;rw[Jf Z8,zv];rfl
     rw[e3] at hd;have zx:(k:Int)-1=((k-1:Nat):Int):=Z8
     cases hb:blt o.1 p.1 with
     |true=>
      rw[show okP (some o.1) p.1=true from hb,Jf Ja] at hd;(repeat' (first|refine Y1 ?_|(refine Wb ?_;intro b)|refine Wc (F0 ..) ?_|refine Wz ?_|fail));(refine aB 6 ?_;refine bN _ rfl rfl wt Je kA rfl (lF (i:=k-1) rfl rfl rfl aU zx ZA) ?_);refine jV ?_;(refine aB 11 ?_;refine bN _ rfl rfl wt Je kA rfl (aGC rfl rfl rfl (r:=false) (by rw[hb];rfl)) ?_);refine sO ?_;refine Ee (k+1) ?_ ?_
      ·exact⟨Z8,hd⟩
      ·show l.length-(k+1)<l.length-k;omega
     |false=>
      rw[show okP (some o.1) p.1=false from hb,Jg rfl] at hd;subst hd;(repeat' (first|refine Y1 ?_|(refine Wb ?_;intro b)|refine Wc (F0 ..) ?_|refine Wz ?_|fail));(refine aB 6 ?_;refine bN _ rfl rfl wt Je kA rfl (lF (i:=k-1) rfl rfl rfl aU zx ZA) ?_);refine jV ?_;(refine aB 11 ?_;refine bN _ rfl rfl wt Je kA rfl (aGC rfl rfl rfl (r:=true) (by rw[hb];rfl)) ?_);refine Yw6 ?_;exact Ea (x:=⟨rfl,rfl⟩)
   ·rw[Jg ZC] at hd;subst hd;generalize nU p=e at*;(repeat' (first|refine Y3 ?_|(refine Wb ?_;intro b)|refine Wc (F0 ..) ?_|fail));exact Ea (x:=⟨rfl,rfl⟩)
  ·rw[adh zw] at hd;have:r=0:=hd.symm;subst this;refine bM ?_;exact Ea (x:=⟨rfl,rfl⟩)
end dir
namespace dir
open sl uU
theorem aGI (z:Value) (k:Nat):(pE z k).length=k*z.cells.size:=by simp [pE]
theorem aoL (p:bH):(fE p).length=2:=rfl
theorem eV (l:List bH):(flat fE l).length=l.length*2:=lZ fE 2 aoL l
theorem IC (l:List bH) (i:Nat):(flat fE l).take (i*2)=flat fE (l.take i):=by
 rcases ig i l.length with h|h
 ·have e:flat fE l=flat fE (l.take i)++flat fE (l.drop i):=by rw[←qU,gl]
  rw[e];exact aeh ZN
 ·rw[bd (by rw[eV];omega),bd h]
theorem adZ (l:List bH) (i:Nat):(flat fE l).drop (i*2)=flat fE (l.drop i):=by
 rcases ig i l.length with h|h
 ·have e:flat fE l=flat fE (l.take i)++flat fE (l.drop i):=by rw[←qU,gl]
  rw[e];exact aem ZN
 ·rw[adh (by rw[eV];omega),adh h];rfl
theorem yE (l:List bH): ∀ v∈flat fE l,v.oneCell'=true:=by
 intro u hu;unfold flat at hu;obtain⟨a,ha,zy⟩:=List.mem_flatten.1 hu;obtain⟨y,_,rfl⟩:=List.mem_map.1 ha;exact BO y u zy
theorem zV {raw:List Value} {xs:List bH} (h:raw.take (xs.length*2)=flat fE xs) {i k:Nat} (hk:i+k≤xs.length):(raw.drop (i*2)).take (k*2)=flat fE ((xs.drop i).take k):=by
 rw[←IC, ←adZ, ←h,List.drop_take,aco];congr 1;omega
theorem KY {raw:List Value} {xs:List bH} (h:raw.take (xs.length*2)=flat fE xs) {i:Nat} (hi:i≤xs.length):raw.take (i*2)=flat fE (xs.take i):=by
 rw[←IC, ←h,aco];congr 1;omega
theorem axV {A B C:List Value} {n:Nat} (h:n=A.length+B.length):(A++B++C).take n=A++B:=by
 subst h;rw[←ae];exact aeh rfl
theorem PM {raw:List Value} {ys zs:List bH} {a:Nat} (h:raw.take (ys.length*2)=flat fE ys) (ha:a≤ys.length) (hl:(a+zs.length)*2≤raw.length):(raw.take (a*2)++flat fE zs++raw.drop (a*2+zs.length*2)).take ((a+zs.length)*2)=flat fE (ys.take a++zs):=by
 rw[KY h ha,axV,qU];rw[eV,eV,ar,j9 ha,ff]
theorem aRS {raw:List Value} {ys zs:List bH} {a:Nat} (h:raw.take (ys.length*2)=flat fE ys) (ha:a+zs.length≤ys.length):(raw.take (a*2)++flat fE zs++raw.drop (a*2+zs.length*2)).take (ys.length*2)=flat fE (ys.take a++zs++ys.drop (a+zs.length)):=by
 rw[KY h Z8,List.take_append, ←ff,qU,qU];congr 1
 ·refine bd ?_;rw[ae,eV,eV,ar, ←ff];exact cr _ Z8
 ·have e:(ys.length*2-(flat fE (ys.take a)++flat fE zs).length)=(ys.length-(a+zs.length))*2:=by
   rw[ae,eV,eV,ar];omega
  rw[e,zV h Z8];congr 1;exact bd Zo
theorem aGJ (args:Array Value) (w:World):(callFunc 256 args).run lk w=((Extern.SlicesOverlaps.overlaps #[200,200] #[4] args).run lk w).andThen fun v w'=> .ok (.value v) w':=
 run_callFunc_extern Tryz.func256 Jd Jd Jd Jd args w
theorem axW {f:FuncId} {args:List Value} {Rs:Value→List Ent→Prop} {q:Option Addr} {e sz m c:Nat} {xs:List Value} {E:Ent} {H:List Ent} {P:Program} (k:m≤c→c≤maxLen→(q=none∧c=0∨ ∃ g,q=some ⟨g,0,none⟩)→Ct P f args (E::own (.slice q m c) e sz m xs::H) Rs):Ct P f args (E::own (.slice q m c) e sz m xs::H) Rs:=
 vK (H:=own (.slice q m c) e sz m xs::E::H) (fun Fr=>cA (kj _ _ _)) (vP fun h1 h2 h3=>vK (H:=E::own (.slice q m c) e sz m xs::H) (fun Fr=>cA (kj _ _ _)) (k h1 h2 h3))
attribute [local irreducible] box own sl bL aH bJ Qt cN cM dG dL eQ
theorem PG (q qv:Option Addr) (c i:Nat) (xs:List bH) (x:bH) (hn:xs.length≤24) (hi:i≤xs.length):
  Ct lk 212 [.slice q xs.length c, .int .i64 (i:Int), .slice qv 1 1] [own (.slice q xs.length c) 204 2 xs.length (flat fE xs),own (.slice qv 1 1) 204 2 1 (flat fE [x])] fun v H'=> ∃ q' c',v= .slice q' (xs.length+1) c'∧H'=[own (.slice q' (xs.length+1) c') 204 2 (xs.length+1) (flat fE (xs.take i++x::xs.drop i))]:=by
 refine vP fun hmc zh hq=> ?_
 refine axW fun _ _ zk=> ?_
 obtain⟨gv,rfl⟩: ∃ g,qv=some ⟨g,0,none⟩:=zk.resolve_left (by rintro⟨_,h⟩;omega);clear zk;unfold maxLen at zh;rcases ig i xs.length with hlt|hge
 ·obtain⟨g,rfl⟩: ∃ g,q=some ⟨g,0,none⟩:=hq.resolve_left (by rintro⟨_,h⟩;omega);by_cases hroom:c<xs.length+1
  ·clear hq;(refine Ye Tryz.func212 Tryz.ntmps212 ?_;intro Fr);refine bM ?_;refine eK wt Jb (iE rfl rfl rfl rfl Z8) ?_;refine bM ?_;refine JY .here fun raw zq zr _ _=> ?_
   (refine aL wt rfl (JZ (k:=xs.length+1-i) rfl rfl rfl Z8 .here Z8 Z8 rfl Z8 Z8 (by show (i+(xs.length+1-i))*24≤_;omega) (by rw[aGI];rfl)) ?_;rintro _ _ ⟨g2,c2,rfl,rfl⟩);have zu:=zV (i:=i) (k:=xs.length-i) zr Z8;rw[bd (l:=xs.drop i) ZM] at zu;rw[KY zr hi,show i+(xs.length+1-i)=xs.length+1 from by omega];refine JY .here fun raw2 zn zm hc2 _=> ?_
   have zg:raw2.take ((xs.take i).length*2)=flat fE (xs.take i):=by
    have h:=congrArg (aef (i*2)) zm;rw[aco,j9 Z8,aeh ZN] at h;rw[ar,j9 hi];exact h
   have e1:=PM (zs:=[x]) (a:=i) zg ZH (by rw[zn,gk];omega);obtain⟨raw3,zy⟩: ∃ raw3,raw2.take (i*2)++flat fE [x]++raw2.drop (i*2+[x].length*2)=raw3:=⟨_,rfl⟩;rw[zy,aco,Nat.min_self] at e1;have zf:(xs.take i++[x]).length=i+1:=by rw[ae,ar,gk];omega
   rw[gk, ←zf] at e1;have zt:raw3.length=c2*2:=by
    rw[←zy,ae,ae,ar,bq,eV,gk];omega
   have e2:=PM (zs:=xs.drop i) (a:=i+1) e1 Z8 (by rw[zt,bq];omega);rw[bq,show i+1+(xs.length-i)=xs.length+1 from by omega,bd (l:=xs.take i++[x]) Z8,show xs.take i++[x]++xs.drop i=xs.take i++x::xs.drop i from by simp] at e2;refine bM ?_;refine eK wt Jb (iE (i:=i) rfl rfl rfl rfl Z8) ?_;rw[gY Z8];refine iC ?_;(refine aL wt rfl (vR (k:=1) rfl rfl rfl .here (.there .here) ZW Z8 (by show 0+1*2≤2;omega) (yE [x])) ?_;rintro _ _ ⟨rfl,rfl⟩);rw[show (aef (1*2) (adq 0 (flat fE [x])))=flat fE [x] from rfl,show i*2+1*2=i*2+[x].length*2 from rfl,zy];refine kB ?_;(refine aD (Hq:=[]) [] [] rfl Jd Za ?_);refine jV ?_;(refine aB 4 ?_;refine bN _ rfl rfl wt Je kA rfl (iE (i:=i+1) rfl rfl rfl rfl Z8) ?_);refine jV ?_;(refine aB 7 ?_;refine bN _ rfl rfl wt Je kA rfl (iE (i:=i) rfl rfl rfl rfl Z8) ?_);rw[gY Z8,gY Z8];(refine aB 8 ?_;refine Oa (l:=by exact (vR (k:=xs.length-i) rfl rfl rfl .here .here ZW Z8 (by rw[zq];omega) (by rw[zu];exact yE _))) (k:= ?_);rintro _ _ ⟨rfl,rfl⟩;refine Te ?_;(try refine Da ?_));rw[zu];refine Yw6 ?_;refine mC (kP.refl _) (qV (m:=xs.length+1) Z8 e2) ?_;exact Ea (x:=⟨some ⟨g2,0,none⟩,c2,rfl,rfl⟩)
  ·clear hq;(refine Ye Tryz.func212 Tryz.ntmps212 ?_;intro Fr);refine bM ?_;refine eK wt Jb (iE rfl rfl rfl rfl Z8) ?_;refine bM ?_;refine eK wt Jb (iE (i:=i+1) rfl rfl rfl rfl Z8) ?_;rw[gY Z8];refine JY .here fun raw zq zr _ _=> ?_
   (refine aL wt rfl (amJ rfl rfl (u:= .bool false) fun w hw=>by rw[aGJ];erw [acY (e:=204) (sz:=2) (.there .here) .here hw Z8];rfl) ?_;rintro _ _ ⟨rfl,rfl⟩);have zx:=zV (i:=i) (k:=xs.length-i) zr Z8;rw[bd (l:=xs.drop i) ZM] at zx;have zv:=PM (zs:=xs.drop i) (a:=i+1) zr Z8 (by rw[zq,bq];omega);rw[bq] at zv;obtain⟨raw1,zw⟩: ∃ raw1,raw.take ((i+1)*2)++flat fE (xs.drop i)++raw.drop ((i+1)*2+(xs.length-i)*2)=raw1:=⟨_,rfl⟩;rw[zw,show i+1+(xs.length-i)=xs.length+1 from by omega] at zv;have zl:(xs.take (i+1)++xs.drop i).length=xs.length+1:=by rw[ae,ar,bq];omega
   rw[←zl] at zv;have zj:=aRS (zs:=[x]) (a:=i) zv (by rw[zl,gk];omega);have ze:(xs.take (i+1)++xs.drop i).take i++[x]++(xs.take (i+1)++xs.drop i).drop (i+[x].length)=xs.take i++x::xs.drop i:=by
    have e1:(xs.take (i+1)++xs.drop i).take i=xs.take i:=by rw[List.take_append_of_le_length ZH,aco];congr 1;omega
    have e2:(xs.take (i+1)++xs.drop i).drop (i+[x].length)=xs.drop i:=aem (by rw[ar,gk];omega);rw[e1,e2];simp
   rw[ze,zl] at zj;have hraw1l:raw1.length=c*2:=by
    rw[←zw,ae,ae,ar,bq,eV,bq];omega
   refine kB ?_;(refine aD (Hq:=[]) [] [] rfl Jd Za ?_);refine jV ?_;(refine aB 4 ?_;refine bN _ rfl rfl wt Je kA rfl (iE (i:=i+1) rfl rfl rfl rfl Z8) ?_);refine jV ?_;(refine aB 7 ?_;refine bN _ rfl rfl wt Je kA rfl (iE (i:=i) rfl rfl rfl rfl Z8) ?_);rw[gY Z8,gY Z8];(refine aB 8 ?_;refine Oa (l:=by exact (XE (k:=xs.length-i) rfl rfl rfl .here ZW Z8 (by rw[zq];omega) (by rw[zx];exact yE _))) (k:= ?_);rintro _ _ ⟨rfl,rfl⟩;refine Te ?_;(try refine Da ?_));rw[zx,zw];refine Yw6 ?_;refine eK wt Jb (iE (i:=i) rfl rfl rfl rfl Z8) ?_;rw[gY Z8];refine iC ?_;(refine aL wt rfl (vR (k:=1) rfl rfl rfl .here .here ZW Z8 (by show 0+1*2≤2;omega) (yE [x])) ?_;rintro _ _ ⟨rfl,rfl⟩);rw[show (aef (1*2) (adq 0 (flat fE [x])))=flat fE [x] from rfl];refine bM ?_;refine mC (kP.refl _) (qV (m:=xs.length+1) Z8 zj) ?_;exact Ea (x:=⟨some ⟨g,0,none⟩,c,rfl,rfl⟩)
 ·have:i=xs.length:=Z8
  subst this;rw[mz,abc];(refine Ye Tryz.func212 Tryz.ntmps212 ?_;intro Fr);refine bM ?_;refine eK wt Jb (iE rfl rfl rfl rfl Z8) ?_;refine bM ?_;refine aN (aJP (f:=fE) (ys:=[x]) (v:= .slice (some ⟨gv,0,none⟩) 1 1) (.there .here) aoL rfl) ?_;(refine aL wt rfl (jA (cnt:=0) (f:=fE) (ys:=[x]) rfl rfl rfl aU aU aoL BO rfl (by show (xs.length+1)*24≤_;omega) (by show xs.length+1≤maxLen;unfold maxLen;omega)) ?_;rintro _ _ ⟨q2,c2,rfl,rfl⟩);refine iC ?_;exact Ea (x:=⟨q2,c2,rfl,by rw[qU]⟩)
theorem aMS (q:Option Addr) (c i:Nat) (xs:List bH) (hn:xs.length≤24) (hi:i<xs.length):
  Ct lk 216 [.slice q xs.length c, .int .i64 (i:Int), .int .i64 ((i:Int)+1)] [own (.slice q xs.length c) 204 2 xs.length (flat fE xs)] fun v H'=> ∃ q' c',v= .slice q' (xs.length-1) c'∧H'=[own (.slice q' (xs.length-1) c') 204 2 (xs.length-1) (flat fE (xs.take i++xs.drop (i+1)))]:=by
 refine vP fun hmc zm hq=> ?_
 obtain⟨g,rfl⟩: ∃ g,q=some ⟨g,0,none⟩:=hq.resolve_left (by rintro⟨_,h⟩;omega);clear hq;unfold maxLen at zm;(refine Ye Tryz.func216 Tryz.ntmps216 ?_;intro Fr);refine bM ?_;refine eK wt Jb (aCS (i:=i) (h:=i+1) (mx:=xs.length) rfl rfl rfl rfl rfl rfl rfl rfl Z8 Z8 Z8) ?_;refine kB ?_;refine avA .here fun raw zu zt _ _=> ?_
 have zx:=zV (i:=i+1) (k:=xs.length-(i+1)) zt Z8;rw[bd (l:=xs.drop (i+1)) ZM] at zx;have zw:=PM (zs:=xs.drop (i+1)) (a:=i) zt Z8 (by rw[zu,bq];omega);rw[bq] at zw;obtain⟨raw1,zy⟩: ∃ raw1,raw.take (i*2)++flat fE (xs.drop (i+1))++raw.drop (i*2+(xs.length-(i+1))*2)=raw1:=⟨_,rfl⟩;rw[zy,show i+(xs.length-(i+1))=xs.length-1 from by omega] at zw;have hraw1l:raw1.length=c*2:=by
  rw[←zy,ae,ae,ar,bq,eV,bq];omega
 have zv:(raw1.take ((xs.length-1)*2)++pE (.agg #[.string ⟨#[]⟩, .int .i64 0]) 1++raw1.drop ((xs.length-1)*2+1*2)).take ((xs.length-1)*2)=flat fE (xs.take i++xs.drop (i+1)):=by
  rw[fu,aeh ZH,zw]
 (refine aD (Hq:=[]) [] [] rfl Jd Za ?_);refine jV ?_;(refine aB 5 ?_;refine bN _ rfl rfl wt Je kA rfl (iE (i:=i+1) rfl rfl rfl rfl Z8) ?_);rcases ig (i+1) c with zr|zr
 ·rw[gY zr];(refine aB 6 ?_;refine Oa (l:=by exact (wP rfl rfl rfl .here Z8 (by rw[zu];omega) (by rw[zx];exact yE _))) (k:= ?_);rintro _ _ ⟨rfl,rfl⟩;refine Te ?_;(try refine Da ?_));rw[zx,zy,show i+(xs.length-(i+1))=xs.length-1 from by omega];refine Yw6 ?_;refine eK wt Jb (RW (i:=xs.length-1) (h:=xs.length) rfl rfl rfl rfl Z8 rfl Z8 Z8) ?_;rw[gY Z8,show xs.length-(xs.length-1)=1 from by omega];(refine dC wt (AU rfl rfl .here Z8 Z8 Z9 rfl) ?_;rintro _ _ ⟨rfl,rfl⟩);refine bM ?_;refine mC (kP.refl _) (qV (m:=xs.length-1) Z8 zv) ?_;exact Ea (x:=⟨some ⟨g,0,none⟩,c,rfl,rfl⟩)
 ·have zq:c=i+1:=Z8
  have zn:xs.length=i+1:=Z8
  rw[show sliced (some ⟨g,0,none⟩) (i+1) xs.length c 2= .slice (some ⟨g,0,none⟩) 0 0 from by rw[←zq,amK,zn, ←zq,ku]];(refine aB 6 ?_;refine Oa (l:=by exact (wP rfl rfl rfl .here Z8 Z8 (by intro v hv;simp at hv))) (k:= ?_);rintro _ _ ⟨rfl,rfl⟩;refine Te ?_;(try refine Da ?_));rw[show raw.take (i*2)++(raw.drop 0).take (0*2)++raw.drop (i*2+0*2)=raw1 from by rw[←zy,show xs.drop (i+1)=[] from adh Z8,zn];simp [flat],show i+0=xs.length-1 from by omega];refine Yw6 ?_;refine eK wt Jb (RW (i:=xs.length-1) (h:=xs.length) rfl rfl rfl rfl Z8 rfl Z8 Z8) ?_;rw[gY Z8,show xs.length-(xs.length-1)=1 from by omega];(refine dC wt (AU rfl rfl .here Z8 Z8 Z9 rfl) ?_;rintro _ _ ⟨rfl,rfl⟩);refine bM ?_;refine mC (kP.refl _) (qV (m:=xs.length-1) Z8 zv) ?_;exact Ea (x:=⟨some ⟨g,0,none⟩,c,rfl,rfl⟩)
end dir
namespace dir
open sl uU
def gP (l:List bH) (s:List UInt8):Nat:=(l.takeWhile fun p=>blt p.1 s).length
def tO (l:List bH) (s:List UInt8):Bool:=match l[gP l s]? with|some p=>decide (p.1=s)|none=>false
theorem aeA (l:List bH) (s:List UInt8):gP l s≤l.length:=by
 unfold gP;exact (List.takeWhile_sublist _).length_le
theorem rZ: ∀ {l:List bH} {s:List UInt8},(l.Pairwise fun a b=>blt a.1 b.1=true)→ ∀ {k:Nat} {p:bH},l[k]? =some p→(blt p.1 s=true↔k<gP l s)
 |[],_,_,_,_,h=>by cases h
 |x::l,s,hp,0,p,h=>by
  cases h;unfold gP;rw[ael];cases hx:blt x.1 s with
  |true=>simp
  |false=>simp
 |x::l,s,hp,k+1,p,h=>by
  have h1:=an.1 hp;have h2:l[k]? =some p:=h;have ih:=rZ (s:=s) h1.2 h2;unfold gP at ih ⊢;rw[ael];cases hx:blt x.1 s with
  |true=>
   simp only[if_true,dv];rw[ih];omega
  |false=>
   have h3:=h1.1 p (jg h2);constructor
   ·intro h4;have:=zU h3 h4;rw[hx] at this;cases this
   ·intro h4;simp at h4
theorem sX {l:List bH} {s:List UInt8} (hp:l.Pairwise fun a b=>blt a.1 b.1=true):tO l s=true↔ ∃ p∈l,p.1=s:=by
 unfold tO;constructor
 ·intro h;cases hq:l[gP l s]? with
  |none=>rw[hq] at h;cases h
  |some p=>
   rw[hq] at h;exact⟨p,jg hq,by simpa using h⟩
 ·rintro⟨p,hm,rfl⟩;obtain⟨k,hk⟩:=abl hm;have h1:=rZ (s:=p.1) hp hk;rw[wI] at h1;have h2: ¬ k<gP l p.1:=fun h=>by have:=h1.2 h;cases this
  have h3:gP l p.1=k:=by
   rcases ig (gP l p.1) k with h|h
   ·obtain⟨q,hq⟩: ∃ q,l[gP l p.1]? =some q:=⟨_,ak (Nat.lt_trans h (aj.1 hk).1)⟩;have h4:=rZ (s:=p.1) hp hq;have h5:=List.pairwise_iff_getElem.1 hp _ _ (aj.1 hq).1 (aj.1 hk).1 h;rw[(aj.1 hq).2,(aj.1 hk).2] at h5;exact absurd (h4.1 h5) (aen _)
   ·omega
  rw[h3,hk];simp
theorem ajX (a b:List UInt8):Ct lk 253 [.string (str a), .string (str b)] [] fun v H'=>v= .int .i64 (Lib.compareBytes a b)∧H'=[]:=
 bK fun w _=>(Tryz.strings_Compare (str a) (str b) w).mono fun e w' ⟨h1,h2⟩=>⟨h1,by rw[h2];exact Below.refl _ _⟩
def XN (a b:List UInt8):Int:=if blt a b then -1 else if a=b then 0 else 1
attribute [local irreducible] box own sl bL aH bJ Qt cN cM dG dL eQ
theorem ajY (p:bH) (s:List UInt8):Ct lk 252 [.agg #[.string (str p.1), .int .i64 p.2], .string (str s)] [] fun v H'=>v= .int .i64 (XN p.1 s)∧H'=[]:=by
 have C0:=ajX p.1 s;rw[asL] at C0;unfold XN;generalize (if blt p.1 s=true then (-1:Int) else if p.1=s then 0 else 1)=r at*;(refine Ye Tryz.func252 Tryz.ntmps252 ?_;intro Fr);(refine JJ ?_;intro b);exact Ea (x:=⟨rfl,rfl⟩)
theorem aoM (q:Option Addr) (c:Nat) (l:List bH) (s:List UInt8) (hn:l.length≤24) (hp:l.Pairwise fun a b=>blt a.1 b.1=true):
  Ct lk 251 [.slice q l.length c, .string (str s), .func (.func 252) #[] #[]] [sl 2 (.slice q l.length c) (l.map fE)] fun v H'=>v= .tuple #[.int .i64 (gP l s:Int), .bool (tO l s)]∧H'=[]:=by
 have hle:=aeA l s;(refine Ye Tryz.func251 Tryz.ntmps251 ?_;intro Fr);refine bM ?_;(refine cU (σ:=Nat×Nat) (fun x=>x.1≤gP l s∧gP l s≤x.2∧x.2≤l.length) (fun x=>[(9, .int .i64 (x.1:Int)),(10, .int .i64 (x.2:Int))]) (fun x=>x.2-x.1) ((0,l.length)) (by exact⟨fe _,hle,df _⟩) Ze (fun⟨i,j⟩ ⟨hi,hj,zv⟩=> ?_);refine Da ?_);dsimp only at hi hj zv;rcases ig i j with hlt|zw
 ·obtain⟨p,zx⟩: ∃ p,l[(i+j)/2]? =some p:=⟨_,ak Z8⟩;have hq:(i+j)/2<l.length:=Z8
  have K0:=ajY p s;have zy:=rZ (s:=s) hp zx;cases hb:blt p.1 s with
  |true=>
   have h2:=zy.1 hb;rw[show XN p.1 s= -1 from by unfold XN;rw[Jg hb]] at K0;refine EV ?_;refine Ee (((i+j)/2+1,j)) ?_ ?_
   ·exact⟨h2,hj,zv⟩
   ·show j-((i+j)/2+1)<j-i;omega
  |false=>
   have h2: ¬ (i+j)/2<gP l s:=fun h=>by rw[zy.2 h] at hb;cases hb
   obtain⟨r,hr,hr0⟩: ∃ r,XN p.1 s=r∧0≤r:=⟨_,rfl,by unfold XN;rw[Jf (by simp [hb])];split<;>decide⟩;rw[hr] at K0;refine EV ?_;refine Ee ((i,(i+j)/2)) ?_ ?_
   ·exact⟨hi,Z8,Z8⟩
   ·show (i+j)/2-i<j-i;omega
 ·have zu:i=gP l s:=Z8
  have zt:j=gP l s:=Z8
  subst zu;have hjn:j≤gP l s:=zw;clear hi hj zt zw;rcases ig (gP l s) l.length with hlt|zw
  ·obtain⟨p,zx⟩: ∃ p,l[gP l s]? =some p:=⟨_,ak hlt⟩;have K0:=ajY p s;have zy:=rZ (s:=s) hp zx;have hb:blt p.1 s=false:=by
    cases hb:blt p.1 s with
    |false=>rfl
    |true=>exact absurd (zy.1 hb) (aen _)
   by_cases he:p.1=s
   ·have e:tO l s=true:=by unfold tO;rw[zx];simp [he]
    rw[show XN p.1 s=0 from by unfold XN;rw[Jf (by simp [hb]),Jg he]] at K0;rw[e];clear zy hb he;refine EV ?_;exact Ea (x:=⟨rfl,rfl⟩)
   ·have e:tO l s=false:=by unfold tO;rw[zx];simp [he]
    rw[show XN p.1 s=1 from by unfold XN;rw[Jf (by simp [hb]),Jf he]] at K0;rw[e];clear zy hb he;refine EV ?_;exact Ea (x:=⟨rfl,rfl⟩)
  ·have e:tO l s=false:=by unfold tO;rw[je zw]
   rw[e];refine bM ?_;exact Ea (x:=⟨rfl,rfl⟩)
theorem ID (q:Option Addr) (c:Nat) (l:List bH) (s:List UInt8) (hn:l.length≤24) (hp:l.Pairwise fun a b=>blt a.1 b.1=true):
  Ct lk 205 [.slice q l.length c, .string (str s)] [sl 2 (.slice q l.length c) (l.map fE)] fun v H'=>v= .tuple #[.int .i64 (gP l s:Int), .bool (tO l s)]∧H'=[]:=by
 have S0:=aoM q c l s hn hp;(refine Ye Tryz.func205 Tryz.ntmps205 ?_;intro Fr);(repeat' (first|refine Y3 ?_|refine Wc (S0 ..) ?_|fail));exact Ea (x:=⟨rfl,rfl⟩)
def cS (l:List bH) (s:List UInt8):Int:=if bZ l≠0 then bZ l else if ¬ gU s then 11 else if tO l s then 0 else 12
def jN (l:List bH) (s:List UInt8):Int:=if cS l s=0 then (match l[gP l s]? with|some p=>p.2|none=>0) else 0
theorem yC (q:Option Addr) (c:Nat) (l:List bH) (s:List UInt8) (hn:l.length≤1000000000000000000) (hs: ∀ p∈l,p.1.length≤9223372036854775807) (ht:s.length≤9223372036854775807):
  Ct lk 138 [.slice q l.length c, .string (str s)] [sl 2 (.slice q l.length c) (l.map fE)] fun v H'=>v= .tuple #[.int .i64 (jN l s), .int .i64 (cS l s)]∧H'=[]:=by
 have C0:=bP q c l hn hs;have G0:=GZ s ht;by_cases h0:bZ l=0
 ·obtain⟨g1,g2,g3⟩:=(eI l).1 h0;rw[h0] at C0;by_cases h1:gU s
  ·have e:nT s=0:=by unfold nT;rw[Jg h1]
   rw[e] at G0;have S0:=ID q c l s g1 g3;cases hi:tO l s with
   |true=>
    have e2:cS l s=0:=by unfold cS;rw[Jf ZU,Jf ZC,hi,Jg rfl]
    have hx: ∃ p,l[gP l s]? =some p:=by
     unfold tO at hi;cases hq:l[gP l s]? with
     |none=>rw[hq] at hi;cases hi
     |some p=>exact⟨p,rfl⟩
    obtain⟨p,zy⟩:=hx;have e3:jN l s=p.2:=by unfold jN;rw[Jg e2,zy]
    have hlt:=(aj.1 zy).1;rw[e2,e3];rw[hi] at S0;generalize gP l s=k at*;clear e e2 e3 g2 g3 hs hi;(refine Ye Tryz.func138 Tryz.ntmps138 ?_;intro Fr);refine QU ?_;exact Ea (x:=⟨rfl,rfl⟩)
   |false=>
    have e2:cS l s=12:=by unfold cS;rw[Jf ZU,Jf ZC,hi,Jf Ja]
    have e3:jN l s=0:=by unfold jN;rw[Jf Z8]
    rw[e2,e3];rw[hi] at S0;generalize gP l s=k at*;clear e e2 e3 g2 g3 hs hi;(refine Ye Tryz.func138 Tryz.ntmps138 ?_;intro Fr);refine QU ?_;exact Ea (x:=⟨rfl,rfl⟩)
  ·have e:nT s=11:=by unfold nT;rw[Jf h1]
   rw[e] at G0;have e2:cS l s=11:=by unfold cS;rw[Jf ZU,Jg h1]
   have e3:jN l s=0:=by unfold jN;rw[Jf Z8]
   rw[e2,e3];clear e e2 e3;(refine Ye Tryz.func138 Tryz.ntmps138 ?_;intro Fr);(repeat' (first|refine Y3 ?_|refine Wc (C0 ..) ?_|refine Wc (G0 ..) ?_|fail));exact Ea (x:=⟨rfl,rfl⟩)
 ·have e2:cS l s=bZ l:=by unfold cS;rw[Jg h0]
  have e3:jN l s=0:=by unfold jN;rw[Jf Z8]
  rw[e2,e3];clear e2 e3;generalize bZ l=e at*;(refine Ye Tryz.func138 Tryz.ntmps138 ?_;intro Fr);refine EU ?_;exact Ea (x:=⟨rfl,rfl⟩)
end dir
namespace own
open sl dir
attribute [local irreducible] box own sl bL aH bJ Qt cN cM dG dL eQ
theorem asM (q:Option Addr) (c:Nat) (xs:List (bH)) (hn:xs.length*24≤140737488355328):
  Ct lk 213 [.slice q xs.length c] [sl 2 (.slice q xs.length c) (xs.map fE)] fun v H'=> ∃ q' c',v= .slice q' xs.length c'∧H'=[own (.slice q' xs.length c') 204 2 xs.length (flat fE xs)]:=by
 refine auT (fun hq hc hx=> ?_) fun hq=> ?_
 ·subst hq;subst hc;have zy:xs=[]:=by simpa using hx
  subst zy;(refine Ye Tryz.func213 Tryz.ntmps213 ?_;intro Fr);refine uB ?_;refine eK wt Jb (AR rfl rfl rfl) ?_;refine uB ?_;refine mC (kP.refl _) (aS _ 204 2) ?_;exact Ea (x:=⟨none,0,rfl,rfl⟩)
 ·obtain⟨ad,rfl⟩:=hq;(refine Ye Tryz.func213 Tryz.ntmps213 ?_;intro Fr);refine uB ?_;refine eK wt Jb (AR rfl rfl rfl) ?_;refine uB ?_;(refine aL wt rfl (auS rfl) ?_;rintro _ _ ⟨g,rfl,rfl⟩);refine uB ?_;(refine aL wt rfl (jA (cnt:=0) (f:=fE) (ys:=xs) rfl rfl rfl aU aU Zg Zc rfl Z8 Zi) ?_;rintro _ _ ⟨q2,c2,rfl,rfl⟩);rw[Nat.zero_add,dz];refine uB ?_;exact Ea (x:=⟨q2,c2,rfl,rfl⟩)
end own
namespace dir
open sl uU own
def mT (l:List bH) (x:bH):List bH:=l.take (gP l x.1)++x::l.drop (gP l x.1)
def tM (l:List bH) (x:bH):Int:=if bZ l≠0 then bZ l else if nU x≠0 then nU x else if tO l x.1 then 13 else if l.length=24 then 10 else 0
def jO (l:List bH) (s:List UInt8):List bH:=l.take (gP l s)++l.drop (gP l s+1)
theorem IE (l:List bH) (x:bH):(mT l x).length=l.length+1:=by
 have:=aeA l x.1;unfold mT;rw[ae,dv,ar,bq];omega
theorem abL {l:List bH} {x:bH} (h:tM l x=0):kY l∧nU x=0∧tO l x.1=false∧l.length≠24:=by
 unfold tM at h;split at h
 ·exact absurd h ‹_›
 ·rename_i h1;split at h
  ·exact absurd h ‹_›
  ·rename_i h2;split at h
   ·cases h
   ·rename_i h3;split at h
    ·cases h
    ·exact⟨(eI l).1 ZC,by simpa using h2,by simpa using h3, ‹_›⟩
theorem aeB {l:List bH} {x:bH} (h1:kY l) (h2:nU x=0) (h3:tO l x.1=false) (h4:l.length≠24):tM l x=0:=by
 unfold tM;rw[Jf (by simpa using (eI l).2 h1),Jf (by simpa using h2),h3,Jf Ja,Jf h4]
theorem iJ {l:List bH} {s:List UInt8} (h:cS l s=0):kY l∧gU s∧tO l s=true:=by
 unfold cS at h;split at h
 ·exact absurd h ‹_›
 ·rename_i h1;split at h
  ·cases h
  ·rename_i h2;split at h
   ·exact⟨(eI l).1 ZC,by simpa using h2, ‹_›⟩
   ·cases h
theorem DG {l:List bH} {s:List UInt8} (h:tO l s=true):gP l s<l.length:=by
 unfold tO at h;cases hq:l[gP l s]? with
 |none=>rw[hq] at h;cases h
 |some p=>exact (aj.1 hq).1
attribute [local irreducible] box own sl bL aH bJ Qt cN cM dG dL eQ
theorem aoN (q:Option Addr) (c:Nat) (l:List bH) (x:bH) (h:tM l x=0):
  Ct lk 145 [.slice q l.length c, .agg #[.string (str x.1), .int .i64 x.2]] [sl 2 (.slice q l.length c) (l.map fE)] fun v H'=> ∃ q' c',v= .tuple #[.slice q' (l.length+1) c', .int .i64 0]∧H'=[own (.slice q' (l.length+1) c') 204 2 (l.length+1) (flat fE (mT l x))]:=by
 obtain⟨hg,h2,h3,h4⟩:=abL h;obtain⟨g1,g2,g3⟩:=hg;have zy: ∀ p∈l,p.1.length≤9223372036854775807:=fun p hp=>by
  have:=(cQ (g2 p hp)).1.2.2.2.1;omega
 have hx:=(cQ h2).1.2.2.2.1;have C0:=bP q c l Z8 zy;rw[(eI l).2 ⟨g1,g2,g3⟩] at C0;have F0:=zB x Z8;rw[h2] at F0;have S0:=ID q c l x.1 g1 g3;rw[h3] at S0;have K0:=asM q c l Z8;have hpl:=aeA l x.1;have I0:=fun q qv c=>PG q qv c (gP l x.1) l x g1 hpl
 have hne:(l.length:Int)≠24:=Z8
 unfold mT;generalize gP l x.1=i at*;generalize l.take i++x::l.drop i=res at*;clear h h2 h3 h4 g2 g3 zy;(refine Ye Tryz.func145 Tryz.ntmps145 ?_;intro Fr);(repeat' (first|refine Y4 ?_|(refine Wb ?_;intro b)|refine Wc (C0 ..) ?_|refine Wc (F0 ..) ?_|refine Wc (S0 ..) ?_|fail));(refine aD (Hq:=[_,_]) [0,1] [] rfl Jd Za ?_);refine jV ?_;(refine aB 1 ?_;refine cD 4 Jd ?_ ?_)
 ·(refine Cd 1 (K0) ?_;rintro _ _ ⟨_,⟨q1,c1,rfl,rfl⟩,rfl⟩;refine Te ?_;(try refine Da ?_));refine jV ?_;(refine aB 4 ?_;refine Oa (l:=by exact aT rfl rfl rfl Zp rfl rfl Z9 rfl) (k:= ?_);rintro _ _ ⟨q3,rfl,rfl⟩;refine Te ?_;(try refine Da ?_));(repeat' (first|refine Wz ?_|fail));(refine Cc 5 (I0 _ _ _) ?_;rintro _ _ ⟨_,⟨q4,c4,rfl,rfl⟩,rfl⟩;refine Te ?_;(try refine Da ?_));refine sO ?_;exact Ea (x:=⟨q4,c4,rfl,rfl⟩)
 ·(refine Oc (l:=by exact aT rfl rfl rfl Zp rfl rfl Z9 rfl) (k:= ?_);rintro _ _ ⟨q3,rfl,rfl⟩;refine Te ?_;(try refine Da ?_));refine jV ?_;(refine Cc 1 (K0) ?_;rintro _ _ ⟨_,⟨q1,c1,rfl,rfl⟩,rfl⟩;refine Te ?_;(try refine Da ?_));refine jV ?_;(refine Cc 5 (I0 _ _ _) ?_;rintro _ _ ⟨_,⟨q4,c4,rfl,rfl⟩,rfl⟩;refine Te ?_;(try refine Da ?_));refine sO ?_;exact Ea (x:=⟨q4,c4,rfl,rfl⟩)
theorem aMT (q:Option Addr) (c:Nat) (l:List bH) (x:bH) (hn:l.length≤1000000000000000000) (hs: ∀ p∈l,p.1.length≤9223372036854775807) (hx:x.1.length≤9223372036854775807) (h:tM l x≠0):
  Ct lk 145 [.slice q l.length c, .agg #[.string (str x.1), .int .i64 x.2]] [sl 2 (.slice q l.length c) (l.map fE)] fun v H'=>v= .tuple #[.slice none 0 0, .int .i64 (tM l x)]∧H'=[]:=by
 have C0:=bP q c l hn hs;have F0:=zB x hx;unfold tM at*;by_cases h0:bZ l=0
 ·obtain⟨g1,g2,g3⟩:=(eI l).1 h0;rw[Jf ZU] at*;rw[h0] at C0;by_cases h1:nU x=0
  ·rw[Jf ZC] at*;rw[h1] at F0;have S0:=ID q c l x.1 g1 g3;cases h2:tO l x.1 with
   |true=>
    rw[h2] at S0;rw[Jg rfl];generalize gP l x.1=i at*;clear h h2 g2 g3 hs;(refine Ye Tryz.func145 Tryz.ntmps145 ?_;intro Fr);(repeat' (first|refine Y3 ?_|(refine Wb ?_;intro b)|refine Wc (C0 ..) ?_|refine Wc (F0 ..) ?_|refine Wc (S0 ..) ?_|fail));exact Ea (x:=⟨rfl,rfl⟩)
   |false=>
    rw[h2] at S0 h;rw[Jf Ja] at h ⊢;have h4:l.length=24:=by
     by_cases h4:l.length=24
     ·exact h4
     ·rw[Jf h4] at h;exact absurd rfl h
    rw[Jg h4];have h4I:(l.length:Int)=24:=Z8
    generalize gP l x.1=i at*;clear h h2 g2 g3 hs h4;(refine Ye Tryz.func145 Tryz.ntmps145 ?_;intro Fr);(repeat' (first|refine Y3 ?_|(refine Wb ?_;intro b)|refine Wc (C0 ..) ?_|refine Wc (F0 ..) ?_|refine Wc (S0 ..) ?_|fail));exact Ea (x:=⟨rfl,rfl⟩)
  ·rw[Jg h1] at*;generalize nU x=e at*;clear h g2 g3 hs;(refine Ye Tryz.func145 Tryz.ntmps145 ?_;intro Fr);(repeat' (first|refine Y3 ?_|(refine Wb ?_;intro b)|refine Wc (C0 ..) ?_|refine Wc (F0 ..) ?_|fail));exact Ea (x:=⟨rfl,rfl⟩)
 ·rw[Jg h0] at*;generalize bZ l=e at*;clear h hs;(refine Ye Tryz.func145 Tryz.ntmps145 ?_;intro Fr);(refine JJ ?_;intro b);exact Ea (x:=⟨rfl,rfl⟩)
theorem xQ (q:Option Addr) (c:Nat) (l:List bH) (s:List UInt8) (h:cS l s=0):
  Ct lk 149 [.slice q l.length c, .string (str s)] [sl 2 (.slice q l.length c) (l.map fE)] fun v H'=> ∃ q' c',v= .tuple #[.slice q' (l.length-1) c', .int .i64 0]∧H'=[own (.slice q' (l.length-1) c') 204 2 (l.length-1) (flat fE (jO l s))]:=by
 obtain⟨hg,h2,h3⟩:=iJ h;have hlt:=DG h3;obtain⟨g1,g2,g3⟩:=hg;have zy: ∀ p∈l,p.1.length≤9223372036854775807:=fun p hp=>by
  have:=(cQ (g2 p hp)).1.2.2.2.1;omega
 have hx:=h2.2.2.2.1;have C0:=bP q c l Z8 zy;rw[(eI l).2 ⟨g1,g2,g3⟩] at C0;have G0:=GZ s Z8;rw[show nT s=0 from by unfold nT;rw[Jg h2]] at G0;have S0:=ID q c l s g1 g3;rw[h3] at S0;have K0:=asM q c l Z8;have I0:=fun q c=>aMS q c (gP l s) l g1 hlt
 unfold jO;generalize gP l s=i at*;generalize l.take i++l.drop (i+1)=res at*;clear h h2 h3 g2 g3 zy;(refine Ye Tryz.func149 Tryz.ntmps149 ?_;intro Fr);refine QU ?_;(refine Ca (K0) ?_;rintro _ _ ⟨_,⟨q1,c1,rfl,rfl⟩,rfl⟩;refine Da ?_);refine iC ?_;(refine Ca (I0 _ _) ?_;rintro _ _ ⟨_,⟨q4,c4,rfl,rfl⟩,rfl⟩;refine Da ?_);refine iC ?_;exact Ea (x:=⟨q4,c4,rfl,rfl⟩)
theorem yF {l:List bH} {s:List UInt8} (h:gP l s<l.length):(jO l s).length=l.length-1:=by
 unfold jO;rw[ae,ar,bq];omega
end dir
namespace dir
open sl uU
theorem pN {l:List bH} {x p:bH}:p∈mT l x↔p=x∨p∈l:=by
 unfold mT;have h:p∈l↔p∈l.take (gP l x.1)∨p∈l.drop (gP l x.1):=by
  rw[←ei,gl]
 rw[ei,al,h];constructor
 ·rintro (h|h|h)
  ·exact .inr (.inl h)
  ·exact .inl h
  ·exact .inr (.inr h)
 ·rintro (h|h|h)
  ·exact .inr (.inl h)
  ·exact .inl h
  ·exact .inr (.inr h)
theorem aMX {l:List bH} {s:List UInt8} (hp:l.Pairwise fun a b=>blt a.1 b.1=true) {p:bH} (h:p∈l.take (gP l s)):blt p.1 s=true:=by
 obtain⟨k,hk⟩:=abl h;have zy:=(aj.1 hk).1;rw[ar] at zy;rw[List.getElem?_take_of_lt Z8] at hk;exact (rZ hp hk).2 Z8
theorem aMY {l:List bH} {s:List UInt8} (hp:l.Pairwise fun a b=>blt a.1 b.1=true) {p:bH} (h:p∈l.drop (gP l s)):blt p.1 s=false:=by
 obtain⟨k,hk⟩:=abl h;rw[List.getElem?_drop] at hk;cases hb:blt p.1 s with
 |false=>rfl
 |true=>exact absurd ((rZ hp hk).1 hb) Z8
theorem asP {l:List bH} {s:List UInt8} (hp:l.Pairwise fun a b=>blt a.1 b.1=true) (hn:tO l s=false) {p:bH} (h:p∈l.drop (gP l s)):blt s p.1=true:=by
 have h1:=aMY hp h;rcases asK p.1 s with h2|h2|h2
 ·rw[h1] at h2;cases h2
 ·have:tO l s=true:=(sX hp).2 ⟨p,ln h,h2⟩;rw[hn] at this;cases this
 ·exact h2
theorem kN {l:List bH} {x:bH} (h:tM l x=0):kY (mT l x):=by
 obtain⟨⟨g1,g2,g3⟩,h2,h3,h4⟩:=abL h;refine⟨by rw[IE];omega,fun p hp=> ?_, ?_⟩
 ·rcases pN.1 hp with rfl|hp
  ·exact h2
  ·exact g2 p hp
 ·unfold mT;rw[List.pairwise_append];refine⟨g3.sublist (List.take_sublist _ _),an.2 ⟨fun p hp=>asP g3 h3 hp,g3.sublist (List.drop_sublist _ _)⟩,fun a ha b hb=> ?_⟩;have zy:=aMX g3 ha;rcases al.1 hb with rfl|hb
  ·exact zy
  ·exact zU zy (asP g3 h3 hb)
theorem LH {l:List bH} (hp:l.Pairwise fun a b=>blt a.1 b.1=true) {p q:bH} (h1:p∈l) (h2:q∈l) (h:p.1=q.1):p=q:=by
 induction l with
 |nil=>cases h1
 |cons x l ih=>
  have h3:=an.1 hp;rcases al.1 h1 with rfl|h1
  ·rcases al.1 h2 with rfl|h2
   ·rfl
   ·exact absurd h (aGB (h3.1 q h2))
  ·rcases al.1 h2 with e|h2
   ·rw[e] at h ⊢;exact absurd h.symm (aGB (h3.1 p h1))
   ·exact ih h3.2 h1 h2
theorem aeH {l:List bH} {s:List UInt8} (h:tO l s=true): ∃ p,l[gP l s]? =some p∧p.1=s:=by
 unfold tO at h;cases hq:l[gP l s]? with
 |none=>rw[hq] at h;cases h
 |some p=>rw[hq] at h;exact⟨p,rfl,by simpa using h⟩
theorem uY {l:List bH} {p:bH} (hg:kY l) (hs:gU p.1) (hm:p∈l):cS l p.1=0∧jN l p.1=p.2:=by
 have hi:tO l p.1=true:=(sX hg.2.2).2 ⟨p,hm,rfl⟩;have e:cS l p.1=0:=by unfold cS;rw[Jf (by simpa using (eI l).2 hg),Jf (by simpa using hs),hi,Jg rfl]
 refine⟨e, ?_⟩;obtain⟨q,hq,zy⟩:=aeH hi;unfold jN;rw[Jg e,hq];rw[LH hg.2.2 (jg hq) hm zy]
end dir
