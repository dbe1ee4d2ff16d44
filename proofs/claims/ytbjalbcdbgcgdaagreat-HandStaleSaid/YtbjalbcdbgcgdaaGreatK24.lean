/- Law HandStale: its texts, packed. -/
import Derived.Test.YtbjalbcdbgcgdaaGreatK23
import Derived.Test.YtbjalbcdbgcgdaaGreatK07
import Derived.Test.YtbjalbcdbgcgdaaGreatK14
import Derived.Test.YtbjalbcdbgcgdaaGreatK11
import Derived.Test.YtbjalbcdbgcgdaaGreatK20
open List renaming Perm.refl->gj,append_assoc->ep,append_nil->jc,cons_append->jg,count->kr,count_append->nd,drop_eq_getElem_cons->cu,drop_nil->my,drop_of_length_le->mc,eq_nil_of_length_eq_zero->ml,ext_getElem?->da,filter_append->l8,getElem?_eq_getElem->aj,getElem?_eq_none->dz,getElem?_eq_some_iff->ah,getElem?_map->al,getElem?_range->na,length->ni,length_append->ag,length_drop->eu,length_map->jj,length_nil->lk,length_pos_iff->mz,length_take->b9,map_append->mw,map_cons->eh,map_map->nb,mem_append->ft,mem_cons->aw,mem_cons_of_mem->ax,mem_cons_self->bc,mem_map->fu,mem_of_getElem?->jm,mem_of_mem_drop->mr,mem_of_mem_take->kt,nil_append->fe,range->jn,range_succ->nf,take_append_drop->il
open Nat renaming eq_zero_or_pos->ei,le_refl->aq,lt_or_ge->iq,pow_succ->gu,two_mul->nh,zero_le->fg
open Int renaming lt_or_le->ng
set_option linter.unusedVariables false
set_option maxRecDepth 100000
set_option maxHeartbeats 8000000
namespace Go.Proofs.YtbjalbcdbgcgdaaGreat.nJ
open Go.RowKit bG sl srt
def FP (bs:Nat):Nat→List CV→List CV
 |0,l=>aK l
 |f+1,l=>aK (l.take bs)++FP bs f (l.drop bs)
theorem mO (bs:Nat): ∀ f,FP bs f []=[]
 |0=>rfl
 |f+1=>by rw[FP,List.take_nil,my,mO bs f];rfl
theorem qY {bs f:Nat} {l:List CV} (h:l.length≤bs):FP bs f l=aK l:=by
 cases f with
 |zero=>rfl
 |succ f=>rw[FP,List.take_of_length_le h,mc h,mO,jc]
theorem ZV {bs:Nat} (hb:0<bs): ∀ (f g:Nat) (l:List CV),l.length≤f→l.length≤g→FP bs f l=FP bs g l
 |0,g,l,h,_=>by
  have:l=[]:=ml (by omega);subst this;rw[mO,mO]
 |f+1,0,l,_,h=>by
  have:l=[]:=ml (by omega);subst this;rw[mO,mO]
 |f+1,g+1,l,h,h'=>by
  rw[FP,FP];by_cases hl:l=[]
  ·subst hl;rw[my,mO,mO]
  ·have:0<l.length:=mz.2 hl;rw[ZV hb f g (l.drop bs) Zk Zk]
theorem uI {bs N:Nat} (hb:0<bs) {l:List CV} (h:l.length≤N) (h0:0<N):FP bs N l=aK (l.take bs)++FP bs N (l.drop bs):=by
 obtain⟨f,rfl⟩: ∃ f,N=f+1:=⟨N-1,by omega⟩;rw[FP];congr 1;by_cases hl:l=[]
 ·subst hl;rw[my,mO,mO]
 ·have:0<l.length:=mz.2 hl;exact ZV hb f (f+1) _ Zk Zk
theorem aiR {bs:Nat}: ∀ (f:Nat) (l:List CV),(FP bs f l).length=l.length
 |0,l=>eC l
 |f+1,l=>by
  rw[FP,ag,eC,aiR f,b9,eu];omega
theorem atZ {l:List CV} (bs:Nat):l.take bs++(l.drop bs).take bs=l.take (2*bs):=by
 rw[nh,List.take_add]
theorem auA {l:List CV} (bs:Nat):(l.drop bs).drop bs=l.drop (2*bs):=by
 rw[List.drop_drop,nh]
attribute [local irreducible] box own sl gH aH bC Qt cJ cG dC dG eO
theorem aeM (q:Option Addr) (c kb:Nat) (l:List CV) (N:Nat) (hN:l.length=N) (hN0:0<N) (hNb:N≤1000000000) (hw: ∀ x∈l,0≤x.1∧x.1≤1000000000000):
  Ct Tryz.prog 356 [.slice q N c, .int .i64 (N:Int),sF kb] [own (.slice q N c) 437 2 N (flat fC l),KB kb]
   fun v H'=>v= .tuple #[]∧H'=[own (.slice q N c) 437 2 N (flat fC (aK l))]:=by
 (refine Ye Tryz.func356 Tryz.ntmps356 ?_;intro Fr);refine aZ ?_;(refine aC (σ:=List CV×List CV×Nat) (fun y=>((y.1++FP 20 N y.2.1=FP 20 N l∧y.1.length=y.2.2)∧y.2.2+y.2.1.length=N)∧ ∀ x∈y.2.1,0≤x.1∧x.1≤1000000000000) (fun y=>[(7, .int .i64 (y.2.2:Int)),(8, .int .i64 ((y.2.2+20:Nat):Int))]) (fun y=>[own (.slice q N c) 437 2 N (flat fC (y.1++y.2.1))]) _ (fun y=>y.2.1.length) (([],l,0)) (by exact⟨⟨⟨rfl,rfl⟩,by dsimp only;omega⟩,hw⟩) (by exact gA) Zb (fun⟨D,T,a⟩ ⟨⟨⟨hD,hDl⟩,hT⟩,hwT⟩=> ?_);refine Da ?_);dsimp only at hD hDl hT hwT;by_cases h20:a+20≤N
 ·have ht1:(T.take 20).length=20:=by rw[b9];omega
  have ht2:(T.drop 20).length=T.length-20:=eu;have IN:=IQ q c kb D (T.take 20) (T.drop 20) a (a+20) N hDl (by omega) Zn hN0 hNb fun x hx=>hwT x (kt hx)
  rw[show D++T=D++T.take 20++T.drop 20 by rw[ep,il]];have hst:=uI (bs:=20) (N:=N) (by decide) (l:=T) (by omega) hN0;have hc2:((a+20:Nat):Int)+20=((a+20+20:Nat):Int):=by omega
  refine aZ ?_;refine aI wt rfl (aV rfl IN rfl (Lp.out aN (Lp.view (lR kb) Lp.nil (cR aN)))) ?_;rintro _ _ ⟨_,⟨rfl,rfl⟩,rfl⟩;dsimp only[jg,fe];refine aZ ?_;rw[hc2];refine Ee ((D++aK (T.take 20),T.drop 20,a+20)) ?_ ?_
  ·refine⟨⟨⟨?_, ?_⟩,by dsimp only;omega⟩,fun x hx=>hwT x (mr hx)⟩
   ·rw[←hD,hst,ep]
   ·dsimp only;rw[ag,eC];omega
  ·dsimp only;omega
 ·have IN:=IQ q c kb D T [] a N N hDl (by omega) (by simp only[ag,lk];omega) hN0 hNb hwT;rw[show D++T=D++T++[] by rw[jc]];have hfin:D++aK T++[]=FP 20 N l:=by rw[jc, ←hD,qY (by omega)]
  refine aZ ?_;refine aI wt rfl (aV rfl IN rfl (Lp.out aN (Lp.view (lR kb) Lp.nil (cR aN)))) ?_;rintro _ _ ⟨_,⟨rfl,rfl⟩,rfl⟩;dsimp only[jg,fe];rw[hfin];clear hD hDl hT hwT IN hfin;refine eU ?_;(refine aC (σ:=Nat×Int×Int) (fun y=>20≤y.1) (fun y=>[(6, .int .i64 (y.1:Int)),(7, .int .i64 y.2.1),(8, .int .i64 y.2.2)]) (fun y=>[own (.slice q N c) 437 2 N (flat fC (FP y.1 N l))]) _ (fun y=>N-y.1) ((20,(a:Int),((a+20:Nat):Int))) (by exact aq _) (by exact gA) Zb (fun⟨bs,x7,x8⟩ hbs=> ?_);refine Da ?_);dsimp only at hbs ⊢;by_cases hbN:bs<N
  ·have h2b:2*(bs:Int)=((2*bs:Nat):Int):=by omega
   have h2b':(bs:Int)*2=((2*bs:Nat):Int):=by omega
   refine aZ ?_;rw[h2b];(refine aC (σ:=List CV×List CV×Nat) (fun y=>((y.1++FP (2*bs) N y.2.1=FP (2*bs) N l∧y.1.length=y.2.2)∧y.2.2+y.2.1.length=N)∧ ∀ x∈y.2.1,0≤x.1∧x.1≤1000000000000) (fun y=>[(7, .int .i64 (y.2.2:Int)),(8, .int .i64 ((2*bs+y.2.2:Nat):Int))]) (fun y=>[own (.slice q N c) 437 2 N (flat fC (y.1++FP bs N y.2.1))]) _ (fun y=>y.2.1.length) (([],l,0)) (by exact⟨⟨⟨rfl,rfl⟩,by dsimp only;omega⟩,hw⟩) (by exact gA) Zb (fun⟨D,T,a⟩ ⟨⟨⟨hD,hDl⟩,hT⟩,hwT⟩=> ?_);refine Da ?_);dsimp only at hD hDl hT hwT;have hab:(a:Int)+(bs:Int)=((a+bs:Nat):Int):=by omega
   have s1:=iP (T.take bs);by_cases hb2:a+2*bs≤N
   ·have ht1:(T.take bs).length=bs:=by rw[b9];omega
    have ht2:((T.drop bs).take bs).length=bs:=by rw[b9,eu];omega
    have ht3 : (T.drop (2 * bs)).length = T.length - 2 * bs := eu;have e1 := uI (bs := bs) (N := N) (by omega) (l := T) (by omega) hN0;have e2 := uI (bs := bs) (N := N) (by omega) (l := T.drop bs) Zk hN0;rw [auA] at e2;have e3 := uI (bs := 2 * bs) (N := N) (by omega) (l := T) (by omega) hN0;have hbl := aiR (bs := bs) N (T.drop (2 * bs));have SY := aiQ (2 * bs) q c kb D (aK (T.take bs)) (aK ((T.drop bs).take bs)) (FP bs N (T.drop (2 * bs))) a (a + bs) (2 * bs + a) N hDl Zt Zt Zt Zt (by rw [eC, eC]; omega) (by simp only [ag, eC]; omega) hNb (fun x hx => by
     rcases ft.1 hx with h|h
     ·exact hwT x (kt (kW.1 h))
     ·exact hwT x (mr (kt (kW.1 h)))) s1 (iP _)
    rw[show D++FP bs N T=D++aK (T.take bs)++aK ((T.drop bs).take bs)++FP bs N (T.drop (2*bs)) by rw[e1,e2];simp only[ep]];have hc2:((2*bs+a:Nat):Int)+((2*bs:Nat):Int)=((2*bs+(2*bs+a):Nat):Int):=by omega
    refine aZ ?_;rw[hab];refine aI wt rfl (aV rfl SY rfl (Lp.out aN (Lp.view (lR kb) Lp.nil (cR aN)))) ?_;rintro _ _ ⟨_,⟨rfl,rfl⟩,rfl⟩;dsimp only[jg,fe];rw[DQ,atZ];refine aZ ?_;rw[h2b,hc2];refine Ee ((D++aK (T.take (2*bs)),T.drop (2*bs),2*bs+a)) ?_ ?_
    ·refine⟨⟨⟨?_, ?_⟩,by dsimp only;omega⟩,fun x hx=>hwT x (mr hx)⟩
     ·rw[←hD,e3,ep]
     ·dsimp only;rw[ag,eC,b9];omega
    ·dsimp only;omega
   ·have hfin:D++aK T=FP (2*bs) N l:=by rw[←hD,qY (by omega)]
    by_cases hm:a+bs<N
    ·have ht1:(T.take bs).length=bs:=by rw[b9];omega
     have ht2 : (T.drop bs).length = T.length - bs := eu;have e1 := uI (bs := bs) (N := N) (by omega) (l := T) (by omega) hN0;rw [qY (l := T.drop bs) (by omega)] at e1;have SY := aiQ (2 * bs) q c kb D (aK (T.take bs)) (aK (T.drop bs)) [] a (a + bs) N N hDl Zt Zt Zt Zt (by rw [eC, eC]; omega) (by simp only [ag, eC, lk]; omega) hNb (fun x hx => by
      rcases ft.1 hx with h|h
      ·exact hwT x (kt (kW.1 h))
      ·exact hwT x (mr (kW.1 h))) s1 (iP _)
     rw[show D++FP bs N T=D++aK (T.take bs)++aK (T.drop bs)++[] by rw[e1,jc,ep]];refine aZ ?_;rw[hab];refine aI wt rfl (aV rfl SY rfl (Lp.out aN (Lp.view (lR kb) Lp.nil (cR aN)))) ?_;rintro _ _ ⟨_,⟨rfl,rfl⟩,rfl⟩;dsimp only[jg,fe];rw[DQ,il,jc,hfin];refine eU ?_;rw[h2b'];refine Ee ((2*bs,(a:Int),((2*bs+a:Nat):Int))) ?_ ?_
     ·dsimp only;omega
     ·dsimp only;omega
    ·rw[qY (l:=T) (by omega),hfin];refine aZ ?_;rw[h2b'];refine Ee ((2*bs,(a:Int),((2*bs+a:Nat):Int))) ?_ ?_
     ·dsimp only;omega
     ·dsimp only;omega
  ·rw[qY (l:=l) (by omega)];refine aZ ?_;exact Eb (x:=⟨rfl,rfl⟩)
theorem auB (q:Option Addr) (c kb:Nat) (l:List CV) (N:Nat) (hN:l.length=N) (hN0:0<N) (hNb:N≤1000000000) (hw: ∀ x∈l,0≤x.1∧x.1≤1000000000000):
  Ct Tryz.prog 350 [.slice q N c,sF kb] [own (.slice q N c) 437 2 N (flat fC l),KB kb]
   fun v H'=>v= .tuple #[]∧H'=[own (.slice q N c) 437 2 N (flat fC (aK l))]:=by
 have ST:=aeM q c kb l N hN hN0 hNb hw;(refine Ye Tryz.func350 Tryz.ntmps350 ?_;intro Fr);refine eU ?_;refine aI wt rfl (aV rfl ST rfl (Lp.out aN (Lp.view (lR kb) Lp.nil (cR aN)))) ?_;rintro _ _ ⟨_,⟨rfl,rfl⟩,rfl⟩;dsimp only[jg,fe];refine eU ?_;exact Eb (x:=⟨rfl,rfl⟩)
end Go.Proofs.YtbjalbcdbgcgdaaGreat.nJ
namespace Go.Proofs.YtbjalbcdbgcgdaaGreat.dB
open Go.RowKit bG sl srt nJ pm
abbrev XC:=Int×List Nat×Option Addr×Nat
def GU (x:XC):CV:=(x.1,x.2.2.1,x.2.1.length,x.2.2.2)
def fX (x:XC):List Value:=[.int .i64 x.1, .slice x.2.2.1 x.2.1.length x.2.2.2]
theorem xT (x:XC): ∀ u∈fX x,u.oneCell'=true:=by simp [fX,Value.oneCell']
def tC (x:XC):dQ:=(x.1,x.2.1)
def sI (x:XC):List Int:=x.2.1.map fun n:Nat=>(n:Int)
def slV (x:XC):Value:= .slice x.2.2.1 x.2.1.length x.2.2.2
def mU (x:XC):Ent:=own (slV x) 3 1 x.2.1.length (flat fI (sI x))
def aeN (x:XC):Value×List (List Value):=(slV x,(sI x).map fI)
theorem auC (x:XC):(mU x).iD=true:=rfl
instance {x : XC} {L : List Ent} [hl : XL L] : XL (mU x :: L) := ⟨fun g hg => by
 rcases aw.1 hg with rfl|hg
 ·rfl
 ·exact hl.h g hg⟩
instance {l L : List Ent} [hl : XL L] : XL (kM l :: L) := ⟨fun g hg => by
 rcases aw.1 hg with rfl|hg
 ·rfl
 ·exact hl.h g hg⟩
theorem aiS (xs:List XC):flat fC (xs.map GU)=flat fX xs:=by
 unfold flat;rw[nb];rfl
instance:Key XC:=⟨fun x=>x.1⟩
theorem aiT (x:XC): ∀ l:List XC,(ins x l).map GU=ins (GU x) (l.map GU)
 |[]=>rfl
 |y::l=>by
  rw[ins,eh,ins];by_cases h:kf x≤kf y
  ·rw[if_pos h,if_pos (show kf (GU x)≤kf (GU y) from h)];rfl
  ·rw[if_neg h,if_neg (show ¬ kf (GU x)≤kf (GU y) from h),eh,aiT x l]
theorem mV {α:Type} (f:α→List Value) (a b:List α):flat f (a++b)=flat f a++flat f b:=by
 unfold flat;rw[mw,List.flatten_append]
theorem ZW: ∀ l:List XC,(aK l).map GU=aK (l.map GU)
 |[]=>rfl
 |x::l=>by rw[aK,aiT,ZW l];rfl
def mgX (x:XC) (a:List XC) (r:List XC→List XC):List XC→List XC
 |[]=>x::a
 |y::b=>if x.1≤y.1 then x::r (y::b) else y::mgX x a r b
def GV:List XC→List XC→List XC
 |[],b=>b
 |x::a,b=>mgX x a (GV a) b
theorem VG (a:List XC):GV a []=a:=by cases a<;>rfl
theorem aeO {x y:XC} {a b:List XC} (h:x.1≤y.1):GV (x::a) (y::b)=x::GV a (y::b):=if_pos h
theorem aeP {x y:XC} {a b:List XC} (h: ¬ x.1≤y.1):GV (x::a) (y::b)=y::GV (x::a) b:=if_neg h
theorem aiU: ∀ a b:List XC,(GV a b).map tC=merged (a.map tC) (b.map tC):=by
 intro a;induction a with
 |nil=>intro b;rfl
 |cons x a iha=>
  intro b;induction b with
  |nil=>rw[VG,List.map_nil,sC]
  |cons y b ihb=>
   by_cases h:x.1≤y.1
   ·rw[aeO h,eh,eh,eh,vL (x:=tC x) (y:=tC y) h,iha];rfl
   ·rw[aeP h,eh,eh,eh,vM (x:=tC x) (y:=tC y) h,ihb];rfl
theorem azU: ∀ {a b:List XC} {z:XC},z∈GV a b↔z∈a∨z∈b:=by
 intro a;induction a with
 |nil=>intro b z;simp [GV]
 |cons x a iha=>
  intro b;induction b with
  |nil=>intro z;rw[VG];simp
  |cons y b ihb=>
   intro z;by_cases h:x.1≤y.1
   ·rw[aeO h,aw,iha,aw,aw];constructor
    ·rintro (h|h|h|h)
     ·exact .inl (.inl h)
     ·exact .inl (.inr h)
     ·exact .inr (.inl h)
     ·exact .inr (.inr h)
    ·rintro ((h|h)|h|h)
     ·exact .inl h
     ·exact .inr (.inl h)
     ·exact .inr (.inr (.inl h))
     ·exact .inr (.inr (.inr h))
   ·rw[aeP h,aw,ihb,aw,aw];constructor
    ·rintro (h|(h|h)|h)
     ·exact .inr (.inl h)
     ·exact .inl (.inl h)
     ·exact .inl (.inr h)
     ·exact .inr (.inr h)
    ·rintro ((h|h)|h|h)
     ·exact .inr (.inl (.inl h))
     ·exact .inr (.inl (.inr h))
     ·exact .inl h
     ·exact .inr (.inr h)
theorem aiV (a b:List XC):(GV a b).length=a.length+b.length:=by
 have h:=congrArg ni (aiU a b);rw[jj,xR,jj,jj] at h;exact h
def eT (F:List Int):Prop:=F.length≤320∧ ∀ f∈F,0≤f∧f≤1048576
def GW:List Int→Int
 |[]=>0
 |f::F=>if f<0 then 1 else if 1048576<f then 2 else GW F
def xU (F:List Int):Int:=if 320<F.length then 2 else GW F
theorem azV {F:List Int} {k:Nat} {f:Int} (hf:F[k]? =some f):GW (F.drop k)=if f<0 then 1 else if 1048576<f then 2 else GW (F.drop (k+1)):=by
 obtain⟨h2,h3⟩:=ah.1 hf;rw[cu h2,h3,GW]
theorem RY: ∀ {F:List Int},GW F=0↔ ∀ f∈F,0≤f∧f≤1048576
 |[]=>by simp [GW]
 |f::F=>by
  rw[GW];split
  ·constructor
   ·intro h;cases h
   ·intro h;have:=h f bc;omega
  ·split
   ·constructor
    ·intro h;cases h
    ·intro h;have:=h f bc;omega
   ·rw[RY];constructor
    ·intro h x hx;rcases aw.1 hx with rfl|hx
     ·omega
     ·exact h x hx
    ·exact fun h x hx=>h x (ax _ hx)
theorem mW {F:List Int}:xU F=0↔eT F:=by
 unfold xU eT;split
 ·constructor
  ·intro h;cases h
  ·intro h;omega
 ·rw[RY];exact⟨fun h=>⟨by omega,h⟩,fun h=>h.2⟩
attribute [local irreducible] box own sl gH aH bC Qt cJ cG dC dG eO
theorem bH (q:Option Addr) (c:Nat) (F:List Int) (hl:F.length≤1000000000000000):
  Ct Tryz.prog 349 [.slice q F.length c] [sl 1 (.slice q F.length c) (F.map fI)] fun v H'=>v= .int .i64 (xU F)∧H'=[]:=by
 by_cases h:320<F.length
 ·have e:xU F=2:=by unfold xU;rw[if_pos h]
  rw[e];(refine Ye Tryz.func349 Tryz.ntmps349 ?_;intro Fr);refine aZ ?_;exact Ea (x:=⟨rfl,rfl⟩)
 ·have e:xU F=GW F:=by unfold xU;rw[if_neg h]
  rw[e];(refine Ye Tryz.func349 Tryz.ntmps349 ?_;intro Fr);refine aZ ?_;(refine cK (σ:=Nat) (fun k=>k≤F.length∧GW F=GW (F.drop k)) (fun k=>[(10, .int .i64 (k:Int))]) (fun k=>F.length-k) (0) (by exact⟨fg _,rfl⟩) (by exact gA) (fun k ⟨hk,hb⟩=> ?_);refine Da ?_);rcases iJ F k with⟨f,hf,hlt⟩|hge
  ·have h1:=azV hf;rw[←hb] at h1;rcases ng f 0 with g|g
   ·rw[if_pos g] at h1;refine aZ ?_;exact Ea (x:=⟨by rw[h1],rfl⟩)
   ·rw[if_neg (by omega)] at h1;rcases ng 1048576 f with g2|g2
    ·rw[if_pos g2] at h1;refine aZ ?_;exact Ea (x:=⟨by rw[h1],rfl⟩)
    ·rw[if_neg (by omega)] at h1;refine aZ ?_;refine Ee (k+1) ?_ ?_
     ·exact⟨hlt,h1⟩
     ·omega
  ·have h1:GW F=0:=by rw[hb,mc hge];rfl
   refine aZ ?_;exact Ea (x:=⟨by rw[h1],rfl⟩)
theorem aeQ (qa qb:Option Addr) (ca cb:Nat) (X Y:List XC) (hX:X.length≤1000000) (hY:Y.length≤1000000):
  Ct Tryz.prog 353 [.slice qa X.length ca, .slice qb Y.length cb] [sl 2 (.slice qa X.length ca) (X.map fX),sl 2 (.slice qb Y.length cb) (Y.map fX)]
   fun v H'=> ∃ q c,v= .slice q (GV X Y).length c∧H'=[own (.slice q (GV X Y).length c) 437 2 (GV X Y).length (flat fX (GV X Y))]:=by
 have hone:=xT;(refine Ye Tryz.func353 Tryz.ntmps353 ?_;intro Fr);refine aZ ?_;refine aT (aY _ 437 2) ?_;(refine aC (σ:=List XC×Option Addr×Nat×List XC×Option Addr×Nat×List XC×Option Addr×Nat) (fun s=>(GV X Y=s.2.2.2.2.2.2.1++GV s.1 s.2.2.2.1)∧(s.1.length≤1000000∧s.2.2.2.1.length≤1000000)) (fun s=>[(0, .slice s.2.1 s.1.length s.2.2.1),(1, .slice s.2.2.2.2.1 s.2.2.2.1.length s.2.2.2.2.2.1),(5, .slice s.2.2.2.2.2.2.2.1 s.2.2.2.2.2.2.1.length s.2.2.2.2.2.2.2.2)]) (fun s=>[own (.slice s.2.2.2.2.2.2.2.1 s.2.2.2.2.2.2.1.length s.2.2.2.2.2.2.2.2) 437 2 s.2.2.2.2.2.2.1.length (flat fX s.2.2.2.2.2.2.1),sl 2 (.slice s.2.1 s.1.length s.2.2.1) (s.1.map fX),sl 2 (.slice s.2.2.2.2.1 s.2.2.2.1.length s.2.2.2.2.2.1) (s.2.2.2.1.map fX)]) _ (fun s=>s.1.length+s.2.2.2.1.length) ((X,qa,ca,Y,qb,cb,[],none,0)) (by exact⟨rfl,hX,hY⟩) (by exact gA) Zb (fun⟨xs,q1,c1,ys,q2,c2,zs,q,c⟩ ⟨hI,hx,hy⟩=> ?_);refine Da ?_);dsimp only at hI hx hy;have hzl:zs.length+xs.length+ys.length≤2000000:=by
  have h1:=congrArg ni hI;rw[ag,aiV,aiV] at h1;omega
 rcases ei xs.length with h0|h0
 ·have hxn:xs=[]:=ml h0;have hfin:GV X Y=zs++xs++ys:=by rw[hI,hxn,jc];rfl
  rw[hfin];clear hI hfin hxn;refine aZ ?_;(refine aI wt rfl (gJ (cnt:=0) (f:=fX) (ys:=xs) rfl rfl rfl aN aN (by intro _;rfl) xT rfl (by omega) Zh) ?_;rintro _ _ ⟨q3,c3,rfl,rfl⟩);refine eU ?_;(refine aI wt rfl (gJ (cnt:=0) (f:=fX) (ys:=ys) rfl rfl rfl aN aN (by intro _;rfl) xT rfl (by omega) Zh) ?_;rintro _ _ ⟨q4,c4,rfl,rfl⟩);rw[←mV, ←mV, ←ag, ←ag];refine eU ?_;exact Ea (x:=⟨_,_,rfl,rfl⟩)
 ·rcases ei ys.length with g0|g0
  ·have hyn:ys=[]:=ml g0;have hfin:GV X Y=zs++xs++ys:=by rw[hI,hyn,jc,VG]
   rw[hfin];clear hI hfin hyn;refine aZ ?_;(refine aI wt rfl (gJ (cnt:=0) (f:=fX) (ys:=xs) rfl rfl rfl aN aN (by intro _;rfl) xT rfl (by omega) Zh) ?_;rintro _ _ ⟨q3,c3,rfl,rfl⟩);refine eU ?_;(refine aI wt rfl (gJ (cnt:=0) (f:=fX) (ys:=ys) rfl rfl rfl aN aN (by intro _;rfl) xT rfl (by omega) Zh) ?_;rintro _ _ ⟨q4,c4,rfl,rfl⟩);rw[←mV, ←mV, ←ag, ←ag];refine eU ?_;exact Ea (x:=⟨_,_,rfl,rfl⟩)
  ·obtain⟨x,hx0⟩: ∃ x,xs[0]? =some x:=⟨_,aj h0⟩;obtain⟨y,hy0⟩: ∃ y,ys[0]? =some y:=⟨_,aj g0⟩;have ex:xs=x::xs.drop 1:=by
    cases xs with
    |nil=>cases hx0
    |cons a l=>cases hx0;rfl
   have ey:ys=y::ys.drop 1:=by
    cases ys with
    |nil=>cases hy0
    |cons a l=>cases hy0;rfl
   have dx:(xs.drop 1).length=xs.length-1:=eu;have dy:(ys.drop 1).length=ys.length-1:=eu;by_cases hxy:x.1≤y.1
   ·have hN:GV X Y=(zs++[x])++GV (xs.drop 1) ys:=by
     rw[hI,ex,ey,aeO hxy, ←ey,ep];rfl
    clear hI ex ey;refine dN ?_;(refine aB (Hq:=[_,_]) [1,2] [] rfl (by kernel_rfl) Za ?_);refine pT ?_;(refine aB (Hq:=[_,_]) [1,2] [] rfl (by kernel_rfl) Za ?_);refine gX ?_;(refine aA 7 ?_;refine aU _ rfl rfl wt (by decide +kernel) iS rfl (qQ (i:=1) rfl rfl rfl rfl (by omega)) ?_);(refine aA 4 ?_;refine Oa (l:=by exact aM rfl rfl rfl (by exact lE) rfl rfl (by decide) rfl) (k:= ?_);rintro _ _ ⟨q3,rfl,rfl⟩;refine Te ?_;(try refine Da ?_));(refine aA 5 ?_;refine Oa (l:=by exact (by first|exact Ma (fX) [x] rfl|exact Mb (fX) [x] rfl)) (k:= ?_);rintro _ _ ⟨q4,c4,rfl,rfl⟩;refine Te ?_;(try refine Da ?_));refine pT ?_;refine lC (jB.refl _) (zT (i:=1) (q:=q1) (N:=xs.length) (xs:=xs) aN rfl (by omega)) ?_;rw[←dx];refine Ee ((xs.drop 1,DF q1 1 c1 2,c1-1,ys,q2,c2,zs++[x],q4,c4)) ?_ ?_
    ·exact⟨hN,by dsimp only;omega,hy⟩
    ·dsimp only;omega
   ·have hN:GV X Y=(zs++[y])++GV xs (ys.drop 1):=by
     rw[hI,ex,ey,aeP hxy, ←ex,ep];rfl
    clear hI ex ey;refine dN ?_;(refine aB (Hq:=[_,_]) [1,2] [] rfl (by kernel_rfl) Za ?_);refine pT ?_;(refine aB (Hq:=[_,_]) [1,2] [] rfl (by kernel_rfl) Za ?_);refine gX ?_;(refine aA 7 ?_;refine aU _ rfl rfl wt (by decide +kernel) iS rfl (qQ (i:=1) rfl rfl rfl rfl (by omega)) ?_);(refine aA 4 ?_;refine Oa (l:=by exact aM rfl rfl rfl (by exact lE) rfl rfl (by decide) rfl) (k:= ?_);rintro _ _ ⟨q3,rfl,rfl⟩;refine Te ?_;(try refine Da ?_));(refine aA 5 ?_;refine Oa (l:=by exact (by first|exact Ma (fX) [y] rfl|exact Mb (fX) [y] rfl)) (k:= ?_);rintro _ _ ⟨q4,c4,rfl,rfl⟩;refine Te ?_;(try refine Da ?_));refine pT ?_;refine lC (jB.refl _) (zT (i:=1) (q:=q2) (N:=ys.length) (xs:=ys) aN rfl (by omega)) ?_;rw[←dy];refine Ee ((xs,q1,c1,ys.drop 1,DF q2 1 c2 2,c2-1,zs++[y],q4,c4)) ?_ ?_
    ·exact⟨hN,hx,by dsimp only;omega⟩
    ·dsimp only;omega
end Go.Proofs.YtbjalbcdbgcgdaaGreat.dB
namespace Go.Proofs.YtbjalbcdbgcgdaaGreat.dB
open Go.RowKit bG sl srt nJ pm
theorem VH {x:XC} {tab:List XC} (h:x∈tab):(slV x,(sI x).map fI)∈tab.map aeN:=List.mem_map_of_mem (f:=aeN) h
theorem aeR (a b:XC) (l:List XC):fN ((a::b::l).map tC)=(a.1+b.1,a.2.1++b.2.1)::fN (l.map tC):=rfl
attribute [local irreducible] box own sl gH aH bC Qt cJ cG dC dG eO
theorem auD (q:Option Addr) (w:Int) (a b:XC) (ha:a.2.1.length≤1000000) (hb:b.2.1.length≤1000000):Ct Tryz.prog 358 [.slice q 2 2] [own (.slice q 2 2) 23 1 2 [slV a,slV b],sl 1 (slV a) ((sI a).map fI),sl 1 (slV b) ((sI b).map fI)] fun v H'=> ∃ q' c',v= .slice q' (a.2.1++b.2.1).length c'∧H'=[mU (w,a.2.1++b.2.1,q',c')]:=
 adH (Go.Proofs.YtbjalbcdbgcgdaaGreat.ints.amL q 23 (slV a) (slV b) (sI a) (sI b) (by unfold sI;rw[jj,jj];omega)) fun v H' ⟨q',c',h1,h2⟩=>by
  have e:sI a++sI b=sI (w,a.2.1++b.2.1,q',c'):=by unfold sI;rw[mw]
  have el:(sI a++sI b).length=(a.2.1++b.2.1).length:=by unfold sI;simp
  rw[el] at h1 h2;rw[e] at h2;exact⟨q',c',h1,h2⟩
theorem amQ (qa:Option Addr) (ca:Nat) (X tab:List XC) (hX:X.length≤1000000) (hm: ∀ x∈X,x∈tab) (hw: ∀ x∈X,0≤x.1∧x.1≤1000000000000) (hs: ∀ x∈X,x.2.1.length≤1000000):
  Ct Tryz.prog 354 [.slice qa X.length ca] [sl 2 (.slice qa X.length ca) (X.map fX),many 1 (tab.map aeN)]
   fun v H'=> ∃ (ys:List XC) (q:Option Addr) (c:Nat),ys.map tC=fN (X.map tC)∧v= .slice q ys.length c∧H'=[own (.slice q ys.length c) 437 2 ys.length (flat fX ys),kM (ys.reverse.map mU)]:=by
 have hone:=xT;(refine Ye Tryz.func354 Tryz.ntmps354 ?_;intro Fr);refine aZ ?_;refine aT (aY _ 437 2) ?_;refine aT (xM _) ?_;(refine aC (σ:=Nat×List XC×Option Addr×Nat) (fun s=>(s.1=2*s.2.1.length∧s.1≤X.length+1)∧fN (X.map tC)=s.2.1.map tC++fN ((X.drop s.1).map tC)) (fun s=>[(4, .int .i64 (s.1:Int)),(3, .slice s.2.2.1 s.2.1.length s.2.2.2)]) (fun s=>[own (.slice s.2.2.1 s.2.1.length s.2.2.2) 437 2 s.2.1.length (flat fX s.2.1),kM (s.2.1.reverse.map mU)]) _ (fun s=>X.length+1-s.1) ((0,[],none,0)) (by exact⟨⟨rfl,fg _⟩,rfl⟩) (by exact gA) Zb (fun⟨i,ys,q,c⟩ ⟨⟨hi,hi2⟩,hI⟩=> ?_);refine Da ?_);dsimp only at hi hi2 hI;by_cases hlt:i+1<X.length
 ·obtain⟨a,hxa⟩: ∃ x,X[i]? =some x:=⟨_,aj (by omega)⟩;obtain⟨b,hxb⟩: ∃ x,X[i+1]? =some x:=⟨_,aj (by omega)⟩;have ed:X.drop i=a::b::X.drop (i+2):=by
   obtain⟨h1,h2⟩:=ah.1 hxa;obtain⟨h3,h4⟩:=ah.1 hxb;rw[cu h1,h2,cu h3,h4]
  have hma:=hm a (jm hxa);have hmb:=hm b (jm hxb);have hwa:=hw a (jm hxa);have hwb:=hw b (jm hxb);have hla:=VH hma;have hlb:=VH hmb;have CC:=fun q=>auD q (a.1+b.1) a b (hs a (jm hxa)) (hs b (jm hxb))
  rw[ed,aeR] at hI;have hi1:(i:Int)+1=((i+1:Nat):Int):=by omega
  have hi2':(i:Int)+2=((i+2:Nat):Int):=by omega
  clear ed;refine dN ?_;refine nQ 0 (σ:=Nat×Nat) (fun _=>True) (fun y=>[(5,aH y.1 0),(6,aH y.2 0)]) (fun y=>[box y.1 (fX a) 437,box y.2 (fX b) 437]) ?_ ?_<;>dsimp only[List.drop]
  ·(refine aB (Hq:=[_]) [2] [] rfl (by kernel_rfl) Za ?_);refine gX ?_;(refine aA 9 ?_;refine cU 10 (by kernel_rfl) ?_ ?_)
   ·(refine Oc (l:=by exact iI rfl) (k:= ?_);rintro _ _ ⟨b1,rfl,rfl⟩;refine Te ?_;(try refine Da ?_));(repeat' (first|refine Wk ?_|(refine Wb ?_;intro b)|fail));exact pH ((_,_)) (by trivial) (jB.of gA) yP
   ·(refine Oc (l:=by exact iI rfl) (k:= ?_);rintro _ _ ⟨b2,rfl,rfl⟩;refine Te ?_;(try refine Da ?_));(repeat' (first|refine Wk ?_|(refine Wb ?_;intro b)|fail));exact pH ((_,_)) (by trivial) (jB.of gA) yP
  ·rintro⟨b5,b6⟩ _;refine Da ?_;refine eU ?_;(refine aB (Hq:=[_,_]) [0,1] [] rfl (by kernel_rfl) Za ?_);refine gX ?_;(refine aA 10 ?_;refine Oa (l:=by exact aM rfl rfl rfl (by exact lE) rfl rfl (by decide) rfl) (k:= ?_);rintro _ _ ⟨q3,rfl,rfl⟩;refine Te ?_;(try refine Da ?_));(refine aA 11 ?_;refine gW _ (by rfl) (by rfl) (by kernel_rfl) wt (by rfl) (aV rfl (CC _) rfl (Lp.out aN (Lp.view (mL _ _ _) (Lp.view (mL _ _ _) Lp.nil (RF aN hlb)) (RF aN hla)))) ?_;rintro _ _ ⟨_,⟨q4,c4,rfl,rfl⟩,rfl⟩;refine⟨(by first|exact fun h=>absurd h (by decide)|exact fun _=>iS), ?_⟩;(try dsimp only[jg,fe]));refine gX ?_;(refine aA 13 ?_;refine Oa (l:=by exact aM rfl rfl rfl (by exact lE) rfl rfl (by decide) rfl) (k:= ?_);rintro _ _ ⟨q5,rfl,rfl⟩;refine Te ?_;(try refine Da ?_));(refine aA 14 ?_;refine Oa (l:=by exact (by first|exact Ma (fX) [((a.1+b.1,a.2.1++b.2.1,q4,c4):XC)] rfl|exact Mb (fX) [((a.1+b.1,a.2.1++b.2.1,q4,c4):XC)] rfl)) (k:= ?_);rintro _ _ ⟨q6,c6,rfl,rfl⟩;refine Te ?_;(try refine Da ?_));refine pT ?_;rw[hi2'];refine lC (jB.refl _) (DC (e:=mU (a.1+b.1,a.2.1++b.2.1,q4,c4)) aN aN (auC _)) ?_;rw[show mU (a.1+b.1,a.2.1++b.2.1,q4,c4)::ys.reverse.map mU=((ys++[((a.1+b.1,a.2.1++b.2.1,q4,c4):XC)]).reverse).map mU by rw[List.reverse_append];rfl];refine Ee ((i+2,ys++[(a.1+b.1,a.2.1++b.2.1,q4,c4)],q6,c6)) ?_ ?_
   ·refine⟨⟨by dsimp only;rw[ag,List.length_singleton];omega,by dsimp only;omega⟩, ?_⟩;rw[hI,mw,ep];rfl
   ·dsimp only;omega
 ·have hd:fN ((X.drop i).map tC)=[]:=by
   have hl:(X.drop i).length=X.length-i:=eu;rcases hdr:X.drop i with _|⟨a,_|⟨b,l⟩⟩
   ·rfl
   ·rfl
   ·rw[hdr] at hl;simp only[List.length_cons] at hl;omega
  rw[hd,jc] at hI;clear hd;refine aZ ?_;exact Ea (x:=⟨ys,q,c,hI.symm,rfl,rfl⟩)
end Go.Proofs.YtbjalbcdbgcgdaaGreat.dB
namespace Go.Proofs.YtbjalbcdbgcgdaaGreat.dB
open Go.RowKit bG sl srt nJ pm
instance aHF:Key dQ:=⟨fun c=>c.1⟩
theorem aiW (x:XC): ∀ l:List XC,(ins x l).map tC=ins (tC x) (l.map tC)
 |[]=>rfl
 |y::l=>by
  rw[ins,eh,ins];by_cases h:kf x≤kf y
  ·rw[if_pos h,if_pos (show kf (tC x)≤kf (tC y) from h)];rfl
  ·rw[if_neg h,if_neg (show ¬ kf (tC x)≤kf (tC y) from h),eh,aiW x l]
theorem ZX: ∀ l:List XC,(aK l).map tC=aK (l.map tC)
 |[]=>rfl
 |x::l=>by rw[aK,aiW,ZX l];rfl
theorem ZY {α:Type} [Key α] (x:α): ∀ l:List α,(ins x l).Perm (x::l)
 |[]=>gj _
 |y::l=>by
  rw[ins];split
  ·exact gj _
  ·exact ((ZY x l).cons y).trans (List.Perm.swap x y l)
theorem xV {α:Type} [Key α]: ∀ l:List α,(aK l).Perm l
 |[]=>gj _
 |x::l=>(ZY x _).trans ((xV l).cons x)
def wF (F:List Int) (i:Nat):Int:=F.getD i 0
def eF (F:List Int) (n:Nat):List Nat:=(jn n).filter fun i=>decide (0<wF F i)
theorem MB {F:List Int} {n:Nat} (h:0<wF F n):eF F (n+1)=eF F n++[n]:=by
 unfold eF;rw[nf,l8];simp [h]
theorem MD {F:List Int} {n:Nat} (h: ¬ 0<wF F n):eF F (n+1)=eF F n:=by
 unfold eF;rw[nf,l8];simp [h]
def pX (F:List Int):List Nat:=(aK (single (wF F) (eF F F.length))).map fun c=>c.2.headD 0
theorem ME (F:List Int):aK (single (wF F) (eF F F.length))=single (wF F) (pX F):=by
 unfold pX;have h: ∀ c∈aK (single (wF F) (eF F F.length)),c=(wF F (c.2.headD 0),[c.2.headD 0]):=fun c hc=>by
  obtain⟨i,_,rfl⟩:=fu.1 ((xV _).mem_iff.1 hc);rfl
 generalize aK (single (wF F) (eF F F.length))=l at h;unfold single;rw[nb];induction l with
 |nil=>rfl
 |cons c l ih=>
  rw[eh, ←ih fun d hd=>h d (ax _ hd)];congr 1;exact h c bc
theorem AR (F:List Int):(pX F).Perm (eF F F.length):=by
 have h:=(xV (single (wF F) (eF F F.length))).map fun c=>c.2.headD 0
 have e:(single (wF F) (eF F F.length)).map (fun c=>c.2.headD 0)=eF F F.length:=by
  unfold single;rw[nb];exact List.map_id' _
 rw[e] at h;exact h
theorem RZ (F:List Int) (n:Nat):(eF F n).Nodup:=List.nodup_range.filter _
theorem vP {F:List Int} {n i:Nat}:i∈eF F n↔i<n∧0<wF F i:=by
 unfold eF;rw[List.mem_filter,List.mem_range,decide_eq_true_eq]
theorem VI (F:List Int) (n:Nat):(eF F n).length≤n:=by
 have:=List.length_filter_le (fun i=>decide (0<wF F i)) (jn n);rwa [List.length_range] at this
def xW (N:Nat) (S:List Nat):List Int:=(jn N).map fun i=>((kr i S:Nat):Int)
theorem IU (N:Nat) (S:List Nat):(xW N S).length=N:=by simp [xW]
theorem DS {N i:Nat} (S:List Nat) (h:i<N):(xW N S)[i]? =some ((kr i S:Nat):Int):=by
 unfold xW;rw[al,na h];rfl
theorem VJ (N:Nat):xW N []=List.replicate N 0:=by
 unfold xW;apply da;intro k;rw[al,List.getElem?_replicate];rcases iq k N with h|h
 ·rw[na h,if_pos h];rfl
 ·rw[dz (by simpa using h),if_neg (by omega)];rfl
theorem aiX {N i:Nat} (S:List Nat) (h:i<N):(xW N S).set i (((kr i S:Nat):Int)+1)=xW N (S++[i]):=by
 apply da;intro k;rw[List.getElem?_set];rcases iq k N with hk|hk
 ·by_cases e:i=k
  ·subst e;rw[if_pos rfl,if_pos (by rw[IU];exact h),DS _ h];simp [nd]
  ·rw[if_neg e,DS _ hk,DS _ hk];simp [nd,e]
 ·rw[dz (by rw[IU];exact hk),if_neg (by omega),dz (by rw[IU];exact hk)]
def dL (F:List Int) (most:Int):Int:=if xU F≠0 then xU F else if most<1∨15<most then 1 else if 2^most.toNat<(eF F F.length).length then 6 else 0
def iW (F:List Int) (most:Int):List Int:=if (pX F).length<2 then xW F.length (eF F F.length) else xW F.length (cF ((lists (single (wF F) (pX F)) (most.toNat-1)).take (2*(pX F).length-2)))
theorem qZ (F:List Int) (most:Int):(iW F most).length=F.length:=by unfold iW;split<;>exact IU _ _
theorem xX {F:List Int} {most:Int} (h:dL F most=0):eT F∧1≤most∧most≤15∧(eF F F.length).length≤2^most.toNat:=by
 unfold dL at h;split at h
 ·rename_i h1;exact absurd h h1
 ·rename_i h1;split at h
  ·cases h
  ·split at h
   ·cases h
   ·exact⟨mW.1 (by simpa using h1),by omega,by omega,by omega⟩
def VK (N k:Nat) (c:dQ):Prop:=(c.2.length≤2^k∧ ∀ i∈c.2,i<N)∧0≤c.1∧c.1≤1048576*((2^k:Nat):Int)
theorem azW {N k:Nat} {c:dQ} (h:VK N k c):VK N (k+1) c:=by
 obtain⟨⟨h1,h2⟩,h3,h4⟩:=h;have e:(2:Nat)^(k+1)=2^k*2:=gu 2 k;have:=Nat.two_pow_pos k;exact⟨⟨by omega,h2⟩,h3,by rw[e];omega⟩
theorem aeS {N k:Nat}: ∀ l:List dQ,(∀ c∈l,VK N k c)→ ∀ c∈fN l,VK N (k+1) c:=by
 refine kV (fun _ c hc=>by cases hc) (fun _ _ c hc=>by cases hc) fun a b l ih h c hc=> ?_
 rw[fN] at hc;rcases aw.1 hc with rfl|hc
 ·obtain⟨⟨a1,a2⟩,a3,a4⟩:=h a bc;obtain⟨⟨b1,b2⟩,b3,b4⟩:=h b (ax _ bc);have e:(2:Nat)^(k+1)=2^k*2:=gu 2 k;refine⟨⟨?_,fun i hi=> ?_⟩, ?_, ?_⟩
  ·dsimp only;rw[ag];omega
  ·rcases ft.1 hi with hi|hi
   ·exact a2 i hi
   ·exact b2 i hi
  ·dsimp only;omega
  ·dsimp only;rw[e];omega
 ·exact ih (fun c hc=>h c (ax _ (ax _ hc))) c hc
theorem MF {N:Nat} {s:List dQ} (h: ∀ c∈s,VK N 0 c): ∀ k, ∀ c∈lists s k,VK N k c
 |0=>h
 |k+1=>fun c hc=>by
  have hs: ∀ k, ∀ c∈s,VK N k c:=fun k=>by
   induction k with
   |zero=>exact h
   |succ k ih=>exact fun c hc=>azW (ih c hc)
  rcases ft.1 ((jI _ _).mem_iff.1 hc) with hc|hc
  ·exact hs (k+1) c hc
  ·exact aeS _ (MF h k) c hc
theorem FQ (s:List dQ): ∀ k,(lists s k).length≤2*s.length
 |0=>by rw[lists];omega
 |k+1=>by
  have:=FQ s k;rw[DO];omega
theorem ZZ {F:List Int} (h:eT F): ∀ c∈single (wF F) (pX F),VK F.length 0 c:=fun c hc=>by
 obtain⟨i,hi,rfl⟩:=fu.1 hc;obtain⟨h1,h2⟩:=vP.1 ((AR F).mem_iff.1 hi);obtain⟨f,hf⟩: ∃ f,F[i]? =some f:=⟨_,aj h1⟩;have e:wF F i=f:=by unfold wF;rw[List.getD_eq_getElem?_getD,hf];rfl
 have hg:=h.2 f (jm hf);refine⟨⟨aq _,fun j hj=>by rw[List.mem_singleton.1 hj];exact h1⟩, ?_, ?_⟩
 ·dsimp only;omega
 ·dsimp only;rw[e,Nat.pow_zero];omega
end Go.Proofs.YtbjalbcdbgcgdaaGreat.dB
