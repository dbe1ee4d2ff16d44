/- Law HandStale: its texts, packed. -/
import Derived.Test.YtbjalbcdbgcgdaaGreatK12
import Derived.Test.YtbjalbcdbgcgdaaGreatK07
import Derived.Test.YtbjalbcdbgcgdaaGreatK05
import Derived.Maps.Own
import Derived.Maps.OwnSet
import Derived.MapKept
import Derived.WideKeyPair
import Derived.WideKeyEntry
import Derived.Test.YtbjalbcdbgcgdaaGreatK06
open List renaming append_assoc->ep,append_nil->jc,cons_append->jg,drop_eq_getElem_cons->cu,getElem?_eq_getElem->aj,getElem?_eq_some_iff->ah,getElem?_of_mem->je,mapM_cons->jd,mem_cons->aw,mem_cons_of_mem->ax,mem_cons_self->bc,mem_map->fu,mem_map_of_mem->jf,not_mem_nil->fj,pairwise_cons->au
open Nat renaming lt_or_ge->iq,zero_le->fg
open Int renaming eq_ofNat_of_zero_le->iy
open Option renaming some.injEq->bd
open UInt8 renaming toNat_inj->iu
open Decidable renaming byContradiction->jh
set_option linter.unusedVariables false
set_option maxRecDepth 100000
set_option maxHeartbeats 8000000
namespace Go.Proofs.YtbjalbcdbgcgdaaGreat.use
open Go.RowKit bG sl aX fV dE dO
abbrev Item:=Int×Nat
def iK (cs:Cells) (ps:dK) (n:Int):List (Int×Int)→Nat→Option (List Item)
 |[],_=>some []
 |p::t,k=>if p.1=0 then iK cs ps n t (k+1) else if (gZ cs ps n (k:Int) p).2=0 then (iK cs ps n t (k+1)).map ((p.1,(gZ cs ps n (k:Int) p).1.length):: ·) else none
def KP (cs:Cells) (ps:dK) (p:Int×Int) (g:Int) (n:Nat):Option (List Item):=
 if p.1=0 then some [] else match nR cs ps p g (n:Int) with
 |none=>none
 |some l=>(iK cs ps (n:Int) (pI l) 0).map ((p.1,l.length):: ·)
def its (cs:Cells) (ps:dK):List (Int×Int)→List Int→Nat→Option (List Item)
 |p::at',g::aE,n=>match KP cs ps p g n with
  |none=>none
  |some a=>(its cs ps at' aE (n+1)).map (a++ ·)
 |_,_,_=>some []
theorem ahX (cs:Cells) (ps:dK) (aE:List Int) (n:Nat):its cs ps [] aE n=some []:=by cases aE<;>rfl
theorem map_nil (o:Option (List Item)):o=o.map (([]:List Item)++ ·):=by cases o<;>rfl
def pB:List Item→Nat
 |[]=>0
 |x::L=>x.2+pB L
theorem pN (a b:List Item):pB (a++b)=pB a+pB b:=by
 induction a with
 |nil=>simp [pB]
 |cons x a ih=>rw[jg,pB,pB,ih,Nat.add_assoc]
def cN (F:Nat→Nat):List Item→Nat→Nat
 |[]=>F
 |x::L=>cN (fJ F x.1.toNat (F x.1.toNat+x.2)) L
theorem KQ (F:Nat→Nat) (a b:List Item):cN F (a++b)=cN (cN F a) b:=by
 induction a generalizing F with
 |nil=>rfl
 |cons x a ih=>rw[jg,cN,cN,ih]
theorem RE (L:List Item): ∀ (F:Nat→Nat) (j:Nat),cN F L j≤F j+pB L:=by
 induction L with
 |nil=>intro F j;exact Nat.le_refl _
 |cons x L ih=>
  intro F j;have:=ih (fJ F x.1.toNat (F x.1.toNat+x.2)) j;rw[cN,pB];unfold fJ at this ⊢;split at this
  ·rename_i h;subst h;omega
  ·omega
theorem alN (cs:Cells) (ps:dK) (n k:Int) (p:Int×Int):(gZ cs ps n k p).1.length≤600:=by
 unfold gZ;split
 ·exact DA cs ps p
 ·exact fg _
theorem uC {cs:Cells} {ps:dK} {p:Int×Int} {g n:Int} {l:List UInt8} (h:nR cs ps p g n=some l):(bS cs ps p).2=0∧(bS cs ps p).1.1=2∧(bS cs ps p).1.2.1=n∧pM l∧gI l=g∧(bS cs ps p).1.2.2.2=l∧l.length≤600:=by
 unfold nR at h;split at h
 ·rename_i h2;cases h;exact⟨h2.1,h2.2.1,h2.2.2.1,h2.2.2.2.1,h2.2.2.2.2,rfl,DA cs ps p⟩
 ·cases h
theorem ayW {cs:Cells} {ps:dK} {n k:Int} {p:Int×Int} (h:(gZ cs ps n k p).2=0):(bS cs ps p).2=0∧(bS cs ps p).1.1=1∧(bS cs ps p).1.2.1=n∧(bS cs ps p).1.2.2.1=k∧(gZ cs ps n k p).1=(bS cs ps p).1.2.2.2:=by
 unfold gZ at h ⊢;split at h
 ·rename_i h2;rw[if_pos h2];exact⟨h2.1,h2.2.1,h2.2.2.1,h2.2.2.2,rfl⟩
 ·cases h
theorem asI {cs:Cells} {ps:dK} {at':List (Int×Int)} {aE:List Int} {i:Nat} {p:Int×Int} {g:Int} (hp:at'[i]? =some p) (hg:aE[i]? =some g):its cs ps (at'.drop i) (aE.drop i) i=match KP cs ps p g i with|none=>none|some a=>(its cs ps (at'.drop (i+1)) (aE.drop (i+1)) (i+1)).map (a++ ·):=by
 obtain⟨h1,e1⟩:=ah.1 hp;obtain⟨h2,e2⟩:=ah.1 hg;rw[cu h1,cu h2,e1,e2,its]
theorem adS {cs:Cells} {ps:dK} {n:Int} {t:List (Int×Int)} {k:Nat} {p:Int×Int} (hp:t[k]? =some p):iK cs ps n (t.drop k) k=if p.1=0 then iK cs ps n (t.drop (k+1)) (k+1) else if (gZ cs ps n (k:Int) p).2=0 then (iK cs ps n (t.drop (k+1)) (k+1)).map ((p.1,(gZ cs ps n (k:Int) p).1.length):: ·) else none:=by
 obtain⟨h1,e1⟩:=ah.1 hp;rw[cu h1,e1,iK]
theorem UO {D a:List Item} {o:Option (List Item)}:(o.map (a++ ·)).map (D++ ·)=o.map ((D++a)++ ·):=by
 cases o with
 |none=>rfl
 |some x=>simp
def KR (cs:Cells) (ps:dK) (at':List (Int×Int)) (aE:List Int) (L:List Item):Prop:=aX.Good cs ps∧dP at' aE∧its cs ps at' aE 0=some L
def adT (cs:Cells) (ps:dK) (at':List (Int×Int)) (aE:List Int) (v:Value) (H':List Ent):Prop:=
 (∃ L q,KR cs ps at' aE L∧v= .tuple #[.slice q cs.length cs.length, .int .i64 0]∧H'=[own (.slice q cs.length cs.length) 3 1 cs.length (flat fI (dX cs.length (cN (fun _=>0) L)))])∨
 ((¬ ∃ L,KR cs ps at' aE L)∧ ∃ e:Int,e≠0∧v= .tuple #[.slice none 0 0, .int .i64 e]∧H'=[])
theorem YV {a w qa qg:Option Addr} {ca cw ca2 cg:Nat} {cs:Cells} {ps:dK} {at':List (Int×Int)} {aE:List Int} {i:Nat} {p:Int×Int} {g:Int} (hp:at'[i]? =some p) (hgi:aE[i]? =some g) (hl:at'.length≤1000) (hg:aX.Good cs ps) {l:List UInt8} (h:nR cs ps p g (i:Int)=some l):Ct Tryz.prog 111 [.agg #[.slice a cs.length ca, .slice w ps.length cw], .agg #[.slice qa at'.length ca2, .slice qg aE.length cg], .int .i64 (i:Int)] [sl 1 (.slice a cs.length ca) (cs.map fS),sl 2 (.slice w ps.length cw) (ps.map fP),sl 2 (.slice qa at'.length ca2) (at'.map jW),sl 1 (.slice qg aE.length cg) (aE.map fI)] fun v H'=> ∃ q c,v= .tuple #[.agg #[.int .i64 (kI l), .int .i64 (gI l), .int .i64 (zI l), .slice q (pI l).length c], .string (str l), .int .i64 0]∧H'=[own (.slice q (pI l).length c) 77 2 (pI l).length (flat jW (pI l))]:=
 eW (RC a w qa qg ca cw ca2 cg cs ps at' aE i p g hp hgi hl hg) fun v H' h2=>by
  rcases h2 with⟨l',q,c,e,h3,h4⟩|⟨e,_⟩
  ·rw[h] at e;cases e;exact⟨q,c,h3,h4⟩
  ·rw[h] at e;cases e
theorem asJ {a w qa qg:Option Addr} {ca cw ca2 cg:Nat} {cs:Cells} {ps:dK} {at':List (Int×Int)} {aE:List Int} {i:Nat} {p:Int×Int} {g:Int} (hp:at'[i]? =some p) (hgi:aE[i]? =some g) (hl:at'.length≤1000) (hg:aX.Good cs ps) (h:nR cs ps p g (i:Int)=none):Ct Tryz.prog 111 [.agg #[.slice a cs.length ca, .slice w ps.length cw], .agg #[.slice qa at'.length ca2, .slice qg aE.length cg], .int .i64 (i:Int)] [sl 1 (.slice a cs.length ca) (cs.map fS),sl 2 (.slice w ps.length cw) (ps.map fP),sl 2 (.slice qa at'.length ca2) (at'.map jW),sl 1 (.slice qg aE.length cg) (aE.map fI)] fun v H'=>v= .tuple #[.agg #[.int .i64 0, .int .i64 0, .int .i64 0, .slice none 0 0], .string (str []), .int .i64 18]∧H'=[]:=
 eW (RC a w qa qg ca cw ca2 cg cs ps at' aE i p g hp hgi hl hg) fun v H' h2=>by
  rcases h2 with⟨l',q,c,e,_⟩|⟨_,h3⟩
  ·rw[h] at e;cases e
  ·exact h3
attribute [local irreducible] box own sl gH aH bC Qt cJ cG dC dG eO
theorem alO (a w qa qg:Option Addr) (ca cw ca2 cg:Nat) (cs:Cells) (ps:dK) (at':List (Int×Int)) (aE:List Int) (hc:cs.length≤maxLen) (hp:ps.length≤maxLen) (hw:WfM at' aE):
  Ct Tryz.prog 48 [.agg #[.slice a cs.length ca, .slice w ps.length cw], .agg #[.slice qa at'.length ca2, .slice qg aE.length cg]] [sl 1 (.slice a cs.length ca) (cs.map fS),sl 2 (.slice w ps.length cw) (ps.map fP),sl 2 (.slice qa at'.length ca2) (at'.map jW),sl 1 (.slice qg aE.length cg) (aE.map fI)] (adT cs ps at' aE):=by
 have C0:=bH a w ca cw cs ps hc hp;by_cases hd:bL cs ps=0
 ·have hgd:=II hd;rw[hd] at C0;by_cases hm:dP at' aE
  ·have M0:=lY (.slice qa at'.length ca2) (.slice qg aE.length cg) hw hm;obtain⟨ha48,hg48,_⟩:=id hm;obtain⟨N,hN⟩: ∃ N,cs.length=N:=⟨_,rfl⟩;have hn1:=hgd.n1;have PT:=fun n k p=>YU a w ca cw cs ps n k p hgd
   have bad: ∀ e:Int,e≠0→its cs ps at' aE 0=none→adT cs ps at' aE (.tuple #[.slice none 0 0, .int .i64 e]) []:=fun e he h=> .inr ⟨fun⟨L,h2⟩=>(by rw[h2.2.2] at h;cases h),e,he,rfl,rfl⟩
   have xL: ∀ L q,its cs ps at' aE 0=some L→adT cs ps at' aE (.tuple #[.slice q N N, .int .i64 0]) [own (.slice q N N) 3 1 N (flat fI (dX N (cN (fun _=>0) L)))]:=fun L q h=> .inl ⟨L,q,⟨hgd,hm,h⟩,by rw[hN],by rw[hN]⟩
   (refine Ye Tryz.func48 Tryz.ntmps48 ?_;intro Fr);(repeat' (first|refine Wa ?_|refine We ?_|(refine Wb ?_;intro b)|refine Wc (C0 ..) ?_|refine Wc (M0 ..) ?_|fail));refine aI wt rfl (cT (fI) (0) (c:=N) rfl rfl rfl Ze Ze rfl rfl (by omega) Zg) ?_;rintro _ _ ⟨q1,rfl,rfl⟩;rw[kT];refine aZ ?_;(refine aC (σ:=Nat×List Item) (fun x=>(x.1≤48∧pB x.2≤400000*x.1)∧its cs ps at' aE 0=(its cs ps (at'.drop x.1) (aE.drop x.1) x.1).map (x.2++ ·)) (fun x=>[(35, .int .i64 (x.1:Int))]) (fun x=>[own (.slice q1 N N) 3 1 N (flat fI (dX N (cN (fun _=>0) x.2)))]) _ (fun x=>48-x.1) ((0,[])) (by exact⟨⟨fg _,fg _⟩,map_nil (its cs ps at' aE 0)⟩) (by exact gA) Zb (fun⟨i,D⟩ ⟨⟨hi,hD⟩,hits⟩=> ?_);refine Da ?_);dsimp only at hi hD hits ⊢;rcases iq i 48 with hlt|hge
   ·obtain⟨⟨px,py⟩,hpi⟩: ∃ p,at'[i]? =some p:=⟨_,aj (by omega)⟩;obtain⟨g,hgi⟩: ∃ g,aE[i]? =some g:=⟨_,aj (by omega)⟩;rw[asI hpi hgi] at hits;unfold KP at hits;by_cases hp0:px=0
    ·subst hp0;rw[if_pos rfl] at hits;dsimp only at hits;rw[UO,jc] at hits;(repeat' (first|refine Wa ?_|refine We ?_|(refine Wb ?_;intro b)|fail));refine Ee ((i+1,D)) ?_ ?_
     ·exact⟨⟨by dsimp only;omega,by dsimp only;omega⟩,hits⟩
     ·dsimp only;omega
    ·rw[if_neg hp0] at hits;cases hino:nR cs ps (px,py) g (i:Int) with
     |none=>
      have I0:=asJ (a:=a) (w:=w) (qa:=qa) (qg:=qg) (ca:=ca) (cw:=cw) (ca2:=ca2) (cg:=cg) hpi hgi (by omega) hgd hino;rw[hino] at hits;(repeat' (first|refine Wa ?_|refine We ?_|(refine Wb ?_;intro b)|refine Wc (I0 ..) ?_|fail));exact Ea (x:=bad 18 (by decide) hits)
     |some l=>
      have I0:=YV (a:=a) (w:=w) (qa:=qa) (qg:=qg) (ca:=ca) (cw:=cw) (ca2:=ca2) (cg:=cg) hpi hgi (by omega) hgd hino;rw[hino] at hits;dsimp only at hits;obtain⟨t1,t2,t3,t4,t5,t6,t7⟩:=uC hino;have hbk:=ahV t1;dsimp only at hbk;obtain⟨c,rfl⟩:=iy (by omega:0≤px);have hcN:c<N:=by omega
      have hpl:(pI l).length≤600:=ahU 600 _ Zk;obtain⟨F,hF⟩: ∃ F,cN (fun _=>0) D=F:=⟨_,rfl⟩;have hFc:F c≤400000*i:=by rw[←hF];have:=RE D (fun _=>0) c;omega
      rw[hF];have gR:(dX N F)[c]? =some ((F c:Nat):Int):=dI _ hcN;have hsum:((F c:Nat):Int)+(l.length:Int)=((F c+l.length:Nat):Int):=by omega
      have hF2:fJ F c (F c+l.length)=cN (fun _=>0) (D++[((c:Int),l.length)]):=by rw[KQ,hF];rfl
      (repeat' (first|refine Wa ?_|refine We ?_|(refine Wb ?_;intro b)|fail));(refine Ca (I0) ?_;rintro _ _ ⟨_,⟨q9,c9,rfl,rfl⟩,rfl⟩;refine Da ?_);(repeat' (first|refine Wa ?_|refine We ?_|(refine Wb ?_;intro b)|fail));rw[hsum];(refine cM wt (aG (f:=fI) (q':=((F c+l.length:Nat):Int)) rfl rfl rfl rfl (by exact aN) rfl (by omega) (by intro _;rfl) (by assumption) rfl rfl (by rfl)) ?_;rintro _ _ ⟨rfl,rfl⟩);rw[fK _ _ hcN,hF2];refine aZ ?_;rw[show D++[((c:Int),l.length)]=D++[((c:Int),l.length)]++[] from (jc _).symm];(refine aC (σ:=Nat×List Item) (fun x=>(x.1≤(pI l).length∧pB x.2≤600*x.1)∧iK cs ps (i:Int) (pI l) 0=(iK cs ps (i:Int) ((pI l).drop x.1) x.1).map (x.2++ ·)) (fun x=>[(66, .int .i64 (x.1:Int))]) (fun x=>[own (.slice q1 N N) 3 1 N (flat fI (dX N (cN (fun _=>0) (D++[((c:Int),l.length)]++x.2))))]) _ (fun x=>(pI l).length-x.1) ((0,[])) (by exact⟨⟨fg _,fg _⟩,map_nil (iK cs ps (i:Int) (pI l) 0)⟩) (by exact gA) Zb (fun⟨k,D2⟩ ⟨⟨hk,hD2⟩,hpart⟩=> ?_);refine Da ?_);dsimp only at hk hD2 hpart ⊢;rcases iq k (pI l).length with hltk|hgek
      ·obtain⟨⟨ux,uy⟩,hu⟩: ∃ p,(pI l)[k]? =some p:=⟨_,aj hltk⟩;rw[adS hu] at hpart;have P0:=PT (i:Int) (k:Int) (ux,uy);by_cases hu0:ux=0
       ·subst hu0;rw[if_pos rfl] at hpart;(repeat' (first|refine Wa ?_|refine We ?_|(refine Wb ?_;intro b)|fail));refine Ee ((k+1,D2)) ?_ ?_
        ·exact⟨⟨by dsimp only;omega,by dsimp only;omega⟩,hpart⟩
        ·dsimp only;omega
       ·rw[if_neg hu0] at hpart;by_cases hok:(gZ cs ps (i:Int) (k:Int) (ux,uy)).2=0
        ·rw[if_pos hok] at hpart;have hbk2:=ahV (ayW hok).1;have hpt:=alN cs ps (i:Int) (k:Int) (ux,uy);rw[hok] at P0;generalize (gZ cs ps (i:Int) (k:Int) (ux,uy)).1=pt at*;dsimp only at hbk2;obtain⟨u,rfl⟩:=iy (by omega:0≤ux);have huN:u<N:=by omega
         have hp2:iK cs ps (i:Int) (pI l) 0=(iK cs ps (i:Int) ((pI l).drop (k+1)) (k+1)).map ((D2++[((u:Int),pt.length)])++ ·):=by
          rw[hpart, ←UO];rfl
         obtain⟨F2,hFF⟩: ∃ F2,cN (fun _=>0) (D++[((c:Int),l.length)]++D2)=F2:=⟨_,rfl⟩;have hFu:F2 u≤400000*i+600+600*k:=by
          rw[←hFF];have:=RE (D++[((c:Int),l.length)]++D2) (fun _=>0) u;rw[pN,pN] at this;have h9:pB [((c:Int),l.length)]=l.length:=rfl;omega
         rw[hFF];have gR2:(dX N F2)[u]? =some ((F2 u:Nat):Int):=dI _ huN;have hsum2:((F2 u:Nat):Int)+(pt.length:Int)=((F2 u+pt.length:Nat):Int):=by omega
         have hF3:fJ F2 u (F2 u+pt.length)=cN (fun _=>0) (D++[((c:Int),l.length)]++(D2++[((u:Int),pt.length)])):=by
          rw[←ep,KQ,hFF];rfl
         (repeat' (first|refine Wa ?_|refine We ?_|(refine Wb ?_;intro b)|refine Wc (P0 ..) ?_|fail));rw[hsum2];(refine cM wt (aG (f:=fI) (q':=((F2 u+pt.length:Nat):Int)) rfl rfl rfl rfl (by exact aN) rfl (by omega) (by intro _;rfl) (by assumption) rfl rfl (by rfl)) ?_;rintro _ _ ⟨rfl,rfl⟩);rw[fK _ _ huN,hF3];refine eU ?_;refine Ee ((k+1,D2++[((u:Int),pt.length)])) ?_ ?_
         ·refine⟨⟨by dsimp only;omega, ?_⟩,hp2⟩;dsimp only;rw[pN];have h9:pB [((u:Int),pt.length)]=pt.length:=rfl;omega
         ·dsimp only;omega
        ·rw[if_neg hok] at hpart;rw[hpart] at hits;generalize (gZ cs ps (i:Int) (k:Int) (ux,uy)).2=pe at*;generalize (gZ cs ps (i:Int) (k:Int) (ux,uy)).1=pt at*;(repeat' (first|refine Wa ?_|refine We ?_|(refine Wb ?_;intro b)|refine Wc (P0 ..) ?_|fail));exact Ea (x:=bad pe hok hits)
      ·have hkl:k=(pI l).length:=by omega
       subst hkl;rw[List.drop_length,iK] at hpart;rw[hpart] at hits;simp only[Option.map_some,jc] at hits;rw[UO] at hits;refine aZ ?_;refine Ee ((i+1,D++[((c:Int),l.length)]++D2)) ?_ ?_
       ·refine⟨⟨by dsimp only;omega, ?_⟩, ?_⟩
        ·dsimp only;rw[pN,pN];have h9:pB [((c:Int),l.length)]=l.length:=rfl;omega
        ·dsimp only;rw[hits,ep];rfl
       ·dsimp only;omega
   ·have hi48:i=48:=by omega
    subst hi48;have e1:at'.drop 48=[]:=List.drop_eq_nil_of_le (by omega);rw[e1] at hits;have hfin:its cs ps at' aE 0=some D:=by rw[hits,ahX];simp
    refine aZ ?_;exact Ea (x:=xL D q1 hfin)
  ·have M0:=QY (.slice qa at'.length ca2) (.slice qg aE.length cg) hw hm;(refine Ye Tryz.func48 Tryz.ntmps48 ?_;intro Fr);(repeat' (first|refine Wa ?_|refine We ?_|(refine Wb ?_;intro b)|refine Wc (C0 ..) ?_|refine Wc (M0 ..) ?_|fail));exact Ea (x:= .inr ⟨fun⟨L,h⟩=>hm h.2.1,4,by decide,rfl,rfl⟩)
 ·have hb: ¬ ∃ L,KR cs ps at' aE L:=fun⟨L,h⟩=>hd (IJ h.1)
  generalize bL cs ps=ce at*;(refine Ye Tryz.func48 Tryz.ntmps48 ?_;intro Fr);(repeat' (first|refine Wa ?_|refine We ?_|(refine Wb ?_;intro b)|refine Wc (C0 ..) ?_|fail));exact Ea (x:= .inr ⟨hb,ce,hd,rfl,rfl⟩)
end Go.Proofs.YtbjalbcdbgcgdaaGreat.use
namespace Go.Proofs.YtbjalbcdbgcgdaaGreat.sl
open Go.RowKit bG Go.Maps Go.MapKept
def okI (x:Int):Prop:=(Lit.int .i64 x).wf=true
def dO (P:Program) (k e:TypeId) (b n:Nat) (g:Int→Int):Ent where
 iD:=true
 jE j:=j=b
 holds w:= ∃ D:DataW Unit,w.ownsMap P k (plainElem P e) b n D∧IsMap D∧ ∀ x,okI x→D.atKey (.int .i64 x) (.lit (.int .i64 0))= .lit (.int .i64 (g x))
 lt h hk:=by
  subst hk;obtain⟨D,h1,_⟩:=h;exact h1.lt
 keep h _ _ _ _ hb:=by
  obtain⟨D,⟨es,clock,h1,h2⟩,h3⟩:=h;exact⟨D,⟨es,clock,by rw[hb b rfl];exact h1,h2⟩,h3⟩
end Go.Proofs.YtbjalbcdbgcgdaaGreat.sl
namespace Go.Proofs.YtbjalbcdbgcgdaaGreat.sl
open Go.RowKit bG Go.Maps Go.MapKept Go.WideMaps Go.WideShapes Go.WideElems
open Go.ChangeMaps (setBlock heap_setBlock_same heap_setBlock_other)
abbrev K3:=UInt8×UInt8×UInt8
def YW (t:K3):Value:= .agg #[.int .u8 (t.1.toNat:Int), .int .u8 (t.2.1.toNat:Int), .int .u8 (t.2.2.toNat:Int)]
theorem asK {a b:K3} (h:YW a=YW b):a=b:=by
 obtain⟨a1,a2,a3⟩:=a;obtain⟨b1,b2,b3⟩:=b;simp only[YW,Value.agg.injEq,Array.mk.injEq,List.cons.injEq,Value.int.injEq,true_and,and_true] at h;obtain⟨h1,h2,h3⟩:=h;have e1:a1=b1:=iu.1 (by omega);have e2:a2=b2:=iu.1 (by omega);have e3:a3=b3:=iu.1 (by omega);rw[e1,e2,e3]
class alP (P:Program) (k:TypeId):Prop where
 h: ∃ e,ArrKey P k e 3∧P.underlying e=some (.int .u8)
 sz: ∃ m,P.types.size=m+1
theorem UP (x:UInt8):(Lit.int .u8 (x.toNat:Int)).wf=true:=by
 have:=UInt8.toNat_lt x;simp [Lit.wf,IntKind.min,IntKind.max,IntKind.signed,IntKind.bits];omega
theorem FH {P:Program} {k:TypeId} (hk:alP P k) (t:K3): ∃ l,keyOf P k (YW t)=some l:=by
 obtain⟨⟨e,A,he⟩,hsz⟩:=hk;have hkt:=A.keyType hsz;obtain⟨m,hm⟩:=hsz;have w1:=UP t.1;have w2:=UP t.2.1;have w3:=UP t.2.2;refine⟨.string (keyBytes [.int .u8 (t.1.toNat:Int), .int .u8 (t.2.1.toNat:Int), .int .u8 (t.2.2.toNat:Int)]), ?_⟩;unfold keyOf YW;simp only[A.hu];rw[if_pos (by simp [hkt,Value.formed,A.hu,A.size]),hm];unfold Program.keyLits;simp only[A.hu,Value.cells];rw[if_pos (by rw[A.size];rfl),show List.range 3=[0,1,2] from rfl,jd,jd,jd,List.mapM_nil];simp [A.one,Program.keyLits,he,w1,w2,w3]
theorem asL {P:Program} {k:TypeId} (hk:alP P k):KeyLaw P k:=by
 obtain⟨⟨e,A,he⟩,hsz⟩:=hk;exact A.law
theorem KS {P:Program} {k:TypeId} (hk:alP P k):Keyed P k:=by
 obtain⟨⟨e,A,he⟩,hsz⟩:=hk;exact Keyed.of_law A.law
def rH (v:Value):Option (DataW Value×List MemPlace):=some (.held v,[])
def UQ (P:Program) (k:TypeId) (z:Value) (b n:Nat) (g:K3→Value):Ent where
 iD:=true
 jE j:=j=b
 holds w:= ∃ D:DataW Value,w.ownsMap P k rH b n D∧IsMap D∧ ∀ x l,keyOf P k (YW x)=some l→D.atKey l (.held z)= .held (g x)
 lt h hk:=by
  subst hk;obtain⟨D,h1,_⟩:=h;exact h1.lt
 keep h _ _ _ _ hb:=by
  obtain⟨D,⟨es,clock,h1,h2⟩,h3⟩:=h;exact⟨D,⟨es,clock,by rw[hb b rfl];exact h1,h2⟩,h3⟩
def aGM (P:Program) (k T:TypeId) (z:Value) (b n:Nat) (g:K3→Value) (t:K3) (st:Nat):Ent where
 iD:=true
 jE j:=j=b
 holds w:= ∃ es1 clock1,w.heap[b]? =some (.map es1 clock1)∧ ∀ (w2:World) (val:Value),w2.heap[b]? =some (.map es1 clock1)→ ∃ es' clock',(Instr.entryStore T (.map (some b)) (goInt st) val).run P w2= .ok () (setBlock w2 b (.map es' clock'))∧ ∀ w3:World,w3.heap[b]? =some (.map es' clock')→(UQ P k z b (n+1) (fun j=>if j=t then val else g j)).holds w3
 lt h hk:=by
  subst hk;obtain⟨es1,clock1,h1,_⟩:=h;exact (Array.getElem?_eq_some_iff.1 h1).1
 keep h _ _ _ _ hb:=by
  obtain⟨es1,clock1,h1,h2⟩:=h;exact⟨es1,clock1,by rw[hb b rfl];exact h1,h2⟩
theorem ayX {P:Program} {k:TypeId} {z:Value} {b n:Nat} {g:K3→Value} {w w':World} (h:(UQ P k z b n g).holds w) (hb:w'.heap[b]? =w.heap[b]?):(UQ P k z b n g).holds w':=by
 obtain⟨D,⟨es,clock,h1,h2⟩,h3⟩:=h;exact⟨D,⟨es,clock,by rw[hb];exact h1,h2⟩,h3⟩
section
variable {P:Program} {n:Nat} {F:dF} {H R:List Ent} {o:Oper} {x y z:Operand} {v u z':Value} {T:TypeId}
theorem UR {k e:TypeId} (ho:o.op= .makeMap T none):cJ P n o F H fun u H'=> ∃ b,u= .map (some b)∧H'=UQ P k z' b 0 (fun _=>z')::H:=fun Q a w next ha hw hn=>by
 unfold Oper.wp;simp only[execOp,ho,Option.map_none,run_makeMap,Sem.run_bind,Sem.run_pure,Result.andThen_ok,Oper.upon];refine hn _ _ _ ⟨w.heap.size,rfl,rfl⟩ (aD.new hw (fD w _) ?_ fun j hj=> ?_)
 ·exact⟨_,World.ownsMap_made w P k _,isMap_empty,fun x l _=>rfl⟩
 ·have:j=w.heap.size:=hj;omega
theorem alQ {k e:TypeId} {b m:Nat} {g:K3→Value} {t:K3} {by':Nat} {agg:Bool} {sz:Nat} [hm:Mp P T k e] [hk:alP P k] [he:Ty P e agg sz by' z'] (ho:o.op= .lookup T x y false) (hx:ev F x=some (.map (some b))) (hy:ev F y=some (YW t)) (p:bF (UQ P k z' b m g) H R) (hv:g t=v):Qt P n o F H v:=fun a w ha hh=>by
 obtain⟨D,h1,h2,h3⟩:=hh.1 _ p.mem;obtain⟨l,hl⟩:=FH hk t;obtain⟨c,ps,hr,hc⟩:=h1.lookup (KS hk) hm.h (qG he w) (zd:= .held z') (zp:=[]) rfl hl;rw[h3 t l hl] at hc;simp only[rH,bd,Prod.mk.injEq,DataW.held.injEq] at hc;obtain⟨rfl,_⟩:=hc;subst hv;simp only[execOp,ho,ha.eval hx,ha.eval hy,hr,Sem.run_bind,Sem.run_pure,Result.andThen_ok]
theorem PI {k e:TypeId} {b m:Nat} {g:K3→Value} {t:K3} {by':Nat} {agg:Bool} {sz:Nat} [hm:Mp P T k e] [hk:alP P k] [he:Ty P e agg sz by' z'] (ho:o.op= .mapEntry T x y) (hx:ev F x=some (.map (some b))) (hy:ev F y=some (YW t)) (p:bF (UQ P k z' b m g) H R) (hv:g t=v) (hlt:m<maxLen):cJ P n o F H fun u H'=> ∃ st:Nat,u= .tuple #[v, .int .i64 (st:Int)]∧H'=aGM P k T z' b m g t st::R:=fun Q a w next ha hh hn=>by
 have hh':=hh.perm p.perm;obtain⟨D,h1,h2,h3⟩:=hh'.head;have K:=KS hk;obtain⟨l,hl⟩:=FH hk t;have h1':=h1;obtain⟨es,clock,hb,hF,hs,hD⟩:=h1;obtain⟨v0,st,es1,clock1,hr,hw,hst⟩:=entry_then_store (asL hk) hm.h (qG he) hb hF hl;have hv0:v0=v:=by
  have e3:=h3 t l hl;rw[hD] at e3;rcases fit_look false K hm.h (qG he w) hb hF hl with⟨_,f1,f2⟩|⟨e0,yy,f1,f2,_,f4,f5,_⟩
  ·rcases hw with⟨e1,g1,g2,_⟩|⟨_,g2⟩
   ·exact absurd g2 (f1 e1 g1)
   ·rw[f2] at e3;rw[g2, ←hv];simpa using e3
  ·rw[f5] at e3;rcases hw with⟨e1,g1,g2,g3⟩|⟨g1,_⟩
   ·obtain⟨i0,hi0⟩:=je f1;obtain⟨i1,hi1⟩:=je g1;have:i1=i0:=jh fun hne=>other_key hF hi0 hi1 hne (by rw[g2,f2])
    subst this;rw[hi0] at hi1;cases hi1;rw[g3, ←hv];simp only[rH,bd] at f4;subst f4;simpa using e3
   ·exact absurd f2 (g1 e0 f1)
 subst hv0;unfold Oper.wp;simp only[execOp,ho,ha.eval hx,ha.eval hy,hr,Sem.run_bind,Sem.run_pure,Result.andThen_ok,Oper.upon];refine hn _ _ _ ⟨st,rfl,rfl⟩ (aD.pA hh' rfl ⟨rfl,rfl,rfl,by simp [setBlock],fun j hj hne=>heap_setBlock_other hb _ (fun e=>hne e)⟩ ⟨es1,clock1,heap_setBlock_same hb _,fun w2 val hw2=> ?_⟩ fun j hj=> .inl hj);obtain⟨es',clock',q1,q2⟩:=hst w2 val hw2;refine⟨es',clock',q1,fun w3 hw3=> ?_⟩;obtain⟨w',hr2,h4,h5⟩:=h1'.update K hm.h hlt hl (d:= .held val) (ps:=[]) rfl;rw[q2] at hr2;have ew:setBlock w b (.map es' clock')=w':=by simpa using hr2
 have hfin:(UQ P k z' b (m+1) (fun j=>if j=t then val else g j)).holds w':=by
  refine⟨_,h4,h2.put _ _,fun j lj hj=> ?_⟩;show _=DataW.held (if j=t then val else g j);by_cases e:j=t
  ·subst e;rw[hl] at hj;cases hj;rw[if_pos rfl,atKey_put_same h2 (K.key hl)]
  ·rw[if_neg e,atKey_put_other (fun e2=>e (asK (K.inj hj (by rw[e2];exact hl)))),h3 j lj hj]
 refine ayX hfin ?_;rw[hw3, ←ew,heap_setBlock_same hb]
theorem GR {k:TypeId} {b m st:Nat} {g:K3→Value} {t:K3} (ho:o.op= .entryStore T x y z) (hx:ev F x=some (.map (some b))) (hy:ev F y=some (.int .i64 (st:Int))) (hz:ev F z=some u) (p:bF (aGM P k T z' b m g t st) H R):cJ P n o F H fun v H'=>v=undef∧H'=UQ P k z' b (m+1) (fun j=>if j=t then u else g j)::R:=fun Q a w next ha hh hn=>by
 have hh':=hh.perm p.perm;obtain⟨es1,clock1,hb,hk⟩:=hh'.head;obtain⟨es',clock',hr,hfin⟩:=hk w u hb;have hr':(Instr.entryStore T (.map (some b)) (.int .i64 (st:Int)) u).run P w= .ok () (setBlock w b (.map es' clock')):=hr;unfold Oper.wp;simp only[execOp,ho,ha.eval hx,ha.eval hy,ha.eval hz,hr',Sem.run_bind,Sem.run_pure,Result.andThen_ok,Oper.upon];exact hn _ _ _ ⟨rfl,rfl⟩ (aD.pA hh' rfl ⟨rfl,rfl,rfl,by simp [setBlock],fun j hj hne=>heap_setBlock_other hb _ (fun e=>hne e)⟩ (hfin _ (heap_setBlock_same hb _)) fun j hj=> .inl hj)
theorem asM {e by1 by2:Nat} {z2 z3 va vb vc:Value} (hu:P.underlying T=some (.array 3 e)) [ht:Ty P T true 3 by1 (.agg #[z3,z3,z3])] [he:Ty P e false 1 by2 z2] (ho:o.op= .build T #[(0,x),(1,y),(2,z)]) (hx:ev F x=some va) (hy:ev F y=some vb) (hz:ev F z=some vc) (h1:va.oneCell'=true) (h2:vb.oneCell'=true) (h3:vc.oneCell'=true):Qt P n o F H (.agg #[va,vb,vc]):=fun a w ha hw=>by
 have hf:Instr.fill (fun i=>some (i*1,1)) #[z3,z3,z3] [(0,va),(1,vb),(2,vc)]=some #[va,vb,vc]:=JR (cs:=[z3,z3,z3]) (yZ rfl h1 rfl rfl (yZ rfl h2 rfl rfl (yZ rfl h3 rfl rfl .nil)));simp only[Nat.mul_one] at hf;simp [execOp,ho,Instr.build,qG ht w,run_underlying hu,cV he,ha.eval hx,ha.eval hy,ha.eval hz,Value.cells,hf,Result.andThen]
end
def kM (l:List Ent):Ent where
 iD:=true
 jE b:= ∃ e∈l,e.jE b
 holds w:=aD l w∧ ∀ e∈l,e.iD=true
 lt h hk:=by
  obtain⟨e,he,hb⟩:=hk;exact e.lt (h.1.1 e he) hb
 keep h h1 h2 h3 h4 h5:=⟨⟨fun e he=>e.keep (h.1.1 e he) h1 h2 h3 h4 fun b hb=>h5 b ⟨e,he,hb⟩,h.1.2⟩,h.2⟩
theorem xM (H:List Ent):HSub H (kM []::H):=fun w hw=>aD.new hw (mP.refl _ _) ⟨⟨fun e he=>absurd he fj,List.Pairwise.nil⟩,fun e he=>absurd he fj⟩ fun b hb=>by
 obtain⟨e,he,_⟩:=hb;exact absurd he fj
theorem DC {e:Ent} {l H R S:List Ent} (p:bF e H R) (q:bF (kM l) R S) (he:e.iD=true):HSub H (kM (e::l)::S):=fun w hw=>by
 have h1:aD (e::kM l::S) w:=hw.perm (p.perm.trans (q.perm.cons _));have hp:=au.1 h1.2;have hb:=h1.tail.head;have hq:=au.1 hp.2;refine⟨fun f hf=> ?_,au.2 ⟨fun f hf _ b hb1 hb2=> ?_,hq.2⟩⟩
 ·rcases aw.1 hf with rfl|hf
  ·refine⟨⟨fun f hf=> ?_,au.2 ⟨fun f hf _ b hb1 hb2=> ?_,hb.1.2⟩⟩,fun f hf=> ?_⟩
   ·rcases aw.1 hf with rfl|hf
    ·exact h1.head
    ·exact hb.1.1 f hf
   ·exact hp.1 _ bc (.inl he) b hb1 ⟨f,hf,hb2⟩
   ·rcases aw.1 hf with rfl|hf
    ·exact he
    ·exact hb.2 f hf
  ·exact h1.tail.tail.1 f hf
 ·obtain⟨g,hg,hgb⟩:=hb1;rcases aw.1 hg with rfl|hg
  ·exact hp.1 f (ax _ hf) (.inl he) b hgb hb2
  ·exact hq.1 f hf (.inl rfl) b ⟨g,hg,hgb⟩ hb2
theorem adU {e:Ent} {l l' H R:List Ent} (p:bF (kM l) H R) (hl:l.Perm (e::l')):HSub H (e::kM l'::R):=fun w hw=>by
 have h1:aD (kM l::R) w:=hw.perm p.perm;have hb:=h1.head;have h2:aD (e::l') w:=hb.1.perm hl;have hx: ∀ f∈e::l',f.iD=true:=fun f hf=>hb.2 f (hl.mem_iff.2 hf)
 have hp:=au.1 h1.2;have hq:=au.1 h2.2;have hm: ∀ f∈e::l', ∀ b,f.jE b→(kM l).jE b:=fun f hf b hb=>⟨f,hl.mem_iff.2 hf,hb⟩
 refine⟨fun f hf=> ?_,au.2 ⟨fun f hf _ b hb1 hb2=> ?_,au.2 ⟨fun f hf _ b hb1 hb2=> ?_,hp.2⟩⟩⟩
 ·rcases aw.1 hf with rfl|hf
  ·exact h2.head
  ·rcases aw.1 hf with rfl|hf
   ·exact⟨h2.tail,fun f hf=>hx f (ax _ hf)⟩
   ·exact h1.tail.1 f hf
 ·rcases aw.1 hf with rfl|hf
  ·obtain⟨g,hg,hgb⟩:=hb2;exact hq.1 g hg (.inl (hx e bc)) b hb1 hgb
  ·exact hp.1 f hf (.inl rfl) b (hm e bc b hb1) hb2
 ·obtain⟨g,hg,hgb⟩:=hb1;exact hp.1 f hf (.inl rfl) b (hm g (ax _ hg) b hgb) hb2
end Go.Proofs.YtbjalbcdbgcgdaaGreat.sl
namespace Go.Proofs.YtbjalbcdbgcgdaaGreat.sl
end Go.Proofs.YtbjalbcdbgcgdaaGreat.sl
namespace Go.Proofs.YtbjalbcdbgcgdaaGreat.sl
open Go.RowKit bG
abbrev alR:=List (Value×List (List Value))
def many (sz:Nat) (l:alR):Ent where
 iD:=false
 jE b:= ∃ p∈l,(sl sz p.1 p.2).jE b
 holds w:= ∀ p∈l,(sl sz p.1 p.2).holds w
 lt h hk:=by
  obtain⟨p,hp,hb⟩:=hk;exact (sl sz p.1 p.2).lt (h p hp) hb
 keep h h1 h2 h3 h4 h5:=fun p hp=>(sl sz p.1 p.2).keep (h p hp) h1 h2 h3 h4 fun b hb=>h5 b ⟨p,hp,hb⟩
theorem RF {S R:List Ent} {sz:Nat} {l:alR} {v:Value} {rows:List (List Value)} (p:bF (many sz l) S R) (h:(v,rows)∈l):View S (sl sz v rows):=
 ⟨rfl,fun w hw=>hw.1 _ p.mem _ h,fun b hb=>⟨_,p.mem,(v,rows),h,hb⟩⟩
theorem zR {H R:List Ent} {sz:Nat} {l:alR} {v:Value} {rows:List (List Value)} (p:bF (many sz l) H R) (h:(v,rows)∈l):HSub H (sl sz v rows::H):=fun w hw=>
 ⟨fun e he => by
  rcases aw.1 he with rfl|he
  ·exact hw.1 _ p.mem _ h
  ·exact hw.1 e he, au.2 ⟨fun f hf hx b hb1 hb2 => by
   rcases hx with hx|hx
   ·cases hx
   ·have h1:=hw.perm p.perm;have h2:=p.perm.mem_iff.1 hf;rcases aw.1 h2 with rfl|h2
    ·cases hx
    ·exact (au.1 h1.2).1 f h2 (.inr hx) b ⟨_, h, hb1⟩ hb2, hw.2⟩⟩
theorem YX {S R:List Ent} {sz e:Nat} {β α:Type} {tab:List β} {rw:β→Ent} {vv:β→Value} {xs:β→List α} {f:α→List Value} (p:bF (kM (tab.map rw)) S R) (hr: ∀ r,rw r=own (vv r) e sz (xs r).length (flat f (xs r))) (hf: ∀ y,(f y).length=sz) (l:List β) (hl: ∀ r∈l,r∈tab):View S (many sz (l.map fun r=>(vv r,(xs r).map f))):=
 ⟨rfl, fun w hw x hx => by
  obtain⟨r,hr1,rfl⟩:=fu.1 hx;have h1:aD (tab.map rw) w:=(hw.1 _ p.mem).1;have h2:=h1.1 (rw r) (jf (hl r hr1));rw[hr] at h2;exact rO hf rfl h2,fun b hb=>by
  obtain ⟨x, hx, hb⟩ := hb;obtain ⟨r, hr1, rfl⟩ := fu.1 hx;exact ⟨_, p.mem, rw r, jf (hl r hr1), by rw [hr]; exact hb.2⟩⟩
end Go.Proofs.YtbjalbcdbgcgdaaGreat.sl
namespace Go.Proofs.YtbjalbcdbgcgdaaGreat.sl
open Go.RowKit bG
section
variable {P:Program} {n:Nat} {F:dF} {H R:List Ent} {o:Oper} {x y z:Operand} {v u z':Value} {T:TypeId}
theorem kU {f:FuncId} [hc:bX P f] {x:Operand} {first cap:List Value} {args:List Operand} {ts:Array TypeId} {vs ws:List Value} {C S:List Ent} {Rs:Value→List Ent→Prop} [hX:Xcl Rs] (ho:o.op= .call { callee:= .value x,args:=args.toArray,argTypes:=ts }) (hx:ev F x=some (.func (.func f) first.toArray cap.toArray)) (hv:UD F args=some vs) (hs:Ct P f ws C Rs) (hw:first++vs++cap=ws) (p:Lp C H S):cJ P n o F H fun v H'=> ∃ H1,Rs v H1∧H'=H1++S:=fun Q a w next ha hw' hn=>by
 subst hw;have he:=mR ha hv;have e1:args.toArray.map a.eval=vs.toArray:=by simpa using he
 have e2:first.toArray++vs.toArray++cap.toArray=(first++vs++cap).toArray:=by simp
 unfold Oper.wp;simp only[execOp,ho,resolve,Deferred.ofValue,ha.eval hx,invoke,e1,e2,Sem.run_bind,Sem.run_pure,Result.andThen_ok,lD,Oper.upon];refine (hs.go _ w (p.ok hw')).mono ?_;rintro e w' ⟨v,H1,rfl,h1,h2⟩;exact hn v _ w' ⟨H1,h1,rfl⟩ (p.back hw' (hX.h v H1 h1) h2)
theorem dD {f:FuncId} [hc:bX P f] {x:Operand} {first cap:List Value} {args:List Operand} {ts:Array TypeId} {vs ws:List Value} {C S:List Ent} {u:Value} (ho:o.op= .call { callee:= .value x,args:=args.toArray,argTypes:=ts }) (hx:ev F x=some (.func (.func f) first.toArray cap.toArray)) (hv:UD F args=some vs) (hs:Ct P f ws C fun v H'=>v=u∧H'=[]) (hw:first++vs++cap=ws) (p:Lp C H S):cJ P n o F H fun v H'=>v=u∧H'=S:=fun Q a w next ha hw' hn=>
 kU ho hx hv hs hw p Q a w next ha hw' fun v H' w' ⟨H1,⟨h1,h2⟩,h3⟩ hw'=>hn v H' w' ⟨h1,by rw[h3,h2];rfl⟩ hw'
end
end Go.Proofs.YtbjalbcdbgcgdaaGreat.sl
