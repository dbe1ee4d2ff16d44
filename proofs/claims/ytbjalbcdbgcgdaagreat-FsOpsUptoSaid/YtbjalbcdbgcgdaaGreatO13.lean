/- FsOps, packed. -/
import Derived.Test.YtbjalbcdbgcgdaaGreatOQ
import Derived.Test.YtbjalbcdbgcgdaaGreatO11
import Derived.Test.YtbjalbcdbgcgdaaGreatO05
import Derived.Test.YtbjalbcdbgcgdaaGreatO10
import Derived.Test.YtbjalbcdbgcgdaaGreatO00
import Derived.Test.YtbjalbcdbgcgdaaGreatO04
import Derived.Test.YtbjalbcdbgcgdaaGreatO03
import Derived.Test.YtbjalbcdbgcgdaaGreatO06
import Derived.Test.YtbjalbcdbgcgdaaGreatO12
open List renaming append_assoc->fu,append_cons->aex,append_nil->ke,cons.injEq->afc,cons_append->dw,drop_eq_getElem_cons->bh,drop_length->abc,filter_append->fo,flatMap_cons->abw,flatten_cons->aey,getElem?_append_left->lu,getElem?_append_right->gz,getElem?_eq_getElem->ak,getElem?_eq_some_iff->aj,getElem?_set->ic,getElem_of_mem->afa,length_append->ae,length_cons->dv,length_map->gp,length_range->abx,length_set->n5,length_singleton->gk,length_take->ar,map_append->ads,map_cons->gd,mem_cons->al,mem_cons_of_mem->a8,mem_cons_self->bu,mem_map_of_mem->acg,mem_of_getElem?->jg,nil_append->dz,range->mn,range_succ->aec,replicate->du,set_append_right->aez,take_add_one->ib,take_length->mz,take_succ_cons->aas
open Nat renaming le_refl->df,lt_or_ge->ig,mod_eq_of_lt->aag,zero_le->fe
open Int renaming toNat_natCast->dc
open Option renaming getD_some->afb
open UInt8 renaming ofNat->ky,toNat_ofNat'->aeu
open ByteArray renaming empty->aew
set_option linter.unusedVariables false
set_option maxRecDepth 100000
set_option maxHeartbeats 8000000
namespace Go.Proofs.YtbjalbcdbgcgdaaGreat
open Go.RowKit bA bO cK sl use
namespace fs
def jJ (F:Nat→Nat) (i:Nat):List Int:=((mn i).filter fun j=>decide (2≤j)&&decide (F j=0)).map fun (j:Nat)=>(j:Int)
theorem ahM {F:Nat→Nat} {i:Nat} (h2:2≤i) (h:F i=0):jJ F (i+1)=jJ F i++[(i:Int)]:=by
 unfold jJ;rw[aec,fo,ads,List.filter_cons_of_pos (by simp [h2,h])];rfl
theorem avE {F:Nat→Nat} {i:Nat} (h:F i≠0):jJ F (i+1)=jJ F i:=by
 unfold jJ;rw[aec,fo,ads,List.filter_cons_of_neg Z5];simp
theorem zG (F:Nat→Nat) (i:Nat):(jJ F i).length≤i:=by
 unfold jJ;rw[gp];exact Nat.le_trans (List.length_filter_le _ _) (by rw[abx];exact df _)
theorem aQS {a w qa qg:Option Addr} {ca cw ca2 cg:Nat} {cs:List ByteArray} {ps:List (Int×ByteArray)} {at':List (Int×Int)} {aA:List Int} {L:List (Int×Nat)} (hc:cs.length≤maxLen) (hp:ps.length≤maxLen) (hw:WfM at' aA) (h:AS cs ps at' aA L):Ct Tryz.prog 48 [.agg #[.slice a cs.length ca, .slice w ps.length cw], .agg #[.slice qa at'.length ca2, .slice qg aA.length cg]] [sl 1 (.slice a cs.length ca) (cs.map fS),sl 2 (.slice w ps.length cw) (ps.map fP),sl 2 (.slice qa at'.length ca2) (at'.map jP),sl 1 (.slice qg aA.length cg) (aA.map fI)] fun v H'=> ∃ q,v= .tuple #[.slice q cs.length cs.length, .int .i64 0]∧H'=[own (.slice q cs.length cs.length) 3 1 cs.length (flat fI (dQ cs.length (cC (fun _=>0) L)))]:=
 bY (aaE a w qa qg ca cw ca2 cg cs ps at' aA hc hp hw) fun v H' h2=>by
  rcases h2 with⟨L2,q,h3,h4,h5⟩|⟨h3,_⟩
  ·have:=h3.2.2.symm.trans h.2.2;cases this;exact⟨q,h4,h5⟩
  ·exact absurd ⟨L,h⟩ h3
attribute [local irreducible] box own sl bL aH bJ Qt cN cM dG dL eQ
theorem aDB (b:Nat) (d:FD) (s t f o:Value) {L:List (Int×Nat)} (hc:d.cs.length≤1000000) (hp:d.ps.length≤1000000) (zy:2≤d.cs.length) (hw:WfM d.at' d.aA) (h:AS d.cs d.ps d.at' d.aA L):
  Ct Tryz.prog 129 [aH b 0] (bC b d s t f o::aX d) fun v H'=> ∃ q c,v= .int .i64 0∧H'=[bC b d s t (.slice q (jJ (cC (fun _=>0) L) d.cs.length).length c) o,own (.slice q (jJ (cC (fun _=>0) L) d.cs.length).length c) 3 1 (jJ (cC (fun _=>0) L) d.cs.length).length (flat fI (jJ (cC (fun _=>0) L) d.cs.length))]:=by
 have C0:=aQS (a:=d.a) (w:=d.w) (ca:=d.ca) (cw:=d.cw) (qa:=d.m) (ca2:=d.cm) (qg:=d.g) (cg:=d.cg) Zl Zl hw h;obtain⟨a,ca,cs,w,cw,wl,m,cm,at1,qg,cg,aA⟩:=d;unfold bC aX;dsimp only at C0 hc hp zy h ⊢;generalize cC (fun _=>0) L=F at C0 ⊢;generalize hN:cs.length=N at C0 hc zy ⊢;(refine Ye Tryz.func129 Tryz.ntmps129 ?_;intro Fr);refine kB ?_;(repeat' (first|refine Wk ?_|refine We ?_|refine Wz ?_|fail));(refine Cc 8 (C0) ?_;rintro _ _ ⟨_,⟨q1,rfl,rfl⟩,rfl⟩;refine Te ?_;(try refine Da ?_));refine Yw6 ?_;refine aO (aS _ 3 1) ?_;(refine aC (σ:=Nat×Option Addr×Nat) (fun x=>2≤x.1∧x.1≤N) (fun x=>[(5, .int .i64 (x.1:Int))]) (fun x=>[box b [.slice a N ca, .slice w wl.length cw, .slice m at1.length cm, .slice qg aA.length cg,s,t, .slice x.2.1 (jJ F x.1).length x.2.2,o] 136,own (.slice x.2.1 (jJ F x.1).length x.2.2) 3 1 (jJ F x.1).length (flat fI (jJ F x.1))]) _ (fun x=>N-x.1) ((2,none,0)) (by exact⟨df _,Z8⟩) Ze Zb (fun⟨i,qf,cf⟩ ⟨zx,zw⟩=> ?_);refine Da ?_);dsimp only at zx zw ⊢;rcases ig i N with hlt|hge
 ·have gR:(dQ N F)[i]? =some ((F i:Nat):Int):=eG _ hlt;have hlen:=zG F i;by_cases h0:F i=0
  ·rw[h0] at gR;(refine mW ?_;intro q);(refine aL wt Jb (by first|exact Ma (fI) [(i:Int)] rfl|exact Mb (fI) [(i:Int)] rfl) ?_;rintro _ _ ⟨q5,c5,rfl,rfl⟩);rw[←ahM zx h0];refine iC ?_;refine Ee ((i+1,q5,c5)) ?_ ?_
   ·exact⟨by dsimp only;omega,hlt⟩
   ·dsimp only;omega
  ·refine bM ?_;rw[←avE h0];refine Ee ((i+1,qf,cf)) ?_ ?_
   ·exact⟨by dsimp only;omega,hlt⟩
   ·dsimp only;omega
 ·obtain rfl:i=N:=Z8
  refine bM ?_;exact Ea (x:=⟨qf,cf,rfl,rfl⟩)
end fs
namespace fs
open dZ
structure tF where
 pl:Int×Int
 text:List UInt8
 fresh:Bool
def eX (p:tF):List Value:=[.int .i64 p.pl.1, .int .i64 p.pl.2, .string (str p.text), .bool p.fresh]
structure kQ where
 ino:Int
 k:Int
 g:Int
 z:Int
 nq:Option Addr
 nl:Nat
 nc:Nat
 parts:List tF
 q:Option Addr
 c:Nat
 gone:Bool
def mQ (x:kQ):List Value:=[.int .i64 x.ino, .int .i64 x.k, .int .i64 x.g, .int .i64 x.z,Value.slice x.nq x.nl x.nc, .slice x.q x.parts.length x.c, .bool x.gone]
def xP (x:kQ):Value×List (List Value):=(.slice x.q x.parts.length x.c,x.parts.map eX)
def cV (n:Int):List tF→Nat→List bU
 |[],_=>[]
 |p::t,i=>if p.fresh=true then (1,n,(i:Int),p.text)::cV n t (i+1) else cV n t (i+1)
def kD (x:kQ):List bU:=if x.gone=true then [(3,x.ino,0,[])] else cV x.ino x.parts 0++[(2,x.ino,0,du (7+2*x.parts.length) 0)]
def aW (l:List kQ):List bU:=l.flatMap kD
theorem amN (n:Int): ∀ (t:List tF) (p:tF) (i:Nat),cV n (t++[p]) i=cV n t i++cV n [p] (i+t.length):=by
 intro t;induction t with
 |nil=>intro p i;rfl
 |cons x t ih=>
  intro p i;rw[dw,cV,cV,ih,dv,show i+1+t.length=i+(t.length+1) from by omega];split<;>rfl
theorem ahP {l:List kQ} {i:Nat} {x:kQ} (h:l[i]? =some x):aW (l.take (i+1))=aW (l.take i)++kD x:=by
 unfold aW;rw[ib,h,List.flatMap_append];simp
theorem ahQ {n:Int} {t:List tF} {i:Nat} {p:tF} (h:t[i]? =some p):cV n (t.take (i+1)) 0=cV n (t.take i) 0++cV n [p] i:=by
 obtain⟨hlt,_⟩:=aj.1 h;rw[ib,h,Option.toList_some,amN,ar,Nat.zero_add,Nat.min_eq_left (Nat.le_of_lt hlt)]
theorem SC (n:Int): ∀ (t:List tF) (i:Nat),(cV n t i).length≤t.length:=by
 intro t;induction t with
 |nil=>intro i;exact df _
 |cons x t ih=>
  intro i;have:=ih (i+1);rw[cV];split<;>(simp only[dv];omega)
attribute [local irreducible] box own sl bL aH bJ Qt cN cM dG dL eQ
theorem KD (q0:Option Addr) (c0:Nat) (l:List kQ) (hl:l.length≤1000) (hp: ∀ x∈l,x.parts.length≤1000):
  Ct Tryz.prog 134 [.slice q0 l.length c0] [sl 7 (.slice q0 l.length c0) (l.map mQ),many 4 (l.map xP)] fun v H'=> ∃ q c,v= .slice q (aW l).length c∧H'=[own (.slice q (aW l).length c) 175 4 (aW l).length (flat BR (aW l))]:=by
 (refine Ye Tryz.func134 Tryz.ntmps134 ?_;intro Fr);refine kB ?_;refine aO (aS _ 175 4) ?_;(refine aC (σ:=Nat×Option Addr×Nat) (fun x=>x.1≤l.length∧(aW (l.take x.1)).length≤1001*x.1) (fun x=>[(10, .int .i64 (x.1:Int)),(3, .slice x.2.1 (aW (l.take x.1)).length x.2.2)]) (fun x=>[own (.slice x.2.1 (aW (l.take x.1)).length x.2.2) 175 4 (aW (l.take x.1)).length (flat BR (aW (l.take x.1)))]) _ (fun x=>l.length-x.1) ((0,none,0)) (by exact⟨fe _,fe _⟩) Ze Zb (fun⟨i,q,c⟩ ⟨hi,hB⟩=> ?_);refine Da ?_);dsimp only at hi hB ⊢;have one: ∀ y, ∀ u∈BR y,u.oneCell'=true:=by simp [BR,Value.oneCell']
 rcases ig i l.length with hlt|hge
 ·obtain⟨⟨ino,k,g,z,nq,nl,nc,ps,qp,cp,gone⟩,hx⟩: ∃ x,l[i]? =some x:=⟨_,ak hlt⟩;have zu:=jg hx;have zn:=hp _ zu;have zy:=ahP hx;dsimp only at zn;cases gone with
  |true=>
   have zv:aW (l.take (i+1))=aW (l.take i)++[(3,ino,0,[])]:=zy;have zt:(aW (l.take (i+1))).length=(aW (l.take i)).length+1:=by rw[zv,ae];rfl
   (repeat' (first|refine Y3 ?_|(refine Wb ?_;intro b)|(refine Wq ?_;intro q)|fail));dsimp only[mQ]
   skip
   (refine aL wt Jb (by first|exact Ma (BR) [(3,ino,0,[])] rfl|exact Mb (BR) [(3,ino,0,[])] rfl) ?_;rintro _ _ ⟨q5,c5,rfl,rfl⟩);rw[←zv];refine iC ?_;refine Ee ((i+1,q5,c5)) ?_ ?_
   ·exact⟨hlt,by dsimp only;omega⟩
   ·dsimp only;omega
  |false=>
   have zv:aW (l.take (i+1))=aW (l.take i)++(cV ino ps 0++[(2,ino,0,du (7+2*ps.length) 0)]):=zy;generalize hA:aW (l.take i)=A at*;(refine bF ?_;intro b);dsimp only[mQ]
   skip
   refine aO (FJ (l:=l.map xP) (v:= .slice qp ps.length cp) (rows:=ps.map eX) aU (acg (f:=xP) zu)) ?_;rw[show A=A++cV ino (ps.take 0) 0 from (ke _).symm];(refine aC (σ:=Nat×Option Addr×Nat) (fun x=>x.1≤ps.length) (fun x=>[(25, .int .i64 (x.1:Int)),(3, .slice x.2.1 (A++cV ino (ps.take x.1) 0).length x.2.2)]) (fun x=>[own (.slice x.2.1 (A++cV ino (ps.take x.1) 0).length x.2.2) 175 4 (A++cV ino (ps.take x.1) 0).length (flat BR (A++cV ino (ps.take x.1) 0))]) _ (fun x=>ps.length-x.1) ((0,q,c)) Zx Ze Zb (fun⟨j,q2,c2⟩ hj=> ?_);refine Da ?_);dsimp only at hj ⊢;rcases ig j ps.length with zx|hgej
   ·obtain⟨⟨⟨p1,p2⟩,text,fresh⟩,hy⟩: ∃ y,ps[j]? =some y:=⟨_,ak zx⟩;have zr:=ahQ (n:=ino) hy;have zq:=SC ino (ps.take j) 0;rw[ar] at zq;have hAl:(A++cV ino (ps.take j) 0).length≤1001*i+j:=by rw[ae];omega
    cases fresh with
    |true=>
     have zw:A++cV ino (ps.take (j+1)) 0=A++cV ino (ps.take j) 0++[(1,ino,(j:Int),text)]:=by rw[zr,fu];rfl
     generalize A++cV ino (ps.take j) 0=B at*;(repeat' (first|refine Y3 ?_|(refine Wb ?_;intro b)|(refine Wq ?_;intro q)|fail));dsimp only[eX]
     skip
     (refine aL wt Jb (by first|exact Ma (BR) [(1,ino,(j:Int),text)] rfl|exact Mb (BR) [(1,ino,(j:Int),text)] rfl) ?_;rintro _ _ ⟨q6,c6,rfl,rfl⟩);rw[←zw];refine iC ?_;refine Ee ((j+1,q6,c6)) ?_ ?_
     ·exact zx
     ·dsimp only;omega
    |false=>
     have zw:A++cV ino (ps.take (j+1)) 0=A++cV ino (ps.take j) 0:=by rw[zr];exact congrArg _ (ke _)
     (refine bF ?_;intro b);dsimp only[eX]
     skip
     rw[←zw];refine Ee ((j+1,q2,c2)) ?_ ?_
     ·exact zx
     ·dsimp only;omega
   ·obtain rfl:j=ps.length:=Z8
    rw[mz];have zq:=SC ino ps 0;have hBl:(A++cV ino ps 0).length≤1001*i+ps.length:=by rw[ae];omega
    rw[←fu] at zv;generalize A++cV ino ps 0=B at*;have hN:(7+2*(ps.length:Int))=((7+2*ps.length:Nat):Int):=Z8
    refine kB ?_;(refine aD (Hq:=[_]) [2] [] rfl Jd Za ?_);refine jV ?_;rw[hN];(refine aB 8 ?_;refine Oa (l:=by exact (dH (fY) (0) (c:=7+2*ps.length) rfl rfl rfl Zf Zf rfl rfl Z8 Zi)) (k:= ?_);rintro _ _ ⟨q7,rfl,rfl⟩;refine Te ?_;(try refine Da ?_));refine jV ?_;(refine aB 11 ?_;refine Oa (l:=by exact aT rfl rfl rfl Zp rfl rfl Z9 rfl) (k:= ?_);rintro _ _ ⟨q8,rfl,rfl⟩;refine Te ?_;(try refine Da ?_));(refine aB 12 ?_;refine Oa (l:=by exact (by first|exact Ma (BR) [(2,ino,0,du (7+2*ps.length) 0)] rfl|exact Mb (BR) [(2,ino,0,du (7+2*ps.length) 0)] rfl)) (k:= ?_);rintro _ _ ⟨q9,c9,rfl,rfl⟩;refine Te ?_;(try refine Da ?_));rw[←zv];have zt:=congrArg List.length zv;rw[ae,gk] at zt;refine sO ?_;refine Ee ((i+1,q9,c9)) ?_ ?_
    ·exact⟨hlt,by dsimp only;omega⟩
    ·dsimp only;omega
 ·obtain rfl:i=l.length:=Z8
  rw[mz];refine bM ?_;exact Ea (x:=⟨q,c,rfl,rfl⟩)
end fs
namespace fs
open dZ cO
abbrev tH:=List (Int×Int)×List Int
def nZ (P:List (Int×Int)):Nat→List tF→List (Int×Int)
 |_,[]=>[]
 |a,p::t=>if p.fresh=true then P[a]?.getD (0,0)::nZ P (a+1) t else p.pl::nZ P a t
def pY:List tF→Nat
 |[]=>0
 |p::t=>if p.fresh=true then pY t+1 else pY t
def uH (P:List (Int×Int)) (a:Nat) (x:kQ):List bU:=if x.gone=true then [(3,x.ino,0,[])] else cV x.ino x.parts 0++[(2,x.ino,0,iU x.k x.g x.z (nZ P a x.parts))]
def jE (P:List (Int×Int)):Nat→List kQ→List bU
 |_,[]=>[]
 |a,x::t=>uH P a x++jE P (a+(kD x).length) t
def iF (P:List (Int×Int)) (a:Nat) (m:tH) (x:kQ):tH:=
 if x.gone=true then (m.1.set x.ino.toNat (0,0),m.2.set x.ino.toNat (m.2[x.ino.toNat]?.getD 0+1)) else (m.1.set x.ino.toNat (P[a+pY x.parts]?.getD (0,0)),m.2)
def iR (P:List (Int×Int)):Nat→tH→List kQ→tH
 |_,m,[]=>m
 |a,m,x::t=>iR P (a+(kD x).length) (iF P a m x) t
def amO (P:List (Int×Int)) (a:Nat) (m:tH) (x:kQ):Prop:=
 ∃ i:Nat,x.ino=(i:Int)∧i<48∧
  (x.gone=true→ ∃ p0 g0,m.1[i]? =some p0∧m.2[i]? =some g0∧p0.1≠0∧g0<2147483647)∧
  (x.gone = false → (0 ≤ x.k ∧ x.k ≤ 2147483647) ∧ (0 ≤ x.g ∧ x.g ≤ 2147483647) ∧ (0 ≤ x.z ∧ x.z ≤ 2147483647) ∧ x.parts.length ≤ 1000 ∧ a + pY x.parts < P.length ∧
   (∀ p ∈ nZ P a x.parts, gT p) ∧ lV x.k x.g x.z (nZ P a x.parts) = 0 ∧ ∃ p, P[a + pY x.parts]? = some p ∧ gT p ∧ p.1 ≠ 0)
def rN (P:List (Int×Int)):Nat→tH→List kQ→Prop
 |_,_,[]=>True
 |a,m,x::t=>amO P a m x∧rN P (a+(kD x).length) (iF P a m x) t
theorem lQ (n:Int): ∀ (t:List tF) (i:Nat),(cV n t i).length=pY t:=by
 intro t;induction t with
 |nil=>intro i;rfl
 |cons p t ih=>
  intro i;rw[cV,pY];split
  ·rw[dv,ih]
  ·rw[ih]
theorem pH (P:List (Int×Int)): ∀ (t:List tF) (a:Nat),(nZ P a t).length=t.length:=by
 intro t;induction t with
 |nil=>intro a;rfl
 |cons p t ih=>
  intro a;rw[nZ];split<;>rw[dv,dv,ih]
theorem KE: ∀ t:List tF,pY t≤t.length
 |[]=>df _
 |p::t=>by
  have:=KE t;rw[pY,dv];split<;>omega
theorem nB (x:kQ):(kD x).length=if x.gone=true then 1 else pY x.parts+1:=by
 unfold kD;split
 ·rfl
 ·rw[ae,lQ,gk]
theorem KF (P:List (Int×Int)) (a:Nat) (x:kQ):(uH P a x).length=(kD x).length:=by
 rw[nB];unfold uH;split
 ·rfl
 ·rw[ae,lQ,gk]
theorem avF {P:List (Int×Int)} {l:List tF} {j a:Nat} {p:tF} (h:l[j]? =some p):nZ P a (l.drop j)=if p.fresh=true then P[a]?.getD (0,0)::nZ P (a+1) (l.drop (j+1)) else p.pl::nZ P a (l.drop (j+1)):=by
 obtain⟨h1,e1⟩:=aj.1 h;rw[bh h1,e1,nZ]
theorem aDF {l:List tF} {j:Nat} {p:tF} (h:l[j]? =some p):pY (l.drop j)=if p.fresh=true then pY (l.drop (j+1))+1 else pY (l.drop (j+1)):=by
 obtain⟨h1,e1⟩:=aj.1 h;rw[bh h1,e1,pY]
theorem avG {P:List (Int×Int)} {l:List kQ} {i a:Nat} {m:tH} {x:kQ} (h:l[i]? =some x):jE P a (l.drop i)=uH P a x++jE P (a+(kD x).length) (l.drop (i+1))∧iR P a m (l.drop i)=iR P (a+(kD x).length) (iF P a m x) (l.drop (i+1))∧(rN P a m (l.drop i)→amO P a m x∧rN P (a+(kD x).length) (iF P a m x) (l.drop (i+1)))∧aW (l.drop i)=kD x++aW (l.drop (i+1)):=by
 obtain⟨h1,e1⟩:=aj.1 h;rw[bh h1,e1];exact⟨rfl,rfl,id,rfl⟩
theorem aDG {D R:List bU} {X:List bU} {b c:bU}:(D++(X++[b])++R).set (D.length+X.length) c=D++(X++[c])++R:=by
 rw[fu,aez _ _ Z8,show D.length+X.length-D.length=X.length from by omega,fu,aez _ _ (df _),Nat.sub_self];simp
theorem ahS {at':List (Int×Int)} {aA:List Int} {i:Nat} {p:Int×Int} (h:eT at' aA) (hp:gT p):eT (at'.set i p) aA:=by
 obtain⟨h1,h2,h3⟩:=h;refine⟨by rw[n5];exact h1,h2,fun j hj q g hq hg=> ?_⟩;rw[ic] at hq;split at hq
 ·split at hq
  ·cases hq;obtain⟨q0,zy⟩: ∃ q0,at'[j]? =some q0:=⟨_,ak Z8⟩;exact⟨hp,(h3 j hj q0 g zy hg).2⟩
  ·cases hq
 ·exact h3 j hj q g hq hg
theorem aDH {at':List (Int×Int)} {aA:List Int} {i:Nat} {z:Int} (h:eT at' aA) (hz:0≤z∧z≤2147483647):eT at' (aA.set i z):=by
 obtain⟨h1,h2,h3⟩:=h;refine⟨h1,by rw[n5];exact h2,fun j hj q g hq hg=> ?_⟩;rw[ic] at hg;split at hg
 ·split at hg
  ·cases hg;obtain⟨g0,zy⟩: ∃ g0,aA[j]? =some g0:=⟨_,ak Z8⟩;exact⟨(h3 j hj q g0 hq zy).1,hz⟩
  ·cases hg
 ·exact h3 j hj q g hq hg
theorem avH:gT (0,0):=Z9
theorem FQ {at':List (Int×Int)} {aA:List Int} (h:eT at' aA):WfM at' aA:=by
 obtain⟨h1,h2,h3⟩:=h;refine⟨fun p hp=> ?_,fun z hz=> ?_,Z8,Z8⟩
 ·obtain⟨j,hj,rfl⟩:=afa hp;obtain⟨o1,o2,o3,o4,_,_⟩:=(h3 j Z8 _ aA[j] (ak hj) (ak Z8)).1;exact⟨wfi Z8,wfi Z8⟩
 ·obtain⟨j,hj,rfl⟩:=afa hz;exact wfi (h3 j Z8 at'[j] _ (ak Z8) (ak hj)).2
theorem qX {P:List (Int×Int)} {a:Nat} {m:tH} {x:kQ} (h:eT m.1 m.2) (hs:amO P a m x):eT (iF P a m x).1 (iF P a m x).2:=by
 obtain⟨i,hi,hlt,hg,ho⟩:=hs;have h3:=h.2.2;unfold iF;rw[hi,dc];split
 ·next e=>
  obtain⟨p0,g0,h0,h1,_,hb⟩:=hg e;rw[h1];have:=(h3 i hlt p0 g0 h0 h1).2;exact aDH (ahS h avH) (by dsimp only[afb];omega)
 ·next e=>
  obtain⟨_,_,_,_,_,_,_,p,hp,zy,_⟩:=ho (by simpa using e);rw[hp];exact ahS h zy
theorem aaI {P:List (Int×Int)}: ∀ (l:List kQ) (a:Nat) (m:tH),eT m.1 m.2→rN P a m l→eT (iR P a m l).1 (iR P a m l).2
 |[],_,_,h,_=>h
 |x::t,a,m,h,⟨h1,h2⟩=>aaI t _ _ (qX h h1) h2
end fs
namespace fs
open dZ cO
attribute [local irreducible] box own sl bL aH bJ Qt cN cM dG dL eQ
def aDI (b:Nat) (d:FD) (s t f o:Value) (vB:Value) (N:Nat) (B:List bU) (m:tH) (v:Value) (H':List Ent):Prop:=
 ∃ qa ca qg cg,v= .tuple #[.agg #[.slice qa m.1.length ca, .slice qg m.2.length cg], .int .i64 0]∧H'=[bC b d s t f o,own vB 175 4 N (flat BR B),sl 2 (.slice qa m.1.length ca) (m.1.map jP),sl 1 (.slice qg m.2.length cg) (m.2.map fI)]
theorem amP:aW []=[]:=rfl
theorem avI (P:List (Int×Int)) (a:Nat):jE P a []=[]:=rfl
theorem avJ (P:List (Int×Int)) (a:Nat) (m:tH):iR P a m []=m:=rfl
attribute [local irreducible] iU jE iR aW nZ pY
theorem SD (b:Nat) (d:FD) (s t f o:Value) (q0:Option Addr) (c0:Nat) (l:List kQ) (qB:Option Addr) (cB N:Nat) (hN:(aW l).length=N) (hN6:N≤1000000) (qP:Option Addr) (cP:Nat) (P:List (Int×Int)) (hP:P.length≤1000000) (hl:l.length≤1000) (hm:eT d.at' d.aA) (h:rN P 0 (d.at',d.aA) l):
  Ct Tryz.prog 202 [aH b 0, .slice q0 l.length c0, .slice qB N cB, .slice qP P.length cP] (bC b d s t f o::own (.slice qB N cB) 175 4 N (flat BR (aW l))::sl 2 (.slice qP P.length cP) (P.map jP)::sl 7 (.slice q0 l.length c0) (l.map mQ)::many 4 (l.map xP)::aX d) (aDI b d s t f o (.slice qB N cB) N (jE P 0 l) (iR P 0 (d.at',d.aA) l)):=by
 obtain⟨a,ca,cs,w,cw,wl,m,cm,at1,qg,cg,aA⟩:=d;unfold aDI bC aX;dsimp only at hm h ⊢;have h00:jE P 0 (l.drop 0)=jE P 0 l:=rfl;have h01:iR P 0 (at1,aA) (l.drop 0)=iR P 0 (at1,aA) l:=rfl;have h02:rN P 0 (at1,aA) (l.drop 0):=h;have h03:([]++aW (l.drop 0)).length=N:=hN;generalize hRB:jE P 0 l=RB at*;generalize hRM:iR P 0 (at1,aA) l=RM at*;have h04:aW l=[]++aW (l.drop 0):=rfl;rw[h04];(refine Ye Tryz.func202 Tryz.ntmps202 ?_;intro Fr);(repeat' (first|refine Y4 ?_|(refine Wb ?_;intro b)|fail));rename_i bs b8;(refine aC (σ:=Nat×List bU×tH×(Option Addr×Nat)×Option Addr×Nat) (fun x=>x.1≤l.length∧(eT x.2.2.1.1 x.2.2.1.2∧x.2.1.length≤N)∧x.2.1++jE P x.2.1.length (l.drop x.1)=RB∧iR P x.2.1.length x.2.2.1 (l.drop x.1)=RM∧rN P x.2.1.length x.2.2.1 (l.drop x.1)∧(x.2.1++aW (l.drop x.1)).length=N) (fun x=>[(23, .int .i64 (x.1:Int)),(11, .int .i64 0),(12, .int .i64 (x.2.1.length:Int))]) (fun x=>[own (.slice qB N cB) 175 4 N (flat BR (x.2.1++aW (l.drop x.1))),box b [.slice x.2.2.2.1.1 x.2.2.1.1.length x.2.2.2.1.2, .slice x.2.2.2.2.1 x.2.2.1.2.length x.2.2.2.2.2] 73,sl 2 (.slice x.2.2.2.1.1 x.2.2.1.1.length x.2.2.2.1.2) (x.2.2.1.1.map jP),sl 1 (.slice x.2.2.2.2.1 x.2.2.1.2.length x.2.2.2.2.2) (x.2.2.1.2.map fI)]) _ (fun x=>l.length-x.1) ((0,[],(at1,aA),(m,cm),qg,cg)) (by exact⟨fe _,⟨hm,fe _⟩,h00,h01,h02,h03⟩) Ze Zb (fun⟨i,D,⟨at2,gen2⟩,⟨q2,c2⟩,q3,c3⟩ ⟨hi,⟨zr,yv⟩,hB,hM,hF,hlen⟩=> ?_);refine Da ?_);dsimp only at hi zr yv hB hM hF hlen ⊢;rcases ig i l.length with hlt|hge
 ·obtain⟨⟨ino,k,g,z,nq,nl,nc,ps,qp,cp,gone⟩,hx⟩: ∃ x,l[i]? =some x:=⟨_,ak hlt⟩;have zj:=jg hx;obtain⟨n1,n2,n3,n4⟩:=avG (P:=P) (a:=D.length) (m:=(at2,gen2)) hx;rw[n1, ←fu] at hB;rw[n2] at hM;obtain⟨hs,zu⟩:=n3 hF;have zq:=qX zr hs;rw[n4] at hlen ⊢;have zh:=KF P D.length ⟨ino,k,g,z,nq,nl,nc,ps,qp,cp,gone⟩;obtain⟨n,hn,zn,zm,zl⟩:=hs;dsimp only at hn zm zl;subst hn;clear n1 n2 n3 n4 hF h00 h01 h02 h03 h04;rw[←zh, ←ae] at hM zu hB;cases gone with
  |true=>
   obtain⟨p0,g0,yu,z7,zg,yt⟩:=zm rfl;clear zm zl;have CU:=fun qa ca qg cg=>xQ qa qg ca cg (FQ zr) zr zn yu z7 zg yt
   have es:iF P D.length (at2,gen2) ⟨(n:Int),k,g,z,nq,nl,nc,ps,qp,cp,true⟩=(at2.set n (0,0),gen2.set n (g0+1)):=by unfold iF;rw[Jg rfl,dc,z7];rfl
   have ex:uH P D.length ⟨(n:Int),k,g,z,nq,nl,nc,ps,qp,cp,true⟩=[(3,(n:Int),0,[])]:=rfl;have ec:kD ⟨(n:Int),k,g,z,nq,nl,nc,ps,qp,cp,true⟩=[(3,(n:Int),0,[])]:=rfl;rw[es] at hM zu zq;rw[ex] at hM zu hB;rw[ec, ←fu] at hlen ⊢;clear es ex ec zh;(refine bF ?_;intro b);dsimp only[mQ]
   skip
   (refine Ca (CU _ _ _ _) ?_;rintro _ _ ⟨_,⟨q4,c4,q5,c5,rfl,rfl⟩,rfl⟩;refine Da ?_);have hl1:(at2.set n (0,0)).length=48:=zq.1;refine aN (bB (v:= .slice q4 (at2.set n (0,0)).length c4) (e:=77) (m:=(at2.set n (0,0)).length) (f:=jP) (ys:=at2.set n (0,0)) aU (fun _=>rfl) rfl) ?_;refine aN (bB (v:= .slice q5 (gen2.set n (g0+1)).length c5) (e:=3) (m:=(gen2.set n (g0+1)).length) (f:=fI) (ys:=gen2.set n (g0+1)) aU (fun _=>rfl) rfl) ?_;refine bM ?_;have zf:(D++[((3:Int),(n:Int),(0:Int),([]:List UInt8))]).length=D.length+1:=by rw[ae];rfl
   have yr:=hlen;rw[ae] at yr;rw[show ((D.length:Int)+1)=(((D++[((3:Int),(n:Int),(0:Int),([]:List UInt8))]).length:Nat):Int) from by rw[zf];rfl];refine Ee ((i+1,D++[(3,(n:Int),0,[])],(at2.set n (0,0),gen2.set n (g0+1)),(q4,c4),q5,c5)) ?_ ?_
   ·exact⟨hlt,⟨zq,by dsimp only;omega⟩,hB,hM,zu,hlen⟩
   ·dsimp only;omega
  |false=>
   obtain⟨hk,hg,hz,hpl,hap,yz,yx,p,hp,yp,zg⟩:=zl rfl;clear zm zl;have SE:=fun qa ca qg cg=>aQT qa qg ca cg (k:=n) (p:=p) (FQ zr) zr zn yp zg
   have es:iF P D.length (at2,gen2) ⟨(n:Int),k,g,z,nq,nl,nc,ps,qp,cp,false⟩=(at2.set n p,gen2):=by unfold iF;rw[Jf Ja,dc,hp];rfl
   have ex:uH P D.length ⟨(n:Int),k,g,z,nq,nl,nc,ps,qp,cp,false⟩=cV (n:Int) ps 0++[(2,(n:Int),0,iU k g z (nZ P D.length ps))]:=rfl;have ec:kD ⟨(n:Int),k,g,z,nq,nl,nc,ps,qp,cp,false⟩=cV (n:Int) ps 0++[(2,(n:Int),0,du (7+2*ps.length) 0)]:=rfl;rw[es] at hM zu zq;rw[ex] at hM zu hB;rw[ec] at hlen ⊢;have hX:=lQ (n:Int) ps 0;have hppl:=pH P ps D.length;have WR:=fun q c=>xN k g z q c (nZ P D.length ps) hk hg hz (by rw[pH];exact hpl) yz yx
   have zx:[]++nZ P D.length (ps.drop 0)=nZ P D.length ps:=rfl;have zw:D.length+pY (ps.drop 0)=D.length+pY ps:=rfl;clear es ex ec zh hk hg hz yz yx;generalize nZ P D.length ps=pp at*;generalize cV (n:Int) ps 0=X at*;generalize iU k g z pp=T at*;generalize du (7+2*ps.length) (0:UInt8)=Z0 at*;generalize yo:aW (l.drop (i+1))=L2 at*;have ze:(D++(X++[((2:Int),(n:Int),(0:Int),Z0)]++L2))[D.length+pY ps]? =some (2,(n:Int),0,Z0):=by
    rw[gz Z8,lu Zq,gz Z8];rw[show D.length+pY ps-D.length-X.length=0 from by omega];rfl
   have zk:(D++(X++[((2:Int),(n:Int),(0:Int),Z0)]++L2)).set (D.length+pY ps) (2,(n:Int),0,T)=D++(X++[((2:Int),(n:Int),(0:Int),T)])++L2:=by
    rw[←hX, ←fu];exact aDG
   have hNN:D.length+pY ps<N:=by have:=(aj.1 ze).1;omega
   generalize D++(X++[((2:Int),(n:Int),(0:Int),Z0)]++L2)=B1 at*;(refine bF ?_;intro b);dsimp only[mQ]
   skip
   refine aO (FJ (l:=l.map xP) (v:= .slice qp ps.length cp) (rows:=ps.map eX) aU (acg (f:=xP) zj)) ?_;refine aO (aS _ 77 2) ?_;(refine aC (σ:=Nat×Nat×List (Int×Int)×Option Addr×Nat) (fun x=>x.1≤ps.length∧x.2.2.1.length=x.1∧x.2.2.1++nZ P x.2.1 (ps.drop x.1)=pp∧x.2.1+pY (ps.drop x.1)=D.length+pY ps) (fun x=>[(47, .int .i64 (x.1:Int)),(12, .int .i64 (x.2.1:Int))]) (fun x=>[own (.slice x.2.2.2.1 x.2.2.1.length x.2.2.2.2) 77 2 x.2.2.1.length (flat jP x.2.2.1),box b [.int .i64 (n:Int), .int .i64 k, .int .i64 g, .int .i64 z, .slice x.2.2.2.1 x.2.2.1.length x.2.2.2.2, .slice qp ps.length cp, .bool false] 237]) _ (fun x=>ps.length-x.1) ((0,D.length,[],none,0)) (by exact⟨fe _,rfl,zx,zw⟩) Ze Zb (fun⟨j,a',o,q4,c4⟩ ⟨hj,zb,zy,zv⟩=> ?_);refine Da ?_);dsimp only at hj zb zy zv ⊢;rcases ig j ps.length with zt|hgej
   ·obtain⟨⟨⟨p1,p2⟩,text,fresh⟩,hy⟩: ∃ y,ps[j]? =some y:=⟨_,ak zt⟩;rw[avF hy] at zy;rw[aDF hy] at zv;cases fresh with
    |true=>
     rw[Jg rfl] at zy zv;obtain⟨pl,za⟩: ∃ pl,P[a']? =some pl:=⟨_,ak Z8⟩;rw[za,afb,aex] at zy;clear zx zw ze zk;(repeat' (first|refine Y3 ?_|(refine Wb ?_;intro b)|(refine Wq ?_;intro q)|fail));dsimp only[eX]
     skip
     (refine aL wt Jb (by first|exact Ma (jP) [pl] rfl|exact Mb (jP) [pl] rfl) ?_;rintro _ _ ⟨q5,c5,rfl,rfl⟩);refine iC ?_;refine Ee ((j+1,a'+1,o++[pl],q5,c5)) ?_ ?_
     ·exact⟨zt,by rw[ae,zb];rfl,zy,by dsimp only;omega⟩
     ·dsimp only;omega
    |false=>
     rw[Jf Ja] at zy zv;dsimp only at zy;rw[aex] at zy;clear zx zw ze zk;(repeat' (first|refine Y3 ?_|(refine Wb ?_;intro b)|(refine Wq ?_;intro q)|fail));dsimp only[eX]
     skip
     (refine aL wt Jb (by first|exact Ma (jP) [(p1,p2)] rfl|exact Mb (jP) [(p1,p2)] rfl) ?_;rintro _ _ ⟨q5,c5,rfl,rfl⟩);refine iC ?_;refine Ee ((j+1,a',o++[(p1,p2)],q5,c5)) ?_ ?_
     ·exact⟨zt,by rw[ae,zb];rfl,zy,zv⟩
     ·dsimp only;omega
   ·obtain rfl:j=ps.length:=Z8
    rw[abc] at zy zv;have z8:o=pp:=by rw[←zy];unfold nZ;exact (ke _).symm
    have ym:a'=D.length+pY ps:=by rw[←zv];unfold pY;rfl
    subst z8 ym;clear zx zw zy zv;(repeat' (first|refine Y3 ?_|refine Wc (WR ..) ?_|fail));(refine dC wt (aI (f:=BR) (q':=((2:Int),(n:Int),(0:Int),T)) rfl rfl rfl rfl Zk rfl Z8 Zg Jc rfl rfl Jb) ?_;rintro _ _ ⟨rfl,rfl⟩);rw[zk];refine kB ?_;(refine aD (Hq:=[_,_]) [2,9] [] rfl Jd Za ?_);refine jV ?_;(refine Cc 7 (SE _ _ _ _) ?_;rintro _ _ ⟨_,⟨q6,c6,q7,c7,rfl,rfl⟩,rfl⟩;refine Te ?_;(try refine Da ?_));(repeat' (first|refine Wa ?_|(apply cod_seq_nd;(focus rfl))|refine Wk ?_|fail));refine aO (bB (v:= .slice q6 (at2.set n p).length c6) (e:=77) (m:=(at2.set n p).length) (f:=jP) (ys:=at2.set n p) aU (fun _=>rfl) rfl) ?_;refine aO (bB (v:= .slice q7 gen2.length c7) (e:=3) (m:=gen2.length) (f:=fI) (ys:=gen2) aU (fun _=>rfl) rfl) ?_;refine bM ?_;have zf:(D++(X++[((2:Int),(n:Int),(0:Int),T)])).length=D.length+pY ps+1:=by rw[ae,ae,hX];rfl
    rw[show (((D.length+pY ps:Nat):Int)+1)=(((D++(X++[((2:Int),(n:Int),(0:Int),T)])).length:Nat):Int) from by rw[zf];rfl];subst yo;refine Ee ((i+1,D++(X++[((2:Int),(n:Int),(0:Int),T)]),(at2.set n p,gen2),(q6,c6),q7,c7)) ?_ ?_
    ·exact⟨hlt,⟨zq,by dsimp only;omega⟩,hB,hM,zu,by dsimp only;rw[←zk,n5];exact hlen⟩
    ·dsimp only;omega
 ·obtain rfl:i=l.length:=Z8
  rw[abc] at hB hM ⊢;rw[avI,ke] at hB;rw[avJ] at hM;rw[amP,ke,hB];subst hM;refine bM ?_;exact Ea (x:=⟨q2,c2,q3,c3,rfl,rfl⟩)
end fs
namespace fs
open dZ cO
def SF (n:Int) (g:List bU) (last:Bool):ByteArray:=str (lH.dY 1 n (bE g last))
def amQ (g:List bU):Prop:=g≠[]∧bR g=0
def iO:Int→List Int→List (List bU)→List (Int×ByteArray)
 |s,c::F,g::gs=>(c,SF (s+1) g gs.isEmpty)::iO (s+1) F gs
 |_,_,_=>[]
def eR:List Int→List (List bU)→List (Int×Int)
 |c::F,g::gs=>(mn g.length).map (fun (k:Nat)=>(c,(k:Int)))++eR F gs
 |_,_=>[]
theorem uI: ∀ (gs:List (List bU)) (F:List Int) (s:Int),gs.length≤F.length→(iO s F gs).length=gs.length
 |[],F,s,_=>by cases F<;>rfl
 |g::gs,[],s,h=>by simp at h
 |g::gs,c::F,s,h=>by
  rw[iO,dv,uI gs F (s+1) Z6];rfl
theorem FU: ∀ (gs:List (List bU)) (F:List Int),gs.length≤F.length→(eR F gs).length=gs.flatten.length
 |[],F,_=>by cases F<;>rfl
 |g::gs,[],h=>by simp at h
 |g::gs,c::F,h=>by
  rw[eR,ae,gp,abx,FU gs F Z6,aey,ae]
theorem PD: ∀ (gs:List (List bU)) (F:List Int) (s:Int) (p:Int×ByteArray),p∈iO s F gs→p.1∈F.take gs.length
 |[],F,s,p,h=>by cases F<;>simp [iO] at h
 |g::gs,[],s,p,h=>by simp [iO] at h
 |g::gs,c::F,s,p,h=>by
  rw[iO,al] at h;rw[dv,aas,al];rcases h with h|h
  ·exact .inl (by rw[h])
  ·exact .inr (PD gs F (s+1) p h)
theorem MY {cs:Cells} {c:Int}: ∀ (gs:List (List bU)) (F:List Int) (s:Int) (ps:cH),c∉F.take gs.length→rJ cs (ps++iO s F gs) c=rJ cs ps c
 |[],F,s,ps,_=>by cases F<;>simp [iO]
 |g::gs,[],s,ps,_=>by simp [iO]
 |g::gs,d::F,s,ps,h=>by
  rw[dv,aas,al] at h;rw[iO,aex,MY gs F (s+1) _ (fun e=>h (.inr e)),adB,Jf fun e=>h (.inl e.symm)]
theorem avK {cs:Cells} {ps:cH} {k:Nat} {n:Int} {g:List bU} {last:Bool} (h:rJ cs ps k=SF n g last) (hn:0≤n∧n≤2147483647) (hg:bR g=0):oK cs ps k=some (n,g,last):=by
 obtain⟨r1,r2,r3⟩:=lJ last hg;obtain⟨o1,o2,o3,o4⟩:=lH.auN 1 n (bE g last) (lH.RC ⟨.inl rfl,hn.1,hn.2,r1⟩);have e:RI cs ps k=lH.dY 1 n (bE g last):=by unfold RI;rw[h];simp [SF,str]
 unfold oK;rw[e,Jg ⟨o1,o2⟩,o4,r2,o3,r3];rfl
theorem amR {cs:Cells} {ps:cH} {c:Int} {k:Nat} {n:Int} {g:List bU} {last:Bool} {b:bU} (h:rJ cs ps c=SF n g last) (hn:0≤n∧n≤2147483647) (hg:bR g=0) (h2:2≤c∧c<(cs.length:Int)) (hb:g[k]? =some b):bV cs ps (c,(k:Int))=(b,0):=by
 obtain⟨m,rfl⟩: ∃ m:Nat,c=(m:Int):=⟨c.toNat,Z8⟩;have hk:=(aj.1 hb).1;unfold bV;rw[Jf Zn,dc,avK h hn hg];dsimp only;rw[Jf Z8,dc,List.getD_eq_getElem?_getD,hb];rfl
theorem SG {cs cs':Cells} {ps ps':cH} {p:Int×Int} (hl:cs.length=cs'.length) (h:rJ cs ps p.1.toNat=rJ cs' ps' p.1.toNat):bV cs ps p=bV cs' ps' p:=by
 have hL:oK cs ps p.1.toNat=oK cs' ps' p.1.toNat:=by unfold oK RI;rw[h]
 unfold bV;rw[hl,hL]
theorem vT {cs:Cells} {ps:cH} {gs:List (List bU)} {F:List Int} {s:Int} {p:Int×Int} (h:p.1∉F.take gs.length):bV cs (ps++iO s F gs) p=bV cs ps p:=by
 by_cases h0:p.1<2
 ·unfold bV;rw[Jg (.inl h0),Jg (.inl h0)]
 ·refine SG rfl ?_;rw[show ((p.1.toNat:Nat):Int)=p.1 from by omega];exact MY gs F s ps h
theorem MZ {cs:Cells}: ∀ (gs:List (List bU)) (F:List Int) (s:Int) (ps:cH),gs.length≤F.length→F.Nodup→(∀ c∈F,2≤c∧c<(cs.length:Int))→(∀ g∈gs,bR g=0)→0≤s→s+gs.length≤2147483647→ ∀ (j:Nat) (p:Int×Int),(eR F gs)[j]? =some p→ ∃ b,gs.flatten[j]? =some b∧bV cs (ps++iO s F gs) p=(b,0)∧p.1∈F.take gs.length∧0≤p.2∧p.2<40
 |[],F,s,ps,_,_,_,_,_,_,j,p,hj=>by cases F<;>simp [eR] at hj
 |g::gs,[],s,ps,h,_,_,_,_,_,j,p,hj=>by simp at h
 |g::gs,c::F,s,ps,hl,hd,hc,hg,hs,zv,j,p,hj=>by
  obtain⟨zu,zt⟩:=List.nodup_cons.1 hd;have zx:=hg g bu;obtain⟨hg40,_,_⟩:=mZ zx;have zr:gs.length≤F.length:=by simpa using hl
  have zy:s+1+gs.length≤2147483647:=by simp only[dv] at zv;omega
  rw[eR] at hj;rw[aey,iO,aex,dv,aas];rcases ig j g.length with hlt|zw
  ·rw[lu Z2,List.getElem?_map,List.getElem?_range hlt] at hj;cases hj;obtain⟨b,hb⟩: ∃ b,g[j]? =some b:=⟨_,ak hlt⟩;refine⟨b,by rw[lu hlt];exact hb, ?_,bu,by dsimp only;omega,by dsimp only;omega⟩;rw[vT (fun e=>zu (List.mem_of_mem_take e))];exact amR (by rw[adB,Jg rfl]) Z8 zx (hc c bu) hb
  ·rw[gz (by simpa using zw),gp,abx] at hj;obtain⟨b,h1,h2,h3,h4⟩:=MZ gs F (s+1) (ps++[(c,SF (s+1) g gs.isEmpty)]) zr zt (fun x hx=>hc x (a8 _ hx)) (fun x hx=>hg x (a8 _ hx)) Z8 zy _ p hj;exact⟨b,by rw[gz zw];exact h1,h2,a8 _ h3,h4⟩
theorem SH: ∀ (l l':List bU) (n sz:Nat) (out:List Int),l.map (fun p=>p.2.2.2.length)=l'.map (fun p=>p.2.2.2.length)→grF l n sz out=grF l' n sz out
 |[],[],n,sz,out,_=>rfl
 |[],_::_,n,sz,out,h=>by simp at h
 |_::_,[],n,sz,out,h=>by simp at h
 |p::l,p'::l',n,sz,out,h=>by
  simp only[gd,afc] at h;have e:(jW p).length=(jW p').length:=by unfold jW;simp only[ae,dv,List.length_nil,h.1]
  rw[grF,grF,e];split
  ·exact SH l l' _ _ _ h.2
  ·exact SH l l' _ _ _ h.2
theorem CD: ∀ (l:List bU) (cur:List bU) (out:List Int),(∀ p∈cur++l,eC p=0)→cur.length≤40→2+(bW cur).length≤1000→ ∃ gs:List (List bU),gs.flatten=cur++l∧grF l cur.length (2+(bW cur).length) out=out++gs.map (fun g=>(g.length:Int))∧ ∀ g∈gs,amQ g
 |[],cur,out,hb,h1,h2=>by
  rw[grF];cases cur with
  |nil=>exact⟨[],rfl,by rw[Jf Ja];simp,Ja⟩
  |cons x t=>exact⟨[x::t],Ja,by rw[Jg Ja];rfl,fun g hg=>by rw[List.mem_singleton] at hg;subst hg;exact⟨Ja,JT ⟨h1,by simpa using hb,h2⟩⟩⟩
 |p::l,cur,out,hb,h1,h2=>by
  have hp:=hb p Ja;have hlen:=aqZ (mO hp).2.2.2.2.2.2;rw[grF];split
  ·next hf=>
   have zy:cur≠[]:=by
    rintro rfl;rcases hf with hf|hf
    ·simp at hf
    ·simp [bW] at hf;omega
   obtain ⟨gs, e1, e2, e3⟩ := CD l [p] (out ++ [(cur.length : Int)]) (fun q hq => hb q (by simp only [List.mem_append, al, List.mem_nil_iff, or_false] at hq ⊢; exact .inr hq)) Ja (by simp [bW]; omega);rw [show (bW [p]) = jW p from by simp [bW]] at e2;exact ⟨cur :: gs, by rw [aey, e1]; simp, by rw [show 1 = [p].length from rfl, e2]; simp, fun g hg => by
    rcases al.1 hg with rfl|hg
    ·exact⟨zy,JT ⟨h1,fun q hq=>hb q (by simp [hq]),h2⟩⟩
    ·exact e3 g hg⟩
  ·next hf=>
   obtain⟨gs,e1,e2,e3⟩:=CD l (cur++[p]) out (fun q hq=>hb q (by simpa using hq)) Zq (by rw[JR];simp [bW] at hf ⊢;omega);rw[JR,show (bW [p])=jW p from by simp [bW],ae,ae,gk, ←Nat.add_assoc] at e2;exact⟨gs,by rw[e1];simp,e2,e3⟩
theorem FV {l:List bU} (h: ∀ p∈l,eC p=0): ∃ gs:List (List bU),gs.flatten=l∧aV l=(gs.map (fun g=>(g.length:Int)),0)∧ ∀ g∈gs,amQ g:=by
 obtain⟨gs,e1,e2,e3⟩:=CD l [] [] Z6 Ja (by simp [bW]);refine⟨gs,by simpa using e1, ?_,e3⟩;unfold aV;rw[Jf (by rw[lI.2 h];simp)];rw[show grF l 0 2 []=_ from e2];rfl
end fs
namespace fs
open dZ cO fix XA
theorem amS (ps:List (Int×Int)):(tG ps).length=2*ps.length:=by
 induction ps with
 |nil=>rfl
 |cons p ps ih=>
  unfold tG at ih ⊢;rw[abw,ae,ih,dv];unfold ahR;rw[ae,cJ,cJ];omega
theorem KG (k g z:Int):(cO.xJ k g z).length=7:=by
 unfold cO.xJ;rw[ae,ae,cJ,cJ,cJ]
theorem vU (k g z:Int) (ps:List (Int×Int)):(iU k g z ps).length=7+2*ps.length:=by
 unfold iU;rw[ae,KG,amS]
theorem aaK: ∀ ps:List (Int×Int),(∀ p∈ps,gT p)→prs (tG ps)=ps
 |[],_=>rfl
 |p::ps,h=>by
  obtain⟨o1,o2,o3,o4,_,_⟩:=h p bu;have ih:=aaK ps fun q hq=>h q (a8 _ hq)
  unfold tG at ih ⊢;rw[abw];unfold ahR;rw[sQ _ Z8,sQ _ Z8];show (((ky p.1.toNat).toNat:Int),((ky p.2.toNat).toNat:Int))::prs (List.flatMap ahR ps)=p::ps;rw[ih,aeu,aeu,aag Z8,aag Z8];congr 1;apply Prod.ext
  ·dsimp only;omega
  ·dsimp only;omega
theorem ahY: ∀ {ps:List (Int×Int)},(∀ p∈ps,gT p)→rK ps=true
 |[],_=>rfl
 |p::ps,h=>by rw[rK,Jg (h p bu)];exact ahY fun q hq=>h q (a8 _ hq)
structure aDJ (k g:Int) (z:Nat) (ps:List (Int×Int)):Prop where
 kind:k=1∨k=2
 gen:0≤g∧g≤2147483647
 size:z≤4096
 len:ps.length=file.aQ z
 aUD: ∀ p∈ps,gT p
theorem NA {k g:Int} {z:Nat} {ps:List (Int×Int)} (h:aDJ k g z ps):lV k g (z:Int) ps=0:=by
 obtain⟨h1,h2,h3,h4,h5⟩:=h;unfold file.aQ at h4;unfold lV;rw[Jf Z8,Jf Z8,Jf Z8,Jg (ahY h5)]
theorem amT {k g:Int} {z:Nat} {ps:List (Int×Int)} (h:aDJ k g z ps):kI (iU k g z ps)=k∧gI (iU k g z ps)=g∧zI (iU k g z ps)=(z:Int)∧pI (iU k g z ps)=ps∧sR (iU k g z ps):=by
 have hk:0≤k∧k≤2:=by have:=h.kind;omega
 have hg:=h.gen;have hz:=h.size;have e0:iU k g z ps=dN k.toNat 1++(dN g.toNat 4++(dN z 2++tG ps)):=by
  unfold iU cO.xJ;rw[dc];simp only[fu]
 have l1:=cJ k.toNat 1;have l4:=cJ g.toNat 4;have l2:=cJ z 2;have e1:kI (iU k g z ps)=k:=by
  unfold kI;rw[e0,sQ _ Z8,List.singleton_append,List.getD_cons_zero,aeu,aag Z8];omega
 have e2:gI (iU k g z ps)=g:=by
  unfold gI;rw[e0,lH.FB _ _ _ 1 5 l1 Z8,zD,aag Z8];omega
 have e3:zI (iU k g z ps)=(z:Int):=by
  unfold zI;rw[e0, ←fu,lH.FB _ _ _ 5 7 Zm Z8,zD,aag Z8]
 have e4:pI (iU k g z ps)=ps:=by
  unfold pI iU;rw[List.drop_append_of_le_length (by rw[KG];exact df _),List.drop_of_length_le (by rw[KG];exact df _),dz,aaK ps h.aUD]
 refine⟨e1,e2,e3,e4, ?_, ?_, ?_⟩
 ·rw[vU];omega
 ·rw[vU];omega
 ·rw[e1,e2,e3,e4];exact NA h
def szs (l:List bU):List Nat:=l.map fun p=>p.2.2.2.length
theorem PE (a b:List bU):szs (a++b)=szs a++szs b:=ads
theorem rO (P:List (Int×Int)): ∀ (l:List kQ) (a:Nat),szs (jE P a l)=szs (aW l)
 |[],_=>rfl
 |x::l,a=>by
  rw[jE,show aW (x::l)=kD x++aW l from rfl,PE,PE,rO P l];congr 1;unfold uH kD;split
  ·rfl
  ·rw[PE,PE];simp only[szs,gd,List.map_nil,vU,pH,List.length_replicate]
theorem pA {l:List kQ} {F:List Int} (h0: ∀ b∈aW l,eC b=0) (h1: ∀ P, ∀ b∈jE P 0 l,eC b=0): ∃ gs:List (List bU),aV (aW l)=(gs.map (fun g=>(g.length:Int)),0)∧gs.flatten=jE (eR F gs) 0 l∧ ∀ g∈gs,amQ g:=by
 obtain⟨g0,e1,e2,e3⟩:=FV h0;have hP: ∀ (gs hs:List (List bU)) (F:List Int),gs.map (fun g=>(g.length:Int))=hs.map (fun g=>(g.length:Int))→eR F gs=eR F hs:=by
  intro gs;induction gs with
  |nil=>intro hs F h;cases hs with
   |nil=>rfl
   |cons _ _=>simp at h
  |cons g gs ih=>intro hs F h;cases hs with
   |nil=>simp at h
   |cons k hs=>
    simp only[gd,afc] at h;cases F with
    |nil=>rfl
    |cons c F=>rw[eR,eR,ih hs F h.2,show g.length=k.length from by omega]
 obtain⟨gs,f1,f2,f3⟩:=FV (h1 (eR F g0));have zy:aV (jE (eR F g0) 0 l)=aV (aW l):=by
  unfold aV;rw[lI.2 h0,lI.2 (h1 _),SH _ (aW l) _ _ _ (rO _ l 0)]
 have hl:gs.map (fun g=>(g.length:Int))=g0.map (fun g=>(g.length:Int)):=by
  have:=f2.symm.trans (zy.trans e2);exact congrArg Prod.fst this
 exact⟨gs,by rw[e2,hl],by rw[f1,hP gs g0 F hl],f3⟩
end fs
namespace fs
open dZ
attribute [local irreducible] box own sl bL aH bJ Qt cN cM dG dL eQ
attribute [local irreducible] aW
theorem NQ (b:Nat) (d:FD) (s:Int) (t:Value) (qf:Option Addr) (cf:Nat) (F:List Int) (L:List RX) (qo:Option Addr) (co:Nat) (q0:Option Addr) (c0:Nat) (l:List kQ) (keep:Nat) (gs:List (List bU)) (hs:0≤s∧s≤2147483647) (hk:keep≤1000) (hl:l.length≤1000) (hp: ∀ x∈l,x.parts.length≤1000) (hN:(aW l).length≤1000000) (hF:F.length≤1000)
  (zv:aV (aW l)=(gs.map (fun g=>(g.length:Int)),0)) (zu:gs.length≤1000000) (zy:F.length<gs.length+keep∨2147483647<s+gs.length):
  Ct Tryz.prog 135 [aH b 0, .slice q0 l.length c0, .int .i64 (keep:Int)] (bC b d (.int .i64 s) t (.slice qf F.length cf) (.slice qo L.length co)::(aX d++[sl 1 (.slice qf F.length cf) (F.map fI),own (.slice qo L.length co) 87 3 L.length (flat FM L),sl 7 (.slice q0 l.length c0) (l.map mQ),many 4 (l.map xP)])) fun v H'=>v= .int .i64 9∧H'=bC b d (.int .i64 s) t (.slice qf F.length cf) (.slice qo L.length co)::(aX d++[sl 1 (.slice qf F.length cf) (F.map fI),own (.slice qo L.length co) 87 3 L.length (flat FM L)]):=by
 have BL:=KD q0 c0 l hl hp;have SP:=fun q c=>uG q c (aW l) Z8
 rw[zv] at SP;dsimp only at SP;generalize aW l=B at*;obtain⟨ns,zx⟩: ∃ ns,gs.map (fun g=>(g.length:Int))=ns:=⟨_,rfl⟩;have zw:ns.length=gs.length:=by rw[←zx,gp]
 rw[zx] at SP;rw[←zw] at zu zy;clear zx zw;obtain⟨a,ca,cs,w,cw,wl,m,cm,at1,qg,cg,aA⟩:=d;unfold bC aX;dsimp only[dw,dz];by_cases h1:F.length<ns.length+keep
 ·(refine Ye Tryz.func135 Tryz.ntmps135 ?_;intro Fr);refine kB ?_;refine Cb (BL) ?_;rintro _ _ ⟨_,⟨q1,c1,rfl,rfl⟩,rfl⟩;refine Da ?_;refine kB ?_;(refine Ca (SP _ _) ?_;rintro _ _ ⟨_,⟨q2,c2,rfl,rfl⟩,rfl⟩;refine Da ?_);refine bM ?_;exact Ea (x:=⟨rfl,rfl⟩)
 ·have h2:2147483647<s+ns.length:=Z8
  (refine Ye Tryz.func135 Tryz.ntmps135 ?_;intro Fr);refine kB ?_;refine Cb (BL) ?_;rintro _ _ ⟨_,⟨q1,c1,rfl,rfl⟩,rfl⟩;refine Da ?_;refine kB ?_;(refine Ca (SP _ _) ?_;rintro _ _ ⟨_,⟨q2,c2,rfl,rfl⟩,rfl⟩;refine Da ?_);refine bM ?_;exact Ea (x:=⟨rfl,rfl⟩)
end fs
namespace fs
structure asX (d:FD) (serial turn:Int) (pt:ByteArray) (cs2:List ByteArray) (F:List Int):Prop where
 hpt:pt=str (FP.CB (turn+1) serial (d.at'.zip d.aA))
 wf:WfM d.at' d.aA
 mM:eT d.at' d.aA
 gJ:FP.aqY (turn+1) serial
 tn: -1≤turn
 dk:bA.bZ d.cs d.ps=0
 wr:bA.bR (bA.land (fun _=>true) 0 d.cs d.ps) [] ((turn+1)%2) pt=0
 dk2:bA.bZ (bA.land (fun _=>true) 0 d.cs d.ps) [((turn+1)%2,pt)]=0
 aWS:cs2=bA.land (fun _=>true) 0 (bA.land (fun _=>true) 0 d.cs d.ps) [((turn+1)%2,pt)]
 n2:2≤cs2.length
 cnt: ∃ L,AS cs2 [] d.at' d.aA L∧F=jJ (cC (fun _=>0) L) cs2.length
attribute [local irreducible] box own sl bL aH bJ Qt cN cM dG dL eQ
theorem alB (b:Nat) (d:FD) (serial turn:Int) (f:Value) (l:List RX) (q0:Option Addr) (c0:Nat) {pt:ByteArray} {cs2:List ByteArray} {F:List Int} (hl:l.length≤100000) (h:asX d serial turn pt cs2 F):
  Ct Tryz.prog 58 [aH b 0] (bC b d (.int .i64 serial) (.int .i64 turn) f (.slice q0 l.length c0)::(aX d++[own (.slice q0 l.length c0) 87 3 l.length (flat FM l)])) fun v H'=> ∃ a ca w cw q c qf cf,v= .int .i64 0∧H'=bC b ⟨a,ca,cs2,w,cw,[],d.m,d.cm,d.at',d.g,d.cg,d.aA⟩ (.int .i64 serial) (.int .i64 (turn+1)) (.slice qf F.length cf) (.slice q (l++[(2,0,aew)]++[(1,(turn+1)%2,pt)]++[(2,0,aew)]).length c)::(aX ⟨a,ca,cs2,w,cw,[],d.m,d.cm,d.at',d.g,d.cg,d.aA⟩++[own (.slice q (l++[(2,0,aew)]++[(1,(turn+1)%2,pt)]++[(2,0,aew)]).length c) 87 3 (l++[(2,0,aew)]++[(1,(turn+1)%2,pt)]++[(2,0,aew)]).length (flat FM (l++[(2,0,aew)]++[(1,(turn+1)%2,pt)]++[(2,0,aew)])),own (.slice qf F.length cf) 3 1 F.length (flat fI F)]):=by
 obtain⟨rfl,zu,zq,zx,ht0,zt,zn,zw,rfl,zm,L,zy,rfl⟩:=h;have P0:=FP.xN d.m d.g d.cm d.cg zu zq zx;obtain⟨s1,s2,s3,s4⟩:=zx;have zr:=bA.OZ zt;have zl:=bA.rL (fun _=>true) d.ps 0 d.cs;have zv:=zr.n1;have D0:=aqW b d (.int .i64 serial) (.int .i64 turn) f l q0 c0 (by have:=zr.n1;omega) (by have:=zr.wait;omega) Z8 zt;obtain⟨a,ca,cs,w,cw,wl,m,cm,at1,qg,cg,aA⟩:=d;unfold FO at D0;unfold bC aX at*;dsimp only[dw,dz] at P0 D0 zu zq zt zn zw zm zy zl zv ⊢;generalize str (FP.CB (turn+1) serial (at1.zip aA))=pt at*;(refine Ye Tryz.func58 Tryz.ntmps58 ?_;intro Fr);refine Yw8 ?_;(refine Cc 14 (P0) ?_;rintro _ _ ⟨_,⟨rfl,rfl⟩,rfl⟩;refine Te ?_;(try refine Da ?_));refine Yw6 ?_;refine Cb (D0) ?_;rintro _ _ ⟨_,⟨a1,ca1,w1,cw1,q1,c1,rfl,rfl⟩,rfl⟩;refine Da ?_;have D1:=RY b ⟨a1,ca1,bA.land (fun _=>true) 0 cs wl,w1,cw1,[],m,cm,at1,qg,cg,aA⟩ (.int .i64 serial) (.int .i64 (turn+1)) f (l++[(2,0,aew)]) q1 c1 ((turn+1)%2) pt Zn Ja Zq zn;unfold FO bC aX at D1;dsimp only[dw,dz] at D1;refine bM ?_;refine Cb (D1) ?_;rintro _ _ ⟨_,⟨a2,ca2,w2,cw2,q2,c2,rfl,rfl⟩,rfl⟩;refine Da ?_;have D2:=aqW b ⟨a2,ca2,bA.land (fun _=>true) 0 cs wl,w2,cw2,[((turn+1)%2,pt)],m,cm,at1,qg,cg,aA⟩ (.int .i64 serial) (.int .i64 (turn+1)) f (l++[(2,0,aew)]++[(1,(turn+1)%2,pt)]) q2 c2 Zn Ja Zq zw;unfold FO bC aX at D2;dsimp only[dw,dz] at D2;refine bM ?_;refine Cb (D2) ?_;rintro _ _ ⟨_,⟨a3,ca3,w3,cw3,q3,c3,rfl,rfl⟩,rfl⟩;refine Da ?_;generalize hcs3:bA.land (fun _=>true) 0 (bA.land (fun _=>true) 0 cs wl) [((turn+1)%2,pt)]=cs3 at*;have D3:=aDB b ⟨a3,ca3,cs3,w3,cw3,[],m,cm,at1,qg,cg,aA⟩ (.int .i64 serial) (.int .i64 (turn+1)) f (.slice q3 (l++[(2,0,aew)]++[(1,(turn+1)%2,pt)]++[(2,0,aew)]).length c3) (by have:=zy.1.n1;dsimp only;omega) Ja zm zu zy;unfold bC aX at D3;dsimp only at D3;refine bM ?_;(refine Ca (D3) ?_;rintro _ _ ⟨_,⟨qf,cf,rfl,rfl⟩,rfl⟩;refine Da ?_);refine iC ?_;exact Ea (x:=⟨a3,ca3,w3,cw3,q3,c3,qf,cf,rfl,rfl⟩)
end fs
