/- Law HandStale: its texts, packed. -/
import Derived.Test.YtbjalbcdbgcgdaaGreatK37
import Derived.Test.YtbjalbcdbgcgdaaGreatK07
import Derived.Test.YtbjalbcdbgcgdaaGreatK14
import Derived.Test.YtbjalbcdbgcgdaaGreatK12
open List renaming append_assoc->ep,append_nil->jc,drop_eq_getElem_cons->cu,flatMap_append->pf,getElem?_eq_getElem->aj,getElem?_eq_some_iff->ah,getElem?_set->dj,getElem_of_mem->ph,length_append->ag,length_cons->fb,length_nil->lk,length_set->n8,length_singleton->df,length_take->b9,mem_of_getElem?->jm,replicate->eb,set_append_right->pd,take_add_one->ki,take_length->jb
open Nat renaming le_refl->aq,lt_or_ge->iq,one_ne_zero->pj,zero_le->fg
set_option linter.unusedVariables false
set_option maxRecDepth 100000
set_option maxHeartbeats 8000000
namespace Go.Proofs.YtbjalbcdbgcgdaaGreat.fV
open Go.RowKit bG sl fix PH put get
theorem awB {n:Nat} (h:n<128):(cA n).length=1:=by
 unfold cA;rw[oD 10 n h];rfl
theorem awC {n:Nat} (h: ¬ n<128) (h2:n<16384):(cA n).length=2:=by
 unfold cA;rw[zH 9 n h,oD 9 (n/128) (by omega)];rfl
theorem abP {p:bD} (h:p.2.2.2.length<128):(iT p).length=p.2.2.2.length+4:=by
 unfold iT;simp only[ag,fb,lk,awB h];omega
theorem abQ {p:bD} (h: ¬ p.2.2.2.length<128) (h2:p.2.2.2.length≤600):(iT p).length=p.2.2.2.length+5:=by
 unfold iT;simp only[ag,fb,lk,awC h (by omega)];omega
theorem ajS {p:bD} (h2:p.2.2.2.length≤600):4≤(iT p).length∧(iT p).length≤605:=by
 by_cases h:p.2.2.2.length<128
 ·rw[abP h];omega
 ·rw[abQ h h2];omega
def grF:List bD→Nat→Nat→List Int→List Int
 |[],n,_,out=>if 0<n then out++[(n:Int)] else out
 |p::l,n,sz,out=>if n=40∨1000<sz+(iT p).length then grF l 1 (2+(iT p).length) (out++[(n:Int)]) else grF l (n+1) (sz+(iT p).length) out
def bN (l:List bD):List Int×Int:=if cI l≠0 then ([],cI l) else (grF l 0 2 [],0)
attribute [local irreducible] box own sl gH aH bC Qt cJ cG dC dG eO
theorem awD (p:bD) (h:p.2.2.2.length≤600):Ct Tryz.prog 201 [.agg #[.int .i64 p.1, .int .i64 p.2.1, .int .i64 p.2.2.1, .string (str p.2.2.2)]] [] fun v H'=>v= .int .i64 (((iT p).length:Nat):Int)∧H'=[]:=by
 by_cases h1:p.2.2.2.length<128
 ·have e:(((iT p).length:Nat):Int)=3+(p.2.2.2.length:Int)+1:=by rw[abP h1];omega
  rw[e];(refine Ye Tryz.func201 Tryz.ntmps201 ?_;intro Fr);(repeat' (first|refine Wa ?_|refine We ?_|(refine Wb ?_;intro b)|fail));exact Ea (x:=⟨rfl,rfl⟩)
 ·have e:(((iT p).length:Nat):Int)=3+(p.2.2.2.length:Int)+1+1:=by rw[abQ h1 h];omega
  rw[e];(refine Ye Tryz.func201 Tryz.ntmps201 ?_;intro Fr);(repeat' (first|refine Wa ?_|refine We ?_|(refine Wb ?_;intro b)|fail));exact Ea (x:=⟨rfl,rfl⟩)
theorem vY (q:Option Addr) (c:Nat) (l:List bD) (hl:l.length≤10000000000000):
  Ct Tryz.prog 133 [.slice q l.length c] [sl 4 (.slice q l.length c) (l.map xJ)] fun v H'=> ∃ q2 c2,v= .tuple #[.slice q2 (bN l).1.length c2, .int .i64 (bN l).2]∧H'=[own (.slice q2 (bN l).1.length c2) 3 1 (bN l).1.length (flat fI (bN l).1)]:=by
 obtain⟨r,hr⟩: ∃ r,grF l 0 2 []=r:=⟨_,rfl⟩;unfold bN;rw[hr];(refine Ye Tryz.func133 Tryz.ntmps133 ?_;intro Fr);refine aZ ?_;refine aT (aY _ 3 1) ?_;(refine aC (σ:=Nat×Nat×Nat×Option Addr×Nat×List Int) (fun x=>(x.1≤l.length∧x.2.1≤40∧x.2.2.1≤1000∧x.2.2.2.2.2.length≤x.1)∧(x.2.1=0→x.2.2.1=2)∧cI (l.take x.1)=0∧grF (l.drop x.1) x.2.1 x.2.2.1 x.2.2.2.2.2=r) (fun x=>[(12, .int .i64 (x.1:Int)),(4, .slice x.2.2.2.1 x.2.2.2.2.2.length x.2.2.2.2.1),(5, .int .i64 (x.2.1:Int)),(6, .int .i64 (x.2.2.1:Int))]) (fun x=>[own (.slice x.2.2.2.1 x.2.2.2.2.2.length x.2.2.2.2.1) 3 1 x.2.2.2.2.2.length (flat fI x.2.2.2.2.2)]) _ (fun x=>l.length-x.1) ((0,0,2,none,0,[])) (by exact⟨⟨fg _,by show 0≤40;decide,by show 2≤1000;decide,aq _⟩,fun _=>rfl,rfl,hr⟩) (by exact gA) Zb (fun⟨k,n,sz,q2,c2,out⟩ ⟨⟨hk,hn,hsz,hol⟩,hnz,hf,hg⟩=> ?_);refine Da ?_);dsimp only at hk hn hsz hol hnz hf hg ⊢;rcases iJ l k with⟨p,hp,hlt⟩|hge
 ·have CK:=IG p;have hdr:l.drop k=p::l.drop (k+1):=by
   rw[cu hlt,(ah.1 hp).2]
  by_cases hz:dA p=0
  ·have hb:=kL hz;rw[hz] at CK;have SZ:=awD p hb.2.2.2.2.2.2;have hob:=ajS hb.2.2.2.2.2.2;have hf2:=tY hp hf hz;rw[hdr,grF] at hg;generalize (iT p).length=ol at*;by_cases hfull:n=40∨1000<sz+ol
   ·rw[if_pos hfull] at hg;have hn0:n≠0:=fun e=>by have:=hnz e;omega
    by_cases hn40:n=40
    ·(repeat' (first|refine Wa ?_|refine We ?_|(refine Wb ?_;intro b)|(refine Wq ?_;intro q)|refine Wc (CK ..) ?_|fail));refine aI wt rfl (by first|exact Ma (fI) [(n:Int)] rfl|exact Mb (fI) [(n:Int)] rfl) ?_;rintro _ _ ⟨q5,c5,rfl,rfl⟩;(repeat' (first|refine Wa ?_|refine We ?_|refine Wc (SZ ..) ?_|fail));refine Ee ((k+1,1,2+ol,q5,c5,out++[(n:Int)])) ?_ ?_
     ·exact⟨⟨hlt,by dsimp only;omega,by dsimp only;omega,by dsimp only;rw[ag,df];omega⟩,fun h=>absurd h pj,hf2,hg⟩
     ·dsimp only;omega
    ·have hbig:1000<sz+ol:=hfull.resolve_left hn40;(repeat' (first|refine Wa ?_|refine We ?_|(refine Wb ?_;intro b)|(refine Wq ?_;intro q)|refine Wc (CK ..) ?_|refine Wc (SZ ..) ?_|fail));refine aI wt rfl (by first|exact Ma (fI) [(n:Int)] rfl|exact Mb (fI) [(n:Int)] rfl) ?_;rintro _ _ ⟨q5,c5,rfl,rfl⟩;(repeat' (first|refine Wa ?_|refine We ?_|refine Wc (SZ ..) ?_|fail));refine Ee ((k+1,1,2+ol,q5,c5,out++[(n:Int)])) ?_ ?_
     ·exact⟨⟨hlt,by dsimp only;omega,by dsimp only;omega,by dsimp only;rw[ag,df];omega⟩,fun h=>absurd h pj,hf2,hg⟩
     ·dsimp only;omega
   ·rw[if_neg hfull] at hg;(repeat' (first|refine Wa ?_|refine We ?_|(refine Wb ?_;intro b)|refine Wc (CK ..) ?_|refine Wc (SZ ..) ?_|fail));refine Ee ((k+1,n+1,sz+ol,q2,c2,out)) ?_ ?_
    ·exact⟨⟨hlt,by dsimp only;omega,by dsimp only;omega,by dsimp only;omega⟩,fun h=>absurd h (Nat.succ_ne_zero n),hf2,hg⟩
    ·dsimp only;omega
  ·rw[if_pos (by rw[vJ hp hf hz];exact hz),vJ hp hf hz];(repeat' (first|refine Wa ?_|refine We ?_|(refine Wb ?_;intro b)|refine Wc (CK ..) ?_|fail));exact Ea (x:=⟨none,0,rfl,rfl⟩)
 ·have hkl:k=l.length:=by omega
  subst hkl;rw[jb] at hf;rw[if_neg (by rw[hf];exact fun h=>h rfl)];rw[List.drop_length,grF] at hg;by_cases hn0:0<n
  ·rw[if_pos hn0] at hg;subst hg;(repeat' (first|refine Wa ?_|refine We ?_|(refine Wq ?_;intro q)|fail));refine aI wt rfl (by first|exact Ma (fI) [(n:Int)] rfl|exact Mb (fI) [(n:Int)] rfl) ?_;rintro _ _ ⟨q5,c5,rfl,rfl⟩;refine aZ ?_;exact Ea (x:=⟨q5,c5,rfl,rfl⟩)
  ·rw[if_neg hn0] at hg;subst hg;refine aZ ?_;exact Ea (x:=⟨q2,c2,rfl,rfl⟩)
end Go.Proofs.YtbjalbcdbgcgdaaGreat.fV
namespace Go.Proofs.YtbjalbcdbgcgdaaGreat.fs
open Go.RowKit bG sl aX use dO fV
structure tD where
 pl:Int×Int
 text:List UInt8
 fresh:Bool
def jD (p:tD):List Value:=[.int .i64 p.pl.1, .int .i64 p.pl.2, .string (str p.text), .bool p.fresh]
structure lS where
 ino:Int
 k:Int
 g:Int
 z:Int
 nq:Option Addr
 nl:Nat
 nc:Nat
 parts:List tD
 q:Option Addr
 c:Nat
 gone:Bool
def BJ (x:lS):List Value:=[.int .i64 x.ino, .int .i64 x.k, .int .i64 x.g, .int .i64 x.z,Value.slice x.nq x.nl x.nc, .slice x.q x.parts.length x.c, .bool x.gone]
def PW (x:lS):Value×List (List Value):=(.slice x.q x.parts.length x.c,x.parts.map jD)
def bY (n:Int):List tD→Nat→List bD
 |[],_=>[]
 |p::t,i=>if p.fresh=true then (1,n,(i:Int),p.text)::bY n t (i+1) else bY n t (i+1)
def iZ (x:lS):List bD:=if x.gone=true then [(3,x.ino,0,[])] else bY x.ino x.parts 0++[(2,x.ino,0,eb (7+2*x.parts.length) 0)]
def aQ (l:List lS):List bD:=l.flatMap iZ
theorem afT (n:Int): ∀ (t:List tD) (p:tD) (i:Nat),bY n (t++[p]) i=bY n t i++bY n [p] (i+t.length):=by
 intro t;induction t with
 |nil=>intro p i;rfl
 |cons x t ih=>
  intro p i;rw[List.cons_append,bY,bY,ih,fb,show i+1+t.length=i+(t.length+1) from by omega];split<;>rfl
theorem abR {l:List lS} {i:Nat} {x:lS} (h:l[i]? =some x):aQ (l.take (i+1))=aQ (l.take i)++iZ x:=by
 unfold aQ;rw[ki,h,pf];simp
theorem abS {n:Int} {t:List tD} {i:Nat} {p:tD} (h:t[i]? =some p):bY n (t.take (i+1)) 0=bY n (t.take i) 0++bY n [p] i:=by
 obtain⟨hlt,_⟩:=ah.1 h;rw[ki,h,Option.toList_some,afT,b9,Nat.zero_add,Nat.min_eq_left (Nat.le_of_lt hlt)]
theorem NS (n:Int): ∀ (t:List tD) (i:Nat),(bY n t i).length≤t.length:=by
 intro t;induction t with
 |nil=>intro i;exact aq _
 |cons x t ih=>
  intro i;have:=ih (i+1);rw[bY];split<;>(simp only[fb];omega)
attribute [local irreducible] box own sl gH aH bC Qt cJ cG dC dG eO
theorem SV (q0:Option Addr) (c0:Nat) (l:List lS) (hl:l.length≤1000) (hp: ∀ x∈l,x.parts.length≤1000):
  Ct Tryz.prog 134 [.slice q0 l.length c0] [sl 7 (.slice q0 l.length c0) (l.map BJ),many 4 (l.map PW)] fun v H'=> ∃ q c,v= .slice q (aQ l).length c∧H'=[own (.slice q (aQ l).length c) 175 4 (aQ l).length (flat xJ (aQ l))]:=by
 (refine Ye Tryz.func134 Tryz.ntmps134 ?_;intro Fr);refine dN ?_;refine aT (aY _ 175 4) ?_;(refine aC (σ:=Nat×Option Addr×Nat) (fun x=>x.1≤l.length∧(aQ (l.take x.1)).length≤1001*x.1) (fun x=>[(10, .int .i64 (x.1:Int)),(3, .slice x.2.1 (aQ (l.take x.1)).length x.2.2)]) (fun x=>[own (.slice x.2.1 (aQ (l.take x.1)).length x.2.2) 175 4 (aQ (l.take x.1)).length (flat xJ (aQ (l.take x.1)))]) _ (fun x=>l.length-x.1) ((0,none,0)) (by exact⟨fg _,fg _⟩) (by exact gA) Zb (fun⟨i,q,c⟩ ⟨hi,hB⟩=> ?_);refine Da ?_);dsimp only at hi hB ⊢;have one: ∀ y, ∀ u∈xJ y,u.oneCell'=true:=by simp [xJ,Value.oneCell']
 rcases iq i l.length with hlt|hge
 ·obtain⟨⟨ino,k,g,z,nq,nl,nc,ps,qp,cp,gone⟩,hx⟩: ∃ x,l[i]? =some x:=⟨_,aj hlt⟩;have hmem:=jm hx;have hps:=hp _ hmem;have hnext:=abR hx;dsimp only at hps;cases gone with
  |true=>
   have hnx:aQ (l.take (i+1))=aQ (l.take i)++[(3,ino,0,[])]:=hnext;have hln:(aQ (l.take (i+1))).length=(aQ (l.take i)).length+1:=by rw[hnx,ag];rfl
   (repeat' (first|refine Wa ?_|refine We ?_|(refine Wb ?_;intro b)|(refine Wq ?_;intro q)|fail));dsimp only[BJ]
   skip
   (refine aI wt (by rfl) (by first|exact Ma (xJ) [(3,ino,0,[])] rfl|exact Mb (xJ) [(3,ino,0,[])] rfl) ?_;rintro _ _ ⟨q5,c5,rfl,rfl⟩);rw[←hnx];refine eU ?_;refine Ee ((i+1,q5,c5)) ?_ ?_
   ·exact⟨hlt,by dsimp only;omega⟩
   ·dsimp only;omega
  |false=>
   have hnx:aQ (l.take (i+1))=aQ (l.take i)++(bY ino ps 0++[(2,ino,0,eb (7+2*ps.length) 0)]):=hnext;generalize hA:aQ (l.take i)=A at*;(repeat' (first|refine Wa ?_|refine We ?_|(refine Wb ?_;intro b)|fail));dsimp only[BJ]
   skip
   refine aT (zR (l:=l.map PW) (v:= .slice qp ps.length cp) (rows:=ps.map jD) aN (List.mem_map_of_mem (f:=PW) hmem)) ?_;rw[show A=A++bY ino (ps.take 0) 0 from (jc _).symm];(refine aC (σ:=Nat×Option Addr×Nat) (fun x=>x.1≤ps.length) (fun x=>[(25, .int .i64 (x.1:Int)),(3, .slice x.2.1 (A++bY ino (ps.take x.1) 0).length x.2.2)]) (fun x=>[own (.slice x.2.1 (A++bY ino (ps.take x.1) 0).length x.2.2) 175 4 (A++bY ino (ps.take x.1) 0).length (flat xJ (A++bY ino (ps.take x.1) 0))]) _ (fun x=>ps.length-x.1) ((0,q,c)) Zp (by exact gA) Zb (fun⟨j,q2,c2⟩ hj=> ?_);refine Da ?_);dsimp only at hj ⊢;rcases iq j ps.length with hltj|hgej
   ·obtain⟨⟨⟨p1,p2⟩,text,fresh⟩,hy⟩: ∃ y,ps[j]? =some y:=⟨_,aj hltj⟩;have hnj:=abS (n:=ino) hy;have hbl:=NS ino (ps.take j) 0;rw[b9] at hbl;have hAl:(A++bY ino (ps.take j) 0).length≤1001*i+j:=by rw[ag];omega
    cases fresh with
    |true=>
     have hnj2:A++bY ino (ps.take (j+1)) 0=A++bY ino (ps.take j) 0++[(1,ino,(j:Int),text)]:=by rw[hnj,ep];rfl
     generalize A++bY ino (ps.take j) 0=B at*;(repeat' (first|refine Wa ?_|refine We ?_|(refine Wb ?_;intro b)|(refine Wq ?_;intro q)|fail));dsimp only[jD]
     skip
     (refine aI wt (by rfl) (by first|exact Ma (xJ) [(1,ino,(j:Int),text)] rfl|exact Mb (xJ) [(1,ino,(j:Int),text)] rfl) ?_;rintro _ _ ⟨q6,c6,rfl,rfl⟩);rw[←hnj2];refine eU ?_;refine Ee ((j+1,q6,c6)) ?_ ?_
     ·exact hltj
     ·dsimp only;omega
    |false=>
     have hnj2:A++bY ino (ps.take (j+1)) 0=A++bY ino (ps.take j) 0:=by rw[hnj];exact congrArg _ (jc _)
     (repeat' (first|refine Wa ?_|refine We ?_|(refine Wb ?_;intro b)|fail));dsimp only[jD]
     skip
     rw[←hnj2];refine Ee ((j+1,q2,c2)) ?_ ?_
     ·exact hltj
     ·dsimp only;omega
   ·obtain rfl:j=ps.length:=by omega
    rw[jb];have hbl:=NS ino ps 0;have hBl:(A++bY ino ps 0).length≤1001*i+ps.length:=by rw[ag];omega
    rw[←ep] at hnx;generalize A++bY ino ps 0=B at*;have hN:(7+2*(ps.length:Int))=((7+2*ps.length:Nat):Int):=by omega
    refine dN ?_;(refine aB (Hq:=[_]) [2] [] rfl (by kernel_rfl) Za ?_);refine gX ?_;rw[hN];(refine aA 8 ?_;refine Oa (l:=by exact (cT (fY) (0) (c:=7+2*ps.length) rfl rfl rfl Ze Ze rfl rfl (by omega) Zg)) (k:= ?_);rintro _ _ ⟨q7,rfl,rfl⟩;refine Te ?_;(try refine Da ?_));refine gX ?_;(refine aA 11 ?_;refine Oa (l:=by exact aM rfl rfl rfl (by exact lE) rfl rfl (by decide) rfl) (k:= ?_);rintro _ _ ⟨q8,rfl,rfl⟩;refine Te ?_;(try refine Da ?_));(refine aA 12 ?_;refine Oa (l:=by exact (by first|exact Ma (xJ) [(2,ino,0,eb (7+2*ps.length) 0)] rfl|exact Mb (xJ) [(2,ino,0,eb (7+2*ps.length) 0)] rfl)) (k:= ?_);rintro _ _ ⟨q9,c9,rfl,rfl⟩;refine Te ?_;(try refine Da ?_));rw[←hnx];have hln:=congrArg List.length hnx;rw[ag,df] at hln;refine pT ?_;refine Ee ((i+1,q9,c9)) ?_ ?_
    ·exact⟨hlt,by dsimp only;omega⟩
    ·dsimp only;omega
 ·obtain rfl:i=l.length:=by omega
  rw[jb];refine aZ ?_;exact Ea (x:=⟨q,c,rfl,rfl⟩)
end Go.Proofs.YtbjalbcdbgcgdaaGreat.fs
namespace Go.Proofs.YtbjalbcdbgcgdaaGreat.dO
open Go.RowKit bG sl
attribute [local irreducible] box own sl gH aH bC Qt cJ cG dC dG eO
theorem zQ (a g:Option Addr) (ca cg:Nat) (ps:List (Int×Int)) (gs:List Int) (h1:ps.length=48) (h2:gs.length=48):
  Ct Tryz.prog 229 [.agg #[.slice a ps.length ca, .slice g gs.length cg]] [sl 2 (.slice a ps.length ca) (ps.map jW),sl 1 (.slice g gs.length cg) (gs.map fI)] fun v H'=> ∃ qa ca qg cg,v= .agg #[.slice qa ps.length ca, .slice qg gs.length cg]∧H'=[own (.slice qa ps.length ca) 77 2 ps.length (flat jW ps),own (.slice qg gs.length cg) 3 1 gs.length (flat fI gs)]:=by
 (refine Ye Tryz.func229 Tryz.ntmps229 ?_;intro Fr);(repeat' (first|refine Wa ?_|refine Wk ?_|refine aF ?_|(refine Wb ?_;intro b)|(refine Wq ?_;intro q)|(refine Ws ?_ ?_<;>intro h)|refine Wz ?_|fail));(refine aB (Hq:=[_]) [1] [7] rfl (by kernel_rfl) Za ?_);(repeat' (first|refine Wa ?_|refine Wk ?_|refine We ?_|(refine Wb ?_;intro b)|(refine Wq ?_;intro q)|(refine Ws ?_ ?_<;>intro h)|refine Wz ?_|fail));(refine aA 2 ?_;refine Oa (l:=by exact oA rfl rfl rfl (by exact aN) (by intro _;rfl) Zc rfl (by omega) Zg) (k:= ?_);rintro _ _ ⟨qa,ca1,rfl,rfl⟩;refine Te ?_;(try refine Da ?_));(repeat' (first|refine Wa ?_|refine Wk ?_|refine We ?_|(refine Wb ?_;intro b)|(refine Wq ?_;intro q)|(refine Ws ?_ ?_<;>intro h)|refine Wz ?_|fail));(refine aA 5 ?_;refine Oa (l:=by exact oA rfl rfl rfl (by exact aN) (by intro _;rfl) Zc rfl (by omega) Zg) (k:= ?_);rintro _ _ ⟨qg,cg1,rfl,rfl⟩;refine Te ?_;(try refine Da ?_));(repeat' (first|refine Wa ?_|refine Wk ?_|refine We ?_|(refine Wb ?_;intro b)|(refine Wq ?_;intro q)|(refine Ws ?_ ?_<;>intro h)|refine Wz ?_|fail));exact Ea (x:=⟨_,_,_,_,rfl,rfl⟩)
theorem aFA (a g:Option Addr) (ca cg:Nat) {ps:List (Int×Int)} {gs:List Int} {k:Nat} {p:Int×Int} (hw:WfM ps gs) (h:dP ps gs) (hk:k<48) (ho:fH p) (hp:p.1≠0):
  Ct Tryz.prog 160 [.agg #[.slice a ps.length ca, .slice g gs.length cg], .int .i64 (k:Int), .agg #[.int .i64 p.1, .int .i64 p.2]] [sl 2 (.slice a ps.length ca) (ps.map jW),sl 1 (.slice g gs.length cg) (gs.map fI)] fun v H'=> ∃ qa ca qg cg,v= .tuple #[.agg #[.slice qa (ps.set k p).length ca, .slice qg gs.length cg], .int .i64 0]∧H'=[own (.slice qa (ps.set k p).length ca) 77 2 (ps.set k p).length (flat jW (ps.set k p)),own (.slice qg gs.length cg) 3 1 gs.length (flat fI gs)]:=by
 have CK:=lY (.slice a ps.length ca) (.slice g gs.length cg) hw h;obtain⟨h1,h2,h3⟩:=h;clear h3 hw;have LK:=zQ a g ca cg ps gs h1 h2;have RT:=KM p;rw[decide_eq_true ho] at RT;clear ho;obtain⟨p0,hp0⟩: ∃ p0,ps[k]? =some p0:=⟨_,aj (by omega)⟩;have hs1:(ps.set k p).length=ps.length:=n8;(refine Ye Tryz.func160 Tryz.ntmps160 ?_;intro Fr);(repeat' (first|refine Wa ?_|refine Wk ?_|refine We ?_|(refine Wb ?_;intro b)|(refine Wq ?_;intro q)|refine Wc (CK ..) ?_|refine Wc (RT ..) ?_|(refine Ws ?_ ?_<;>intro h)|refine Wz ?_|fail));(refine Ca (LK) ?_;rintro _ _ ⟨_,⟨q1,c1,q2,c2,rfl,rfl⟩,rfl⟩;refine Da ?_);(repeat' (first|refine Wa ?_|refine Wk ?_|refine We ?_|(refine Wb ?_;intro b)|(refine Wq ?_;intro q)|(refine Ws ?_ ?_<;>intro h)|refine Wz ?_|fail));(refine cM wt (aG (f:=jW) (q':=p) rfl rfl rfl rfl (by exact aN) rfl (by omega) (by intro _;rfl) (by assumption) rfl rfl (by rfl)) ?_;rintro _ _ ⟨rfl,rfl⟩);rw[←hs1];(repeat' (first|refine Wa ?_|refine Wk ?_|refine We ?_|(refine Wb ?_;intro b)|(refine Wq ?_;intro q)|(refine Ws ?_ ?_<;>intro h)|refine Wz ?_|fail));exact Ea (x:=⟨_,_,_,_,rfl,rfl⟩)
theorem VR (a g:Option Addr) (ca cg:Nat) {ps:List (Int×Int)} {gs:List Int} {k:Nat} {p0:Int×Int} {g0:Int} (hw:WfM ps gs) (h:dP ps gs) (hk:k<48) (hp0:ps[k]? =some p0) (hg0:gs[k]? =some g0) (hp:p0.1≠0) (hg:g0<2147483647):
  Ct Tryz.prog 161 [.agg #[.slice a ps.length ca, .slice g gs.length cg], .int .i64 (k:Int)] [sl 2 (.slice a ps.length ca) (ps.map jW),sl 1 (.slice g gs.length cg) (gs.map fI)] fun v H'=> ∃ qa ca qg cg,v= .tuple #[.agg #[.slice qa (ps.set k (0,0)).length ca, .slice qg (gs.set k (g0+1)).length cg], .int .i64 0]∧H'=[own (.slice qa (ps.set k (0,0)).length ca) 77 2 (ps.set k (0,0)).length (flat jW (ps.set k (0,0))),own (.slice qg (gs.set k (g0+1)).length cg) 3 1 (gs.set k (g0+1)).length (flat fI (gs.set k (g0+1)))]:=by
 have CK:=lY (.slice a ps.length ca) (.slice g gs.length cg) hw h;obtain⟨h1,h2,h3⟩:=h;have LK:=zQ a g ca cg ps gs h1 h2;obtain⟨_,hb1,hb2⟩:=h3 k (by omega) p0 g0 hp0 hg0;clear h3 hw;have hs1:(ps.set k (0,0)).length=ps.length:=n8;have hs2:(gs.set k (g0+1)).length=gs.length:=n8;(refine Ye Tryz.func161 Tryz.ntmps161 ?_;intro Fr);(repeat' (first|refine Wa ?_|refine Wk ?_|refine We ?_|(refine Wb ?_;intro b)|(refine Wq ?_;intro q)|refine Wc (CK ..) ?_|(refine Ws ?_ ?_<;>intro h)|refine Wz ?_|fail));(refine Ca (LK) ?_;rintro _ _ ⟨_,⟨q1,c1,q2,c2,rfl,rfl⟩,rfl⟩;refine Da ?_);(repeat' (first|refine Wa ?_|refine Wk ?_|refine We ?_|(refine Wb ?_;intro b)|(refine Wq ?_;intro q)|(refine Ws ?_ ?_<;>intro h)|refine Wz ?_|fail));(refine cM wt (aG (f:=jW) (q':=(0,0)) rfl rfl rfl rfl (by exact aN) rfl (by omega) (by intro _;rfl) (by assumption) rfl rfl (by rfl)) ?_;rintro _ _ ⟨rfl,rfl⟩);rw[←hs1];(repeat' (first|refine Wa ?_|refine Wk ?_|refine We ?_|(refine Wb ?_;intro b)|(refine Wq ?_;intro q)|(refine Ws ?_ ?_<;>intro h)|refine Wz ?_|fail));(refine cM wt (aG (f:=fI) (q':=g0+1) rfl rfl rfl rfl (by exact aN) rfl (by omega) (by intro _;rfl) (by assumption) rfl rfl (by rfl)) ?_;rintro _ _ ⟨rfl,rfl⟩);rw[←hs2];(repeat' (first|refine Wa ?_|refine Wk ?_|refine We ?_|(refine Wb ?_;intro b)|(refine Wq ?_;intro q)|(refine Ws ?_ ?_<;>intro h)|refine Wz ?_|fail));exact Ea (x:=⟨_,_,_,_,rfl,rfl⟩)
end Go.Proofs.YtbjalbcdbgcgdaaGreat.dO
namespace Go.Proofs.YtbjalbcdbgcgdaaGreat.dE
open Go.RowKit bG sl fix dO
def abT (p:Int×Int):List UInt8:=dM p.1.toNat 1++dM p.2.toNat 1
def qA (l:List (Int×Int)):List UInt8:=l.flatMap abT
def tZ (k g z:Int):List UInt8:=dM k.toNat 1++dM g.toNat 4++dM z.toNat 2
def gC (k g z:Int) (ps:List (Int×Int)):List UInt8:=tZ k g z++qA ps
attribute [local irreducible] box own sl gH aH bC Qt cJ cG dC dG eO
theorem uN (k g z:Int) (q:Option Addr) (c:Nat) (ps:List (Int×Int)) (hk:0≤k∧k≤2147483647) (hg:0≤g∧g≤2147483647) (hz:0≤z∧z≤2147483647) (hl:ps.length≤1000) (hpt: ∀ p∈ps,fH p) (h:jZ k g z ps=0):
  Ct Tryz.prog 250 [.agg #[.int .i64 k, .int .i64 g, .int .i64 z, .slice q ps.length c]] [sl 2 (.slice q ps.length c) (ps.map jW)] fun v H'=>v= .tuple #[.string (str (gC k g z ps)), .int .i64 0]∧H'=[]:=by
 have C0:=KO k g z q c ps (wfi hk) (wfi hg) (wfi hz) (by omega);rw[h] at C0;have F1:=lG k 1 (by decide) (by omega);have F2:=lG g 4 (by decide) (by omega);have F3:=lG z 2 (by decide) (by omega);have l1:=bQ k.toNat 1;have l2:=bQ g.toNat 4;have l3:=bQ z.toNat 2;unfold gC tZ;generalize dM k.toNat 1=f1 at*;generalize dM g.toNat 4=f2 at*;generalize dM z.toNat 2=f3 at*;(refine Ye Tryz.func250 Tryz.ntmps250 ?_;intro Fr);(repeat' (first|refine Wa ?_|refine Wk ?_|refine We ?_|(refine Wb ?_;intro b)|(refine Wq ?_;intro q)|refine Wc (C0 ..) ?_|refine Wc (F1 ..) ?_|refine Wc (F2 ..) ?_|refine Wc (F3 ..) ?_|(refine Ws ?_ ?_<;>intro h)|refine Wz ?_|fail));(refine aC (σ:=Nat×List UInt8) (fun s=>s.1≤ps.length∧s.2=f1++f2++f3++qA (ps.take s.1)∧s.2.length≤7+2*s.1) (fun s=>[(30, .int .i64 (s.1:Int)),(5, .string (str s.2))]) (fun s=>[]) _ (fun s=>ps.length-s.1) ((0,f1++f2++f3)) (by exact⟨fg _,(jc _).symm,by simp only[ag];omega⟩) (by exact gA) Zb (fun⟨j,o⟩ ⟨hj,ho,hol⟩=> ?_);refine Da ?_);dsimp only at hj ho hol ⊢;rcases iq j ps.length with hlt|hge
 ·obtain⟨p,hp⟩: ∃ p,ps[j]? =some p:=⟨_,aj hlt⟩;obtain⟨o1,o2,o3,o4,_,_⟩:=hpt p (jm hp);have G1:=lG p.1 1 (by decide) (by omega);have G2:=lG p.2 1 (by decide) (by omega);have hn:qA (ps.take (j+1))=qA (ps.take j)++(dM p.1.toNat 1++dM p.2.toNat 1):=by unfold qA;rw[ki,hp,pf];simp [abT]
  have m1:=bQ p.1.toNat 1;have m2:=bQ p.2.toNat 1;generalize dM p.1.toNat 1=e1 at*;generalize dM p.2.toNat 1=e2 at*;(repeat' (first|refine Wa ?_|refine Wk ?_|refine We ?_|(refine Wb ?_;intro b)|(refine Wq ?_;intro q)|refine Wc (G1 ..) ?_|refine Wc (G2 ..) ?_|(refine Ws ?_ ?_<;>intro h)|refine Wz ?_|fail));refine Ee ((j+1,o++(e1++e2))) ?_ ?_
  ·exact⟨hlt,by rw[hn,ho];simp only[ep],by simp only[ag];omega⟩
  ·dsimp only;omega
 ·obtain rfl:j=ps.length:=by omega
  rw[jb] at ho;rw[←ho];clear ho;(repeat' (first|refine Wa ?_|refine Wk ?_|refine We ?_|(refine Wb ?_;intro b)|(refine Wq ?_;intro q)|(refine Ws ?_ ?_<;>intro h)|refine Wz ?_|fail));exact Ea (x:=⟨rfl,rfl⟩)
end Go.Proofs.YtbjalbcdbgcgdaaGreat.dE
namespace Go.Proofs.YtbjalbcdbgcgdaaGreat.fs
open Go.RowKit bG sl aX use dO fV dE
abbrev qC:=List (Int×Int)×List Int
def lT (P:List (Int×Int)):Nat→List tD→List (Int×Int)
 |_,[]=>[]
 |a,p::t=>if p.fresh=true then P[a]?.getD (0,0)::lT P (a+1) t else p.pl::lT P a t
def nM:List tD→Nat
 |[]=>0
 |p::t=>if p.fresh=true then nM t+1 else nM t
def rG (P:List (Int×Int)) (a:Nat) (x:lS):List bD:=if x.gone=true then [(3,x.ino,0,[])] else bY x.ino x.parts 0++[(2,x.ino,0,gC x.k x.g x.z (lT P a x.parts))]
def gP (P:List (Int×Int)):Nat→List lS→List bD
 |_,[]=>[]
 |a,x::t=>rG P a x++gP P (a+(iZ x).length) t
def fQ (P:List (Int×Int)) (a:Nat) (m:qC) (x:lS):qC:=
 if x.gone=true then (m.1.set x.ino.toNat (0,0),m.2.set x.ino.toNat (m.2[x.ino.toNat]?.getD 0+1)) else (m.1.set x.ino.toNat (P[a+nM x.parts]?.getD (0,0)),m.2)
def gQ (P:List (Int×Int)):Nat→qC→List lS→qC
 |_,m,[]=>m
 |a,m,x::t=>gQ P (a+(iZ x).length) (fQ P a m x) t
def afU (P:List (Int×Int)) (a:Nat) (m:qC) (x:lS):Prop:=
 ∃ i:Nat,x.ino=(i:Int)∧i<48∧
  (x.gone=true→ ∃ p0 g0,m.1[i]? =some p0∧m.2[i]? =some g0∧p0.1≠0∧g0<2147483647)∧
  (x.gone = false → (0 ≤ x.k ∧ x.k ≤ 2147483647) ∧ (0 ≤ x.g ∧ x.g ≤ 2147483647) ∧ (0 ≤ x.z ∧ x.z ≤ 2147483647) ∧ x.parts.length ≤ 1000 ∧ a + nM x.parts < P.length ∧
   (∀ p ∈ lT P a x.parts, fH p) ∧ jZ x.k x.g x.z (lT P a x.parts) = 0 ∧ ∃ p, P[a + nM x.parts]? = some p ∧ fH p ∧ p.1 ≠ 0)
def oW (P:List (Int×Int)):Nat→qC→List lS→Prop
 |_,_,[]=>True
 |a,m,x::t=>afU P a m x∧oW P (a+(iZ x).length) (fQ P a m x) t
theorem jT (n:Int): ∀ (t:List tD) (i:Nat),(bY n t i).length=nM t:=by
 intro t;induction t with
 |nil=>intro i;rfl
 |cons p t ih=>
  intro i;rw[bY,nM];split
  ·rw[fb,ih]
  ·rw[ih]
theorem mY (P:List (Int×Int)): ∀ (t:List tD) (a:Nat),(lT P a t).length=t.length:=by
 intro t;induction t with
 |nil=>intro a;rfl
 |cons p t ih=>
  intro a;rw[lT];split<;>rw[fb,fb,ih]
theorem NU: ∀ t:List tD,nM t≤t.length
 |[]=>aq _
 |p::t=>by
  have:=NU t;rw[nM,fb];split<;>omega
theorem mH (x:lS):(iZ x).length=if x.gone=true then 1 else nM x.parts+1:=by
 unfold iZ;split
 ·rfl
 ·rw[ag,jT,df]
theorem EE (P:List (Int×Int)) (a:Nat) (x:lS):(rG P a x).length=(iZ x).length:=by
 rw[mH];unfold rG;split
 ·rfl
 ·rw[ag,jT,df]
theorem aoO {P:List (Int×Int)} {l:List tD} {j a:Nat} {p:tD} (h:l[j]? =some p):lT P a (l.drop j)=if p.fresh=true then P[a]?.getD (0,0)::lT P (a+1) (l.drop (j+1)) else p.pl::lT P a (l.drop (j+1)):=by
 obtain⟨h1,e1⟩:=ah.1 h;rw[cu h1,e1,lT]
theorem awE {l:List tD} {j:Nat} {p:tD} (h:l[j]? =some p):nM (l.drop j)=if p.fresh=true then nM (l.drop (j+1))+1 else nM (l.drop (j+1)):=by
 obtain⟨h1,e1⟩:=ah.1 h;rw[cu h1,e1,nM]
theorem aoP {P:List (Int×Int)} {l:List lS} {i a:Nat} {m:qC} {x:lS} (h:l[i]? =some x):gP P a (l.drop i)=rG P a x++gP P (a+(iZ x).length) (l.drop (i+1))∧gQ P a m (l.drop i)=gQ P (a+(iZ x).length) (fQ P a m x) (l.drop (i+1))∧(oW P a m (l.drop i)→afU P a m x∧oW P (a+(iZ x).length) (fQ P a m x) (l.drop (i+1)))∧aQ (l.drop i)=iZ x++aQ (l.drop (i+1)):=by
 obtain⟨h1,e1⟩:=ah.1 h;rw[cu h1,e1];exact⟨rfl,rfl,id,rfl⟩
theorem awF {D R:List bD} {X:List bD} {b c:bD}:(D++(X++[b])++R).set (D.length+X.length) c=D++(X++[c])++R:=by
 rw[ep,pd _ _ (by omega),show D.length+X.length-D.length=X.length from by omega,ep,pd _ _ (aq _),Nat.sub_self];simp
theorem abU {at':List (Int×Int)} {aE:List Int} {i:Nat} {p:Int×Int} (h:dP at' aE) (hp:fH p):dP (at'.set i p) aE:=by
 obtain⟨h1,h2,h3⟩:=h;refine⟨by rw[n8];exact h1,h2,fun j hj q g hq hg=> ?_⟩;rw[dj] at hq;split at hq
 ·split at hq
  ·cases hq;obtain⟨q0,hq0⟩: ∃ q0,at'[j]? =some q0:=⟨_,aj (by omega)⟩;exact⟨hp,(h3 j hj q0 g hq0 hg).2⟩
  ·cases hq
 ·exact h3 j hj q g hq hg
theorem awG {at':List (Int×Int)} {aE:List Int} {i:Nat} {z:Int} (h:dP at' aE) (hz:0≤z∧z≤2147483647):dP at' (aE.set i z):=by
 obtain⟨h1,h2,h3⟩:=h;refine⟨h1,by rw[n8];exact h2,fun j hj q g hq hg=> ?_⟩;rw[dj] at hg;split at hg
 ·split at hg
  ·cases hg;obtain⟨g0,hg0⟩: ∃ g0,aE[j]? =some g0:=⟨_,aj (by omega)⟩;exact⟨(h3 j hj q g0 hq hg0).1,hz⟩
  ·cases hg
 ·exact h3 j hj q g hq hg
theorem aoQ:fH (0,0):=by decide
theorem IY {at':List (Int×Int)} {aE:List Int} (h:dP at' aE):WfM at' aE:=by
 obtain⟨h1,h2,h3⟩:=h;refine⟨fun p hp=> ?_,fun z hz=> ?_,by omega,by omega⟩
 ·obtain⟨j,hj,rfl⟩:=ph hp;obtain⟨o1,o2,o3,o4,_,_⟩:=(h3 j (by omega) _ aE[j] (aj hj) (aj (by omega))).1;exact⟨wfi (by omega),wfi (by omega)⟩
 ·obtain⟨j,hj,rfl⟩:=ph hz;exact wfi (h3 j (by omega) at'[j] _ (aj (by omega)) (aj hj)).2
theorem TA {P:List (Int×Int)} {a:Nat} {m:qC} {x:lS} (h:dP m.1 m.2) (hs:afU P a m x):dP (fQ P a m x).1 (fQ P a m x).2:=by
 obtain⟨i,hi,hlt,hg,ho⟩:=hs;have h3:=h.2.2;unfold fQ;rw[hi,Int.toNat_natCast];split
 ·next e=>
  obtain⟨p0,g0,h0,h1,_,hb⟩:=hg e;rw[h1];have:=(h3 i hlt p0 g0 h0 h1).2;exact awG (abU h aoQ) (by dsimp only[Option.getD_some];omega)
 ·next e=>
  obtain⟨_,_,_,_,_,_,_,p,hp,hpo,_⟩:=ho (by simpa using e);rw[hp];exact abU h hpo
theorem TB {P:List (Int×Int)}: ∀ (l:List lS) (a:Nat) (m:qC),dP m.1 m.2→oW P a m l→dP (gQ P a m l).1 (gQ P a m l).2
 |[],_,_,h,_=>h
 |x::t,a,m,h,⟨h1,h2⟩=>TB t _ _ (TA h h1) h2
end Go.Proofs.YtbjalbcdbgcgdaaGreat.fs
