/- FsOps, packed. -/
import Derived.Test.YtbjalbcdbgcgdaaGreatOQ
import Derived.Test.YtbjalbcdbgcgdaaGreatO17
import Derived.Test.YtbjalbcdbgcgdaaGreatO00
import Derived.Test.YtbjalbcdbgcgdaaGreatO15
import Derived.Test.YtbjalbcdbgcgdaaGreatO04
import Derived.Test.YtbjalbcdbgcgdaaGreatO06
open Go.Proofs.Tryz renaming prog->lk
open List renaming append_nil->ke,cons_append->dw,flatMap_cons->abw,flatMap_nil->afq,getElem?_eq_getElem->ak,getElem?_eq_some_iff->aj,length_append->ae,length_cons->dv,length_map->gp,length_nil->gr,map_cons->gd,map_nil->gu,mem_append->ei,mem_cons->al,mem_cons_of_mem->a8,mem_cons_self->bu,mem_map->fa,mem_of_getElem?->jg,mem_singleton->eh,nil_append->dz,not_mem_nil->ck,perm_append_comm->afs,replicate->du,take_zero->acb
open Nat renaming le_refl->df,zero_add->dj,zero_le->fe
open Option renaming map_eq_some_iff->dh,some.inj->a7
open Bool renaming eq_false_iff->nh,or_false->afv
open Go.Value renaming oneCell'->a6
set_option linter.unusedVariables false
set_option maxRecDepth 100000
set_option maxHeartbeats 8000000
namespace Go.Proofs.YtbjalbcdbgcgdaaGreat
open Go.RowKit bA bO cK sl use
namespace fs
open dZ cO file dir uU
section
variable {X:iV} {tab:cT} {pm pn ino:Nat} {x y:Nd} {bL name:List UInt8} {A B:List (List UInt8)} {lx ly:List UInt8} {px py:List tF}
def II (n:Nat) (l:List UInt8) (E:List bH) (nq:Option Addr) (nl nc:Nat) (ps:List tF) (q:Option Addr) (c:Nat):kQ:=⟨(n:Int),kI l,gI l,((gG E).length:Int),nq,nl,nc,ps,q,c,false⟩
theorem LL {n:Nat} {l:List UInt8} {E:List bH} {nq:Option Addr} {nl nc:Nat} {ps:List tF} {q:Option Addr} {c:Nat} (h:ps.length≤1):(kD (II n l E nq nl nc ps q c)).length≤2:=by
 have hf:=KE ps;rw[nB];unfold II;rw[Jf Ja];dsimp only;omega
theorem aHA (hI:Inv X tab) (hM:jD tab A pm y bL B pn x name ino) (he:pm=pn) (zy:eN X.d pn x lx) (zx:pR (pI lx) x.parts (AJ (gG (mT (lO pm pn x bL) (name,(ino:Int))))) px) (nq:Option Addr) (nl nc:Nat) (q:Option Addr) (c:Nat):oP X.d tab [II pn lx (mT (lO pm pn x bL) (name,(ino:Int))) nq nl nc px q c] (eO tab pm y bL pn x name ino)∧(∀ y∈[II pn lx (mT (lO pm pn x bL) (name,(ino:Int))) nq nl nc px q c],lW y)∧Shut (eO tab pm y bL pn x name ino)∧(aW [II pn lx (mT (lO pm pn x bL) (name,(ino:Int))) nq nl nc px q c]).length≤9:=by
 obtain⟨c1,c2,c3⟩:=sC zy hM.hxk (kN hM.add) zx nq nl nc q c;refine⟨⟨Ja,fun z hz hg=> ?_,fun z hz _=> ?_,fun m hm=> ?_⟩,fun z hz=> ?_,hM.shut, ?_⟩
 ·rw[eh] at hz;subst hz;cases hg
 ·rw[eh] at hz;subst hz;exact⟨pn,_,c1,DK⟩
 ·have h1:m≠pn:=fun e=>hm _ bu Z4
  exact DL (fun e=>h1 (e.trans he)) h1
 ·rw[eh] at hz;subst hz;exact c2
 ·have:=LL (n:=pn) (l:=lx) (E:=mT (lO pm pn x bL) (name,(ino:Int))) (nq:=nq) (nl:=nl) (nc:=nc) (q:=q) (c:=c) c3;simp only[aW,abw,afq,ke];omega
theorem aHB (hI:Inv X tab) (hM:jD tab A pm y bL B pn x name ino) (he:pm≠pn) (zy:eN X.d pn x lx) (zx:pR (pI lx) x.parts (AJ (gG (mT (lO pm pn x bL) (name,(ino:Int))))) px) (zw:eN X.d pm y ly) (zv:pR (pI ly) y.parts (AJ (gG (jO y.aP bL))) py) (nq:Option Addr) (nl nc:Nat) (q:Option Addr) (c:Nat) (nq2:Option Addr) (nl2 nc2:Nat) (q2:Option Addr) (c2:Nat):oP X.d tab [II pn lx (mT (lO pm pn x bL) (name,(ino:Int))) nq nl nc px q c,II pm ly (jO y.aP bL) nq2 nl2 nc2 py q2 c2] (eO tab pm y bL pn x name ino)∧(∀ z∈[II pn lx (mT (lO pm pn x bL) (name,(ino:Int))) nq nl nc px q c,II pm ly (jO y.aP bL) nq2 nl2 nc2 py q2 c2],lW z)∧Shut (eO tab pm y bL pn x name ino)∧(aW [II pn lx (mT (lO pm pn x bL) (name,(ino:Int))) nq nl nc px q c,II pm ly (jO y.aP bL) nq2 nl2 nc2 py q2 c2]).length≤9:=by
 obtain⟨c1,s1,z1⟩:=sC zy hM.hxk (kN hM.add) zx nq nl nc q c;obtain⟨d1,s2,z2⟩:=sC zw hM.xW (lS (cI hM.ok.shut hM.hy hM.xW).1) zv nq2 nl2 nc2 q2 c2;refine⟨⟨?_,fun z hz hg=> ?_,fun z hz _=> ?_,fun m hm=> ?_⟩,fun z hz=> ?_,hM.shut, ?_⟩
 ·simp only[gd,gu,II,List.nodup_cons,eh,ck,not_false_eq_true,List.nodup_nil,and_true];omega
 ·simp only[al,ck,or_false] at hz;rcases hz with rfl|rfl<;>cases hg
 ·simp only[al,ck,or_false] at hz;rcases hz with rfl|rfl
  ·exact⟨pn,_,c1,DK⟩
  ·exact⟨pm,_,d1,vC he⟩
 ·exact DL (fun e=>hm _ (a8 _ bu) Z4) (fun e=>hm _ bu Z4)
 ·simp only[al,ck,or_false] at hz;rcases hz with rfl|rfl
  ·exact s1
  ·exact s2
 ·have h1:=LL (n:=pn) (l:=lx) (E:=mT (lO pm pn x bL) (name,(ino:Int))) (nq:=nq) (nl:=nl) (nc:=nc) (q:=q) (c:=c) z1;have h2:=LL (n:=pm) (l:=ly) (E:=jO y.aP bL) (nq:=nq2) (nl:=nl2) (nc:=nc2) (q:=q2) (c:=c2) z2;simp only[aW,abw,afq,ke,ae];omega
end
theorem aHC {E:List bH} (hg:kY E) {nm:List UInt8} (zy:gU nm) (hf:cS E nm≠0) (h24:E.length=24) {ino:Nat} (hino:ino<48):tM E (nm,(ino:Int))=10:=by
 have hd:tO E nm=false:=by
  cases h:tO E nm with
  |false=>rfl
  |true=>
   exfalso;apply hf;unfold cS;rw[Jf ZJ,Jf (by simp [zy]),Jg h]
 unfold tM;rw[Jf ZJ,Jf (by simp [HU (p:=(nm,(ino:Int))) ⟨zy,by dsimp only;omega,by dsimp only;omega⟩])];dsimp only;rw[Jf (by simp [hd]),Jg h24]
theorem akD {E:List bH} (hg:kY E) {bL nm:List UInt8} (hold:tO E bL=true) (zy:gU nm) (hf:cS E nm≠0) {ino:Nat} (hino:ino<48):tM (jO E bL) (nm,(ino:Int))=0:=by
 have hd:tO E nm=false:=by
  cases h:tO E nm with
  |false=>rfl
  |true=>
   exfalso;apply hf;unfold cS;rw[Jf ZJ,Jf (by simp [zy]),Jg h]
 have zx:=lS (s:=bL) hg;refine aeB zx (HU ⟨zy,by dsimp only;omega,by dsimp only;omega⟩) ?_ ?_
 ·cases h:tO (jO E bL) nm with
  |false=>rfl
  |true=>
   obtain⟨p,hp,e⟩:=(sX zx.2.2).1 h;rw[(sX hg.2.2).2 ⟨p,VF hp,e⟩] at hd;cases hd
 ·have:=yF (DG hold);have:=hg.1;omega
theorem asV {E:List bH} (hg:kY E) {nm:List UInt8} (zy:gU nm) (hf:cS E nm≠0) (h24:E.length≠24) {ino:Nat} (hino:ino<48):tM E (nm,(ino:Int))=0:=by
 refine aeB hg (HU ⟨zy,by dsimp only;omega,by dsimp only;omega⟩) ?_ h24;cases h:tO E nm with
 |false=>rfl
 |true=>
  exfalso;apply hf;unfold cS;rw[Jf ZJ,Jf (by simp [zy]),Jg h]
end fs
namespace fs
open dZ cO file dir uU
theorem aHD {α:Type} (f:α→List Value) (ys:List α) {v:Value} {e sz m:Nat} {H R:List Ent} (p:bQ (own v e sz m (flat f ys)) H R):HSub H (own v e sz m (flat f ys)::R):=cA p.perm
attribute [local irreducible] box own sl bL aH bJ Qt cN cM dG dL eQ
theorem aoW (b:Nat) (X:iV) {tab:cT} (hI:Inv X tab) (qL:Option Addr) (cL:Nat) (L:List (List UInt8)) (hl1:L.length≤1000) (zq: ∀ s∈L,gU s) {bL:List UInt8} {k:Nat} (hk:L.length=k+1) (hold:L[k]? =some bL) {pm:Nat} {y:Nd} (hw:aJ tab 0 (L.take k)=(0,pm)) (hy:tab pm=some y) (xW:y.kind=2) (hf:cS y.aP bL=0) {pn:Nat} (hne:pm≠pn) {ex:List bH} (zw:kY ex) (h24:ex.length=24) {name:List UInt8} (zv:gU name) (zt:cS ex name≠0) (ino:Nat) (zu:ino<48) (k2 g2 z2:Int) (q:Option Addr) (m c:Nat) (qe:Option Addr) (ce:Nat):
  Ct lk 140 [aH b 0, .slice qL L.length cL, .int .i64 (ino:Int), .int .i64 (pn:Int), .agg #[.int .i64 k2, .int .i64 g2, .int .i64 z2, .slice q m c], .slice qe ex.length ce, .string (str name)] (bI b X++[sl 1 (.slice qL L.length cL) (L.map fT),sl 2 (.slice qe ex.length ce) (ex.map fE)]) fun v H'=>v= .int .i64 10∧H'=bI b X:=by
 have hlen: ∀ s∈L,s.length≤1000000:=fun s hs=>by have:=(zq s hs).2.2.2.1;omega
 have A0:=qZ b X.d (.int .i64 X.gJ) (.int .i64 X.turn) (.slice X.qf X.fr.length X.cf) (.slice X.qo X.ops.length X.co) tab hI.pM hI.shut qL cL L Z8 hlen hk hold;rw[hw] at A0;have CU:=fun q c=>dir.xQ q c y.aP bL hf
 have zr:=yF (DG (iJ hf).2.2);rw[←zr] at CU;have zy:=aHC zw zv zt h24 zu;have AB:=dir.aMT qe ce ex (name,(ino:Int)) (by have:=zw.1;omega) (fun p hp=>by have:=(cQ (zw.2.1 p hp)).1.2.2.2.1;omega) (by have:=zv.2.2.2.1;dsimp only;omega) (by rw[zy];decide);rw[zy] at AB;clear zr zy zv zt zw hI;generalize jO y.aP bL=E2 at*;obtain⟨d,s,tn,qf,cf,F,qo,co,Lo⟩:=X;obtain⟨a,ca,cs,w,cw,wl,mm,cm,at1,qg,cg,aA⟩:=d;unfold yG at A0;unfold bI bC aX at*;dsimp only[dw,dz] at*;(refine Ye Tryz.func140 Tryz.ntmps140 ?_;intro Fr);(refine bD ?_;intro b);(refine Ca (A0) ?_;rintro _ _ ⟨_,hr,rfl⟩;(try refine Da ?_));rcases hr with⟨h0,rfl,rfl⟩|⟨y',l,q',c',⟨_,zx,zn,zm⟩,rfl,rfl⟩|⟨y',l,q',c',qe',ce',⟨_,zx,zn,_,hE⟩,rfl,rfl⟩
 ·exact absurd rfl h0
 ·rw[hy] at zx;cases zx;exact absurd xW zm
 ·rw[hy] at zx;cases zx;refine Da ?_;clear A0;(refine bD ?_;intro b);(refine Ca (CU _ _) ?_;rintro _ _ ⟨_,⟨q6,c6,rfl,rfl⟩,rfl⟩;refine Da ?_);(repeat' (first|refine Y1 ?_|(refine Wb ?_;intro b)|(refine Wq ?_;intro q)|refine Wc (AB ..) ?_|(refine Ws ?_ ?_<;>intro h)|refine Wz ?_|fail));exact Ea (x:=⟨rfl,rfl⟩)
theorem ayJ (b:Nat) (X:iV) {tab:cT} (hI:Inv X tab) (zv:X.ops.length≤1000) (qL:Option Addr) (cL:Nat) (L:List (List UInt8)) (hl1:L.length≤1000) (zt: ∀ s∈L,gU s) {bL:List UInt8} {k:Nat} (hk:L.length=k+1) (hold:L[k]? =some bL) {B:List (List UInt8)} {pn ino:Nat} {x y:Nd} {name:List UInt8} (hM:jD tab (L.take k) pn y bL B pn x name ino) {lx:List UInt8} (zr:eN X.d pn x lx) (qi:Option Addr) (ci:Nat) (qe:Option Addr) (ce:Nat):
  Ct lk 140 [aH b 0, .slice qL L.length cL, .int .i64 (ino:Int), .int .i64 (pn:Int), .agg #[.int .i64 (kI lx), .int .i64 (gI lx), .int .i64 (zI lx), .slice qi (pI lx).length ci], .slice qe x.aP.length ce, .string (str name)] (bI b X++[sl 1 (.slice qL L.length cL) (L.map fT),sl 2 (.slice qi (pI lx).length ci) ((pI lx).map jP),sl 2 (.slice qe x.aP.length ce) (x.aP.map fE)]) (hU b X (eO tab pn y bL pn x name ino) X.d.aA 9 4):=by
 have zk:y=x:=by have h1:=hM.hy;rw[hM.hx] at h1;exact (a7 h1).symm
 subst zk;have hlen: ∀ s∈L,s.length≤1000000:=fun s hs=>by have:=(zt s hs).2.2.2.1;omega
 have A0:=qZ b X.d (.int .i64 X.gJ) (.int .i64 X.turn) (.slice X.qf X.fr.length X.cf) (.slice X.qo X.ops.length X.co) tab hI.pM hI.shut qL cL L Z8 hlen hk hold;rw[hM.wa] at A0;have zu:=(cI hM.ok.shut hM.hy hM.xW).1;have zx:=hM.isd;have hf:cS y.aP bL=0:=by
  obtain⟨p,hp,e⟩:=(sX zu.2.2).1 zx;have:=(uY zu (by rw[e];exact zt bL (jg hold)) hp).1;rwa [e] at this
 have CU:=fun q c=>dir.xQ q c y.aP bL hf
 have zq:=yF (DG (iJ hf).2.2);rw[←zq] at CU;have zy:=hM.add;have MC:=fun px zj nq nl nc q c=>aHA hI hM rfl zr (px:=px) zj nq nl nc q c
 have zn:lO pn pn y bL=jO y.aP bL:=Jg rfl;rw[zn] at zy MC;have AD:=fun q c=>dir.aoN q c (jO y.aP bL) (name,(ino:Int)) zy
 have zm:=IE (jO y.aP bL) (name,(ino:Int));rw[←zm] at AD;have LO:=fun qe ce=>uX b X.d (.int .i64 X.gJ) (.int .i64 X.turn) (.slice X.qf X.fr.length X.cf) (.slice X.qo X.ops.length X.co) pn y lx zr (kN zy) qi ci qe ce
 have CI:=fun tab' l (hl:l.length≤100) hC hS zh q0 c0 hN zg=>oQ b X hI zv (tab':=tab') (l:=l) hl hC hS zh q0 c0 4 Z8 (N:=9) hN (G:=X.d.aA) zg
 have hy:=hM.hy;have xW:=hM.xW;refine gH (R:=hU b X (eO tab pn y bL pn y name ino) X.d.aA 9 4) ?_ fun _ _ h=>h
 have CI1:=CI (eO tab pn y bL pn y name ino);unfold II at MC;have hint:=fun v H'=>gK (b:=b) (x:=X) (tab':=eO tab pn y bL pn y name ino) (G:=X.d.aA) (N:=9) (keep:=4) (v:=v) (H':=H')
 generalize eO tab pn y bL pn y name ino=T2 at*;generalize hU b X T2 X.d.aA 9 4=RR at*;clear zq zy zm hf zu zx zn CI hM hI;generalize mT (jO y.aP bL) (name,(ino:Int))=E3 at*;generalize jO y.aP bL=E2 at*;obtain⟨d,s,tn,qf,cf,F,qo,co,Lo⟩:=X;obtain⟨a,ca,cs,w,cw,wl,mm,cm,at1,qg,cg,aA⟩:=d;unfold yG at A0;unfold bI bC aX at*;dsimp only[dw,dz] at*;(refine Ye Tryz.func140 Tryz.ntmps140 ?_;intro Fr);(refine bD ?_;intro b);(refine Ca (A0) ?_;rintro _ _ ⟨_,hr,rfl⟩;(try refine Da ?_));rcases hr with⟨h0,rfl,rfl⟩|⟨y',l,q',c',⟨_,zw,zf,ze⟩,rfl,rfl⟩|⟨y',l,q',c',qe',ce',⟨_,zw,zf,_,hE⟩,rfl,rfl⟩
 ·exact absurd rfl h0
 ·rw[hy] at zw;cases zw;exact absurd xW ze
 ·rw[hy] at zw;cases zw;refine Da ?_;clear A0;(refine bD ?_;intro b);(refine Ca (CU _ _) ?_;rintro _ _ ⟨_,⟨q6,c6,rfl,rfl⟩,rfl⟩;refine Da ?_);refine aM ?_;(refine Ca (AD _ _) ?_;rintro _ _ ⟨_,⟨q7,c7,rfl,rfl⟩,rfl⟩;refine Da ?_);refine aM ?_;(refine Ca (LO _ _) ?_;rintro _ _ ⟨_,⟨ps,q8,c8,zl,rfl,rfl⟩,rfl⟩;refine Da ?_);(repeat' (first|refine Y1 ?_|(refine Wb ?_;intro b)|(refine Wq ?_;intro q)|(refine Ws ?_ ?_<;>intro h)|refine Wz ?_|fail));obtain⟨m1,m2,m3,m4⟩:=MC ps zl qi (pI lx).length ci q8 c8;have C1:=CI1 _ Ja m1 m2 m3 q 1 m4 rfl;dsimp only[dv,gr,Nat.reduceAdd] at C1;clear m1 m2 m3 m4 MC CI1 LO AD CU zl;refine aN (bB (v:= .slice q 1 1) (e:=237) (m:=1) (f:=mQ) (ys:=[⟨(pn:Int),kI lx,gI lx,((gG E3).length:Int),qi,(pI lx).length,ci,ps,q8,c8,false⟩]) aU (fun _=>rfl) rfl) ?_;refine aN (bB (v:= .slice q8 ps.length c8) (e:=289) (m:=ps.length) (f:=eX) (ys:=ps) aU (fun _=>rfl) rfl) ?_;refine aN (kO (sz:=4)) ?_;refine aN (kF (v:= .slice q8 ps.length c8) (rows:=ps.map eX) aU aU) ?_;refine aM ?_;refine Cb (C1) ?_;rintro _ _ ⟨_,hm,rfl⟩;obtain⟨e2,rfl⟩:=hint _ _ hm;refine aN (cA afs) ?_;refine Da ?_;refine aF ?_;exact Ec (x:=hm)
theorem ayK (b:Nat) (X:iV) {tab:cT} (hI:Inv X tab) (zr:X.ops.length≤1000) (qL:Option Addr) (cL:Nat) (L:List (List UInt8)) (hl1:L.length≤1000) (zq: ∀ s∈L,gU s) {bL:List UInt8} {k:Nat} (hk:L.length=k+1) (hold:L[k]? =some bL) {B:List (List UInt8)} {pm pn ino:Nat} {x y:Nd} {name:List UInt8} (hM:jD tab (L.take k) pm y bL B pn x name ino) (zn:pm≠pn) {lx:List UInt8} (zm:eN X.d pn x lx) (qi:Option Addr) (ci:Nat) (qe:Option Addr) (ce:Nat):
  Ct lk 140 [aH b 0, .slice qL L.length cL, .int .i64 (ino:Int), .int .i64 (pn:Int), .agg #[.int .i64 (kI lx), .int .i64 (gI lx), .int .i64 (zI lx), .slice qi (pI lx).length ci], .slice qe x.aP.length ce, .string (str name)] (bI b X++[sl 1 (.slice qL L.length cL) (L.map fT),sl 2 (.slice qi (pI lx).length ci) ((pI lx).map jP),sl 2 (.slice qe x.aP.length ce) (x.aP.map fE)]) (hU b X (eO tab pm y bL pn x name ino) X.d.aA 9 4):=by
 have hlen: ∀ s∈L,s.length≤1000000:=fun s hs=>by have:=(zq s hs).2.2.2.1;omega
 have A0:=qZ b X.d (.int .i64 X.gJ) (.int .i64 X.turn) (.slice X.qf X.fr.length X.cf) (.slice X.qo X.ops.length X.co) tab hI.pM hI.shut qL cL L Z8 hlen hk hold;rw[hM.wa] at A0;have zt:=(cI hM.ok.shut hM.hy hM.xW).1;have zw:=hM.isd;have hf:cS y.aP bL=0:=by
  obtain⟨p,hp,e⟩:=(sX zt.2.2).1 zw;have:=(uY zt (by rw[e];exact zq bL (jg hold)) hp).1;rwa [e] at this
 have CU:=fun q c=>dir.xQ q c y.aP bL hf
 have zl:=yF (DG (iJ hf).2.2);rw[←zl] at CU;have zy:=hM.add;have MC:=fun px zg ly py zx zf nq nl nc q c nq2 nl2 nc2 q2 c2=>aHB hI hM zn zm (px:=px) zg (ly:=ly) (py:=py) zx zf nq nl nc q c nq2 nl2 nc2 q2 c2
 have zk:lO pm pn x bL=x.aP:=Jf zn;rw[zk] at zy MC;have AD:=dir.aoN qe ce x.aP (name,(ino:Int)) zy;have zj:=IE x.aP (name,(ino:Int));rw[←zj] at AD;have LO:=fun qe ce=>uX b X.d (.int .i64 X.gJ) (.int .i64 X.turn) (.slice X.qf X.fr.length X.cf) (.slice X.qo X.ops.length X.co) pn x lx zm (kN zy) qi ci qe ce
 have LO2:=fun ly (zx:eN X.d pm y ly) q c qe ce=>uX b X.d (.int .i64 X.gJ) (.int .i64 X.turn) (.slice X.qf X.fr.length X.cf) (.slice X.qo X.ops.length X.co) pm y ly zx (lS (s:=bL) zt) q c qe ce
 have CI:=fun tab' l (hl:l.length≤100) hC hS ze q0 c0 hN zb=>oQ b X hI zr (tab':=tab') (l:=l) hl hC hS ze q0 c0 4 Z8 (N:=9) hN (G:=X.d.aA) zb
 have hy:=hM.hy;have xW:=hM.xW;refine gH (R:=hU b X (eO tab pm y bL pn x name ino) X.d.aA 9 4) ?_ fun _ _ h=>h
 have CI1:=CI (eO tab pm y bL pn x name ino);unfold II at MC;have hint:=fun v H'=>gK (b:=b) (x:=X) (tab':=eO tab pm y bL pn x name ino) (G:=X.d.aA) (N:=9) (keep:=4) (v:=v) (H':=H')
 generalize eO tab pm y bL pn x name ino=T2 at*;generalize hU b X T2 X.d.aA 9 4=RR at*;clear zl zy zj hf zt zw zk CI hM hI;generalize mT x.aP (name,(ino:Int))=E3 at*;generalize jO y.aP bL=E2 at*;obtain⟨d,s,tn,qf,cf,F,qo,co,Lo⟩:=X;obtain⟨a,ca,cs,w,cw,wl,mm,cm,at1,qg,cg,aA⟩:=d;unfold yG at A0;unfold bI bC aX at*;dsimp only[dw,dz] at*;(refine Ye Tryz.func140 Tryz.ntmps140 ?_;intro Fr);(refine bD ?_;intro b);(refine Ca (A0) ?_;rintro _ _ ⟨_,hr,rfl⟩;(try refine Da ?_));rcases hr with⟨h0,rfl,rfl⟩|⟨y',l,q',c',⟨_,zv,zx,za⟩,rfl,rfl⟩|⟨y',l,q',c',qe',ce',⟨_,zv,zx,_,hE⟩,rfl,rfl⟩
 ·exact absurd rfl h0
 ·rw[hy] at zv;cases zv;exact absurd xW za
 ·rw[hy] at zv;cases zv;refine Da ?_;have LO2':=LO2 l zx;clear A0 LO2;(refine bD ?_;intro b);(refine Ca (CU _ _) ?_;rintro _ _ ⟨_,⟨q6,c6,rfl,rfl⟩,rfl⟩;refine Da ?_);refine aM ?_;(refine Ca (AD) ?_;rintro _ _ ⟨_,⟨q7,c7,rfl,rfl⟩,rfl⟩;refine Da ?_);refine aM ?_;(refine Ca (LO _ _) ?_;rintro _ _ ⟨_,⟨ps,q8,c8,zh,rfl,rfl⟩,rfl⟩;refine Da ?_);(repeat' (first|refine Y1 ?_|(refine Wb ?_;intro b)|(refine Wq ?_;intro q)|(refine Ws ?_ ?_<;>intro h)|refine Wz ?_|fail));revert q;intro qA;refine aN (aHD mQ [(⟨(pn:Int),kI lx,gI lx,((gG E3).length:Int),qi,(pI lx).length,ci,ps,q8,c8,false⟩:kQ)] (v:= .slice qA 1 1) (e:=237) (sz:=7) (m:=1) aU) ?_;(refine Ca (LO2' _ _ _ _) ?_;rintro _ _ ⟨_,⟨ps2,q9,c9,zu,rfl,rfl⟩,rfl⟩;refine Da ?_);(refine JK ?_;intro q);have oneC: ∀ y, ∀ u∈mQ y,u.oneCell'=true:=by simp [mQ,a6]
  (refine aL wt Jb (by first|exact Ma (mQ) [(⟨(pm:Int),kI l,gI l,((gG E2).length:Int),q',(pI l).length,c',ps2,q9,c9,false⟩:kQ)] rfl|exact Mb (mQ) [(⟨(pm:Int),kI l,gI l,((gG E2).length:Int),q',(pI l).length,c',ps2,q9,c9,false⟩:kQ)] rfl) ?_;rintro _ _ ⟨q5,c5,rfl,rfl⟩);refine Da ?_;dsimp only[dv,gr,Nat.reduceAdd];obtain⟨m1,m2,m3,m4⟩:=MC ps zh l ps2 zx zu qi (pI lx).length ci q8 c8 q' (pI l).length c' q9 c9;have C1:=CI1 _ Ja m1 m2 m3 q5 c5 m4 rfl;dsimp only[dv,gr,Nat.reduceAdd] at C1;clear m1 m2 m3 m4 MC CI1 LO AD CU zh LO2' zu;refine aN (bB (v:= .slice q5 2 c5) (e:=237) (m:=2) (f:=mQ) (ys:=[⟨(pn:Int),kI lx,gI lx,((gG E3).length:Int),qi,(pI lx).length,ci,ps,q8,c8,false⟩,⟨(pm:Int),kI l,gI l,((gG E2).length:Int),q',(pI l).length,c',ps2,q9,c9,false⟩]) aU (fun _=>rfl) rfl) ?_;refine aN (bB (v:= .slice q8 ps.length c8) (e:=289) (m:=ps.length) (f:=eX) (ys:=ps) aU (fun _=>rfl) rfl) ?_;refine aN (bB (v:= .slice q9 ps2.length c9) (e:=289) (m:=ps2.length) (f:=eX) (ys:=ps2) aU (fun _=>rfl) rfl) ?_;refine aN (kO (sz:=4)) ?_;refine aN (kF (v:= .slice q9 ps2.length c9) (rows:=ps2.map eX) aU aU) ?_;refine aN (kF (v:= .slice q8 ps.length c8) (rows:=ps.map eX) aU aU) ?_;refine aM ?_;refine Cb (C1) ?_;rintro _ _ ⟨_,hm,rfl⟩;obtain⟨e2,rfl⟩:=hint _ _ hm;refine aN (cA afs) ?_;refine Da ?_;refine aF ?_;exact Ec (x:=hm)
end fs
namespace fs
open dZ cO file
theorem alD {P:Program} {n:Nat} {F:eE} {H R:List Ent} {o:Oper} {x:Operand} {T k e:TypeId} {b m:Nat} {g:Int→Int} [hm:Mp P T k e] (ho:o.op= .call { callee:= .builtin .len,args:= #[x],argTypes:= #[T] }) (hx:ev F x=some (.map (some b))) (p:bQ (sl.cK P k e b m g) H R):
  cN P n o F H fun u H'=> ∃ j:Nat,j≤m∧u= .int .i64 (j:Int)∧H'=H:=fun Q a w next ha hh hn=>by
 obtain⟨D,h1,h2,h3⟩:=hh.1 _ p.mem;have hr:=h1.len hm.h o.type;unfold Oper.wp;simp only[execOp,ho,resolve,invoke,builtin,List.map_toArray,gd,gu,ha.eval hx,hr,Sem.run_bind,Sem.run_pure,Result.andThen_ok,Oper.upon];exact hn _ _ _ ⟨_,h1.size_le,rfl,rfl⟩ hh
theorem LV {x:Int} (h:0≤x∧x<1000):okI x:=by
 unfold okI;simp [Lit.wf,IntKind.min,IntKind.max,IntKind.signed,IntKind.bits];omega
structure MSt where
 mi:Nat
 mo:List kQ
 mq:Option Addr
 mc:Nat
theorem aIO {sz : Nat} {H R : List Ent} {v : Value} {rows : List (List Value)} (p : bQ (sl sz v rows) H R) : HSub H (many sz [(v, rows)] :: H) := fun w hw => aG.shared hw rfl (fun x hx => by
  rcases al.1 hx with rfl|hx
  ·exact hw.1 _ p.mem
  ·exact absurd hx ck) fun k ⟨x, hx, hk⟩ => by
  rcases al.1 hx with rfl|hx
  ·exact⟨_,p.mem,rfl,hk⟩
  ·exact absurd hx ck
theorem aIP {cs:Cells} {ps:cH} {d:FD} {n z k:Nat} {p:Int×Int} {t:List UInt8} (h:KX d n z k p t) (h0:p.1≠0): ∃ u,iW d.cs d.ps (n:Int) (k:Int) p=(u,0)∧u.length≤600:=by
 rcases h with⟨h1,_⟩|⟨_,_,u,h3,_⟩
 ·exact absurd h1 h0
 ·refine⟨u,h3, ?_⟩;have:=JW d.cs d.ps (n:Int) (k:Int) p;rw[h3] at this;exact this
attribute [local irreducible] box own sl bL aH bJ Qt cN cM dG dL eQ
theorem azH (bs:Nat) (d:FD) (s t f o:Value) {tab:cT} (hL:Lie d tab) (bm m:Nat) (V:Int→Bool) (za:V 0=false) (g:Int→Int) (hg: ∀ c,g c=if V c=true then 1 else 0):
  Ct lk 132 [aH bs 0, .map (some bm)] (bC bs d s t f o::(aX d++[sl.cK lk 3 3 bm m g])) fun v H'=> ∃ out q c,WJ d V 48 out∧v= .tuple #[.slice q out.length c, .int .i64 0]∧H'=[bC bs d s t f o,sl.cK lk 3 3 bm m g,own (.slice q out.length c) 237 7 out.length (flat mQ out),many 4 (out.map xP)]:=by
 have LD:=fun n l (h:Told d n l)=>adA bs d s t f o n h
 have z8:=hL.map.1;have hgl:=hL.map.2.1;have z7:=hL.map.2.2;have PA:=fun n k p=>RQ d.a d.w d.ca d.cw d.cs d.ps n k p hL.mM
 have hone: ∀ y, ∀ u∈eX y,u.oneCell'=true:=by simp [eX,a6]
 have honeC: ∀ y, ∀ u∈mQ y,u.oneCell'=true:=by simp [mQ,a6]
 have zl: ∀ (i:Nat) p,i<48→d.at'[i]? =some p→p.1≠0→ ∃ y l,tab i=some y∧eN d i y l:=fun i p hi hp h0=>by
  cases hy:tab i with
  |none=>
   have:=hL.none i hi hy;rw[hp] at this;cases this;exact absurd rfl h0
  |some y=>
   obtain⟨l,hl⟩:=hL.some i y hy;exact⟨y,l,rfl,hl⟩
 have zk:=aIN d V;have zb:=fun i out=> @aNP d V i out
 have yz:=fun i out=> @TV d V i out
 have zj: ∀ (i:Nat) (out:List kQ) p gi l nq nl nc q c,WJ d V i out→d.at'[i]? =some p→d.aA[i]? =some gi→p.1≠0→nY d.cs d.ps p gi (i:Int)=some l→mvd V p (pI l)=true→WJ d V (i+1) (out++[⟨(i:Int),kI l,gI l,zI l,nq,nl,nc,IU d.cs d.ps V i (pI l) 0,q,c,false⟩]):=fun i out p gi l nq nl nc q c h h1 h2 h3 h4 h5=>aSE h ⟨rfl,rfl,p,gi,l,h1,h2,h3,h4,h5,rfl,rfl,rfl,rfl⟩
 obtain⟨a,ca,cs,w,cw,wl,mm,cm,at1,qg,cg,aA⟩:=d;generalize yx:WJ ⟨a,ca,cs,w,cw,wl,mm,cm,at1,qg,cg,aA⟩ V=MO at*;clear yx hL;unfold bC aX at*;dsimp only[dw,dz] at*;(refine Ye Tryz.func132 Tryz.ntmps132 ?_;intro Fr);refine aO (aS _ 237 7) ?_;refine aO (kO (sz:=4)) ?_;refine aM ?_;(refine aC (σ:=MSt) (fun y=>y.mi≤at1.length∧MO y.mi y.mo) (fun y=>[(22, .int .i64 (y.mi:Int)),(6, .slice y.mq y.mo.length y.mc)]) (fun y=>[own (.slice y.mq y.mo.length y.mc) 237 7 y.mo.length (flat mQ y.mo),many 4 (y.mo.map xP)]) _ (fun y=>at1.length-y.mi) ((⟨0,[],none,0⟩)) (by exact⟨fe _,zk⟩) Ze Zb (fun⟨i,out,q,c⟩ ⟨hi,ho⟩=> ?_);refine Da ?_);dsimp only at hi ho ⊢;have hol:=yz i out ho;rcases dW at1 i with⟨p,hp,hlt⟩|hge
 ·obtain⟨gi,zt⟩: ∃ gi,aA[i]? =some gi:=⟨_,ak Z8⟩;by_cases h0:p.1=0
  ·have hst:=zb i out ho (fun p' g' l' h1 _ h3=>by rw[hp] at h1;cases h1;exact absurd h0 h3);(refine fH ?_;intro b);refine Ee ((⟨i+1,out,q,c⟩:MSt)) ?_ ?_
   ·exact⟨hlt,hst⟩
   ·dsimp only;omega
  ·obtain⟨y,l,hy,hl⟩:=zl i p Z8 hp h0;have LD1:=LD i l hl.told;(refine bD ?_;intro b);(refine Ca (LD1) ?_;rintro _ _ ⟨_,⟨q1,c1,rfl,rfl⟩,rfl⟩;refine Da ?_);(repeat' (first|refine Y2 ?_|(refine Wb ?_;intro b)|(refine Wq ?_;intro q)|(refine Ws ?_ ?_<;>intro h)|refine Wz ?_|fail));have zh:=(z7 i Z8 p gi hp zt).1;have zg:okI p.1:=LV (by unfold gT at zh;omega);refine eK wt rfl (RU rfl rfl rfl aU zg) ?_;rw[hg];have yv:(if V p.1=true then (1:Int) else 0)=if mvd V p ((pI l).take 0)=true then 1 else 0:=by
    unfold mvd;rw[acb,List.any_nil,afv]
   rw[yv];obtain⟨p',g',e1,e2,e3,e4⟩:=hl.told.ex;dsimp only at e1 e2 e4;rw[hp] at e1;cases e1;rw[zt] at e2;cases e2;have yu:=xM (mF e4).2.2.2.1;have hpl:(pI l).length≤8:=by have:=hl.data.1;have:=hl.small;unfold aQ at*;omega
   have zf:=hl.data.2.2;have hdl:=hl.data.2.1;refine aM ?_;refine aO (aS _ 289 4) ?_;revert b;intro b11;(refine aC (σ:=Nat×List tF×Option Addr×Nat×Int) (fun x=>x.1≤(pI l).length∧x.2.1=IU cs wl V i ((pI l).take x.1) 0∧x.2.1.length=x.1∧x.2.2.2.2=(if mvd V p ((pI l).take x.1)=true then 1 else 0)) (fun x=>[(49, .int .i64 (x.1:Int)),(12, .int .i64 x.2.2.2.2),(10, .int .i64 0)]) (fun x=>[own (.slice x.2.2.1 x.2.1.length x.2.2.2.1) 289 4 x.2.1.length (flat eX x.2.1),box b11 [.int .i64 (i:Int), .int .i64 (kI l), .int .i64 (gI l), .int .i64 (zI l), .slice q1 (pI l).length c1, .slice x.2.2.1 x.2.1.length x.2.2.2.1, .bool false] 237]) _ (fun x=>(pI l).length-x.1) ((0,[],none,0,(if mvd V p ((pI l).take 0)=true then 1 else 0))) (by exact⟨fe _,rfl,rfl,rfl⟩) Ze Zb (fun⟨k,ps,q2,c2,mv⟩ ⟨hk,zr,zx,zw⟩=> ?_);refine Da ?_);dsimp only at hk zr zx zw ⊢;rcases dW (pI l) k with⟨p2,zq,zv⟩|hge2
   ·have zu:okI p2.1:=LV (by have:=yu p2 (jg zq);unfold gT at this;omega);obtain⟨tx,yt⟩: ∃ tx,y.parts[k]? =some tx:=⟨_,ak Z8⟩;have zn:=aIM (V:=V) (p:=p) zq;have zy:=abU (cs:=cs) (ps:=wl) (V:=V) (n:=i) (k:=0) zq;rw[←zr,dj] at zy;unfold mvP at zy;by_cases hv:V p2.1=true
    ·rw[Jg hv] at zy;rw[hv,Bool.or_true] at zn;(repeat' (first|refine Y2 ?_|(refine Wb ?_;intro b)|(refine Wq ?_;intro q)|(refine Ws ?_ ?_<;>intro h)|refine Wz ?_|fail));refine eK wt rfl (RU rfl rfl rfl aU zu) ?_;rw[hg,Jg hv];have ze:p2.1≠0:=fun e=>by rw[e,za] at hv;cases hv
     obtain⟨u,hu,hu6⟩:=aIP (cs:=cs) (ps:=wl) (zf k p2 tx zq yt) ze;have PA1:=PA (i:Int) (k:Int) p2;dsimp only at hu;rw[hu] at PA1 zy;dsimp only at PA1 zy;refine aM ?_;(refine aD (Hq:=[_,_,_,_]) [1,5,10,11] [] rfl Jd Za ?_);(repeat' (first|refine Y1 ?_|(refine Wb ?_;intro b)|(refine Wq ?_;intro q)|refine Wc (PA1 ..) ?_|(refine Ws ?_ ?_<;>intro h)|refine Wz ?_|fail));(refine aL wt Jb (by first|exact Ma (eX) [⟨p2,u,true⟩] rfl|exact Mb (eX) [⟨p2,u,true⟩] rfl) ?_;rintro _ _ ⟨q5,c5,rfl,rfl⟩);refine aF ?_;refine Ee ((k+1,ps++[⟨p2,u,true⟩],q5,c5,1)) ?_ ?_
     ·exact⟨zv,zy.symm,by rw[ae,zx];rfl,by rw[zn];rfl⟩
     ·dsimp only;omega
    ·rw[Jf hv] at zy;rw[nh.2 hv,afv] at zn;(repeat' (first|refine Y2 ?_|(refine Wb ?_;intro b)|(refine Wq ?_;intro q)|(refine Ws ?_ ?_<;>intro h)|refine Wz ?_|fail));refine eK wt rfl (RU rfl rfl rfl aU zu) ?_;rw[hg,Jf hv];(refine JK ?_;intro q);(refine aL wt Jb (by first|exact Ma (eX) [⟨p2,[],false⟩] rfl|exact Mb (eX) [⟨p2,[],false⟩] rfl) ?_;rintro _ _ ⟨q5,c5,rfl,rfl⟩);refine aF ?_;refine Ee ((k+1,ps++[⟨p2,[],false⟩],q5,c5,mv)) ?_ ?_
     ·exact⟨zv,zy.symm,by rw[ae,zx];rfl,by rw[zn];exact zw⟩
     ·dsimp only;omega
   ·obtain rfl:k=(pI l).length:=Z8
    rw[List.take_length] at zr zw;by_cases zm:mvd V p (pI l)=true
    ·rw[Jg zm] at zw;subst zw;have hst:=zj i out p gi l q1 (pI l).length c1 q2 c2 ho hp zt h0 e4 zm;rw[←zr] at hst;(refine JK ?_;intro q);(refine aL wt Jb (by first|exact Ma (mQ) [(⟨(i:Int),kI l,gI l,zI l,q1,(pI l).length,c1,ps,q2,c2,false⟩:kQ)] rfl|exact Mb (mQ) [(⟨(i:Int),kI l,gI l,zI l,q1,(pI l).length,c1,ps,q2,c2,false⟩:kQ)] rfl) ?_;rintro _ _ ⟨q5,c5,rfl,rfl⟩);refine aN (bB (v:= .slice q2 ps.length c2) (e:=289) (m:=ps.length) (f:=eX) (ys:=ps) aU (fun _=>rfl) rfl) ?_;refine aN (aIO (v:= .slice q2 ps.length c2) (rows:=ps.map eX) aU) ?_;refine aN (ahD (a:=out.map xP) (b:=[(.slice q2 ps.length c2,ps.map eX)]) aU aU) ?_;rw[show out.map xP++[(Value.slice q2 ps.length c2,ps.map eX)]=(out++[(⟨(i:Int),kI l,gI l,zI l,q1,(pI l).length,c1,ps,q2,c2,false⟩:kQ)]).map xP from by rw[List.map_append];rfl];refine aF ?_;refine Ee ((⟨i+1,out++[⟨(i:Int),kI l,gI l,zI l,q1,(pI l).length,c1,ps,q2,c2,false⟩],q5,c5⟩:MSt)) ?_ ?_
     ·exact⟨hlt,hst⟩
     ·dsimp only;omega
    ·rw [Jf zm] at zw;subst zw;have hst := zb i out ho (fun p' g' l' h1 h2 _ h4 => by
      rw [hp] at h1;cases h1;rw [zt] at h2;cases h2;rw [e4] at h4;cases h4;exact nh.2 zm)
     refine aF ?_;refine Ee ((⟨i+1,out,q,c⟩:MSt)) ?_ ?_
     ·exact⟨hlt,hst⟩
     ·dsimp only;omega
 ·obtain rfl:i=at1.length:=Z8
  rw[z8] at ho;refine aF ?_;exact Ea (x:=⟨out,q,c,ho,rfl,rfl⟩)
end fs
namespace fs
open dZ cO file
open pick (WL quF One abV)
theorem alK (b:Nat) (x:iV) {tab tab':cT} (hI:Inv x tab) (zx:x.ops.length≤1000) {l:List kQ} (hl:l.length≤100) (hC:oP x.d tab l tab') (hS: ∀ y∈l,lW y) (zt:Shut tab') (q0:Option Addr) (c0 keep:Nat) (hk:keep≤1000) {N:Nat} (hN:(aV (aW l)).1.length≤N) {G:List Int} (zv:aoS x.d.aA l=G):Ct lk 135 [aH b 0, .slice q0 l.length c0, .int .i64 (keep:Int)] (bI b x++[sl 7 (.slice q0 l.length c0) (l.map mQ),many 4 (l.map xP)]) (hU b x tab' G N keep):=by
 obtain⟨gs,h1,h2,h3⟩:=pA (F:=x.fr) (IG hS) (fun P=>uW P l 0 hS);rw[h1] at hN;dsimp only at hN;rw[gp] at hN;have hbd:=IH hS;have hle:=PQ h3;have hsz:gs.flatten.length=(aW l).length:=by
  rw[h2];have:=congrArg List.length (rO (eR x.fr gs) l 0);simpa [szs] using this
 have zr:=aeG hI;obtain⟨d,s,tn,qf,cf,F,qo,co,L⟩:=x;dsimp only at zr zx hC h2 hsz zv ⊢;have zu:=hI.gJ;dsimp only at zu;have zq:=hI.ayF;dsimp only at zq;by_cases zy:F.length<gs.length+keep∨2147483647<s+gs.length
 ·have C0:=NQ b d s (.int .i64 tn) qf cf F L qo co q0 c0 l keep gs Z8 hk Z8 (fun y hy=>by have:=(hS y hy).2.1;omega) Z8 Z8 h1 Z8 zy;exact bY C0 fun v H' h=> .inl ⟨⟨gs.length,hN,zy⟩,h⟩
 ·have hG:sB d F s l gs:=⟨h1,h2,h3,Z8,zu,Z8⟩;have zn:=wC hI.pM hI.room hC hG;have zm: ∀ d',sZ d d' F s l gs→bA.Good d'.cs d'.ps:=fun d' hA=>wK hA hI.room hG hI.pM.mM
  have zw:=zm ⟨none,0,d.cs,none,0,d.ps++iO s F gs,none,0,(iR (eR F gs) 0 (d.at',d.aA) l).1,none,0,(iR (eR F gs) 0 (d.at',d.aA) l).2⟩ ⟨rfl,rfl,rfl,rfl⟩;have C0:=LB b d s (.int .i64 tn) qf cf F L qo co q0 c0 l keep gs hk Z8 (fun y hy=>by have:=(hS y hy).2.1;omega) Z8 Z8 zx hI.pM.map hG Z8 zn zw;refine bY C0 fun v H' h=> ?_
  obtain⟨d',qf',cf',q,c,hA,hv,hH⟩:=h;obtain⟨zl,zk⟩:=DH hA hI.pM hI.room hC hG;refine .inr ⟨⟨d',s+gs.length,tn,qf',cf',F.drop gs.length,q,c,L++qK (iO s F gs)⟩,gs.length,iO s F gs,⟨⟨zl,zt,zk,by dsimp only;omega,by dsimp only;omega,hI.turn,by dsimp only;rw[hA.cs];exact hI.two⟩,⟨hN,by dsimp only;omega⟩,rfl,rfl,rfl,uI _ _ _ hG.room,PD _ _ _,hA.cs,hA.ps,rfl,by dsimp only;rw[hA.aA,DI, ←zv],l,gs,hG,hA,rfl⟩,hv, ?_⟩;rw[hH];unfold bI;dsimp only;rw[List.length_drop]
def tN (b:Nat) (x:iV) (tab:cT) (v:Value) (H':List Ent):Prop:=
 (v= .int .i64 0∧H'=bI b x)∨hU b x tab x.d.aA 5 0 v H'
theorem aSK {d:FD} {tab:cT} (hL:Lie d tab): ∃ L,AS d.cs d.ps d.at' d.aA L:=by
 have hm:=hL.map;obtain⟨L,k1,_⟩:=apL (cs:=d.cs) (ps:=d.ps) d.at' d.aA 0 (by rw[hm.1,hm.2.1]) fun j p g hp hg h0=>by
  have hj:j<48:=by have:=(aj.1 hp).1;have:=hm.1;omega
  obtain⟨y,hy⟩: ∃ y,tab j=some y:=by
   cases hy:tab j with
   |some y=>exact⟨y,rfl⟩
   |none=>
    have:=hL.none j hj hy;rw[hp] at this;cases this;exact absurd rfl h0
  obtain⟨l,hl⟩:=hL.some j y hy;obtain⟨p',g',e1,e2,e3,e4⟩:=hl.told.ex;rw[hp] at e1;cases e1;rw[hg] at e2;cases e2;rw[dj];refine⟨l,e4,by have:=hl.data.1;have:=hl.small;unfold aQ at*;omega,fun k q hq zy=> ?_⟩;obtain⟨s,hs⟩: ∃ s,y.parts[k]? =some s:=⟨_,ak (by have:=(aj.1 hq).1;have:=hl.data.2.1;omega)⟩;rcases hl.data.2.2 k q s hq hs with⟨h,_⟩|⟨_,_,t,h,_⟩
  ·exact absurd h zy
  ·rw[h]
 exact⟨L,hL.mM,hm,k1⟩
theorem apO {cs:Cells} {ps:cH} {n:Int}: ∀ (t:List (Int×Int)) (k:Nat) (L:List (Int×Nat)),fQ cs ps n t k=some L→(∀ x∈L,2≤x.1):=by
 intro t;induction t with
 |nil=>intro k L h;rw[fQ] at h;cases h;exact fun x hx=>absurd hx ck
 |cons p t ih=>
  intro k L h;rw[fQ] at h;split at h
  ·exact ih _ L h
  ·split at h
   ·rename_i h1 h2;obtain⟨L2,e1,e2⟩:=dh.1 h;subst e2;intro x hx;rcases al.1 hx with rfl|hx
    ·exact (FG (acT h2).1).1
    ·exact ih _ L2 e1 x hx
   ·cases h
theorem aSL {cs:Cells} {ps:cH}: ∀ (at':List (Int×Int)) (aA:List Int) (n:Nat) (L:List (Int×Nat)),its cs ps at' aA n=some L→(∀ x∈L,2≤x.1):=by
 intro at';induction at' with
 |nil=>intro aA n L h;rw[PB] at h;cases h;exact fun x hx=>absurd hx ck
 |cons p at' ih=>
  intro aA n L h;cases aA with
  |nil=>rw[agX] at h;cases h;exact fun x hx=>absurd hx ck
  |cons g aA=>
   rw[its] at h;split at h
   ·cases h
   ·rename_i a ha;obtain⟨L2,e1,e2⟩:=dh.1 h;subst e2;intro x hx;rcases ei.1 hx with hx|hx
    ·unfold FH at ha;split at ha
     ·cases ha;exact absurd hx ck
     ·split at ha
      ·cases ha
      ·rename_i l hl;obtain⟨L3,e3,e4⟩:=dh.1 ha;subst e4;rcases al.1 hx with rfl|hx
       ·exact (FG (mF hl).1).1
       ·exact apO _ _ L3 e3 x hx
    ·exact ih aA _ L2 e1 x hx
theorem atB: ∀ (l g:List Int) (i:Nat) (a:One),a∈quF l g i→ ∃ j:Nat,a.1=(j:Int)∧i≤j∧j<i+l.length∧ ∃ x,l[j-i]? =some x∧0<x
 |[],g,i,a,h=>by cases g<;>simp [quF] at h
 |x::l,[],i,a,h=>by simp [quF] at h
 |x::l,y::g,i,a,h=>by
  rw[quF] at h;rcases ei.1 h with h|h
  ·split at h
   ·next hx=>
    rw[eh] at h;subst h;exact⟨i,rfl,df _,by rw[dv];omega,x,by rw[Nat.sub_self];rfl,hx⟩
   ·exact absurd h ck
  ·obtain⟨j,h1,h2,h3,z,h4,h5⟩:=atB l g (i+1) a h;refine⟨j,h1,Z8,by rw[dv];omega,z, ?_,h5⟩;rw[show j-i=(j-(i+1))+1 from by omega,List.getElem?_cons_succ];exact h4
theorem abW: ∀ (l:List kQ) (g:List Int),(∀ x∈l,x.gone=false)→aoS g l=g
 |[],_,_=>rfl
 |x::l,g,h=>by
  show aoS (if x.gone=true then _ else g) l=g;rw[h x bu,Jf Ja];exact abW l g fun y hy=>h y (a8 _ hy)
def aeS (fs:List Int) (i:Nat) (c:Int):Int:=if c∈fs.take i then 1 else 0
theorem azQ {fs:List Int} {i:Nat} {k:Int} (h:fs[i]? =some k):(fun j=>if j=k then 1 else aeS fs i j)=aeS fs (i+1):=by
 funext j;unfold aeS;rw[List.take_add_one,h,Option.toList_some];by_cases e:j=k
 ·rw[Jg e,Jg (ei.2 (.inr (eh.2 e)))]
 ·rw[Jf e];by_cases hm:j∈fs.take i
  ·rw[Jg hm,Jg (ei.2 (.inl hm))]
  ·rw[Jf hm,Jf fun hc=>(ei.1 hc).elim hm fun h2=>e (eh.1 h2)]
theorem azR (fs:List Int):(fun _:Int=>(0:Int))=aeS fs 0:=by
 funext j;unfold aeS;rw[acb,Jf ck]
theorem aNZ {cs:Cells} {ps:cH} {k:Nat} {n:Int} {zs:List bU} {b:Bool} (h:oK cs ps k=some (n,zs,b)):0≤n∧n≤2147483647:=by
 unfold oK at h;split at h
 ·next ho=>
  obtain⟨zs',_,e⟩:=dh.1 h;have:=(lH.BQ (lH.auO _ ho.1).1).2;simp only[Prod.mk.injEq] at e;rw[←e.1];exact⟨this.1,this.2.1⟩
 ·cases h
attribute [local irreducible] box own sl bL aH bJ Qt cN cM dG dL eQ
theorem azS (bs:Nat) (x:iV) {tab:cT} (hI:Inv x tab) (zn:x.ops.length≤1000):
  Ct lk 59 [aH bs 0] (bI bs x) (tN bs x tab):=by
 have hg:=hI.pM.mM;have hn128:=hg.n1;have hw400:=hg.wait;have hfr:=aeG hI;have CN:=aaE x.d.a x.d.w x.d.m x.d.g x.d.ca x.d.cw x.d.cm x.d.cg x.d.cs x.d.ps x.d.at' x.d.aA Zl Zl (FQ hI.pM.map);obtain⟨CL,zv⟩:=aSK hI.pM;have CN1:Ct lk 48 [.agg #[.slice x.d.a x.d.cs.length x.d.ca, .slice x.d.w x.d.ps.length x.d.cw], .agg #[.slice x.d.m x.d.at'.length x.d.cm, .slice x.d.g x.d.aA.length x.d.cg]] [sl 1 (.slice x.d.a x.d.cs.length x.d.ca) (x.d.cs.map fS),sl 2 (.slice x.d.w x.d.ps.length x.d.cw) (x.d.ps.map fP),sl 2 (.slice x.d.m x.d.at'.length x.d.cm) (x.d.at'.map jP),sl 1 (.slice x.d.g x.d.aA.length x.d.cg) (x.d.aA.map fI)] fun v H'=> ∃ q,v= .tuple #[.slice q (dQ x.d.cs.length (cC (fun _=>0) CL)).length x.d.cs.length, .int .i64 0]∧H'=[own (.slice q (dQ x.d.cs.length (cC (fun _=>0) CL)).length x.d.cs.length) 3 1 (dQ x.d.cs.length (cC (fun _=>0) CL)).length (flat fI (dQ x.d.cs.length (cC (fun _=>0) CL)))]:=bY CN fun v H' h=>by
  have zj:(dQ x.d.cs.length (cC (fun _=>0) CL)).length=x.d.cs.length:=by unfold dQ;simp
  rcases h with⟨L,q,h1,h2,h3⟩|⟨h1,_⟩
  ·have e:CL=L:=by have:=zv.2.2;rw[h1.2.2] at this;exact (a7 this).symm
   subst e;rw[zj];exact⟨q,h2,h3⟩
  ·exact absurd ⟨CL,zv⟩ h1
 have zj:(dQ x.d.cs.length (cC (fun _=>0) CL)).length=x.d.cs.length:=by unfold dQ;simp
 have zb: ∀ u,(dQ x.d.cs.length (cC (fun _=>0) CL))[0]? =some u→u=0:=fun u hu=>by
  have zh:=aSL _ _ _ _ zv.2.2;rw[eG _ (by have:=hg.n0;omega)] at hu;have:=NU (L:=CL) (c:=0) (fun y hy=>by have:=zh y hy;omega) (fun _=>0);rw[this] at hu;exact (a7 hu).symm
 have za: ∀ u∈dQ x.d.cs.length (cC (fun _=>0) CL),0≤u∧u≤1000:=fun u hu=>by
  unfold dQ at hu;obtain⟨j,_,rfl⟩:=fa.1 hu;have:=aNY zv j;omega
 generalize dQ x.d.cs.length (cC (fun _=>0) CL)=live at*;clear CN zv;have MVS:=fun bm m V zw g z8=>azH bs x.d (.int .i64 x.gJ) (.int .i64 x.turn) (.slice x.qf x.fr.length x.cf) (.slice x.qo x.ops.length x.co) hI.pM bm m V zw g z8
 have CI:=fun l (hl:l.length≤100) hC hS q0 c0 hN z7=>alK bs x hI zn (tab':=tab) (l:=l) hl hC hS hI.shut q0 c0 0 Z8 (N:=5) hN (G:=x.d.aA) z7
 have MC:=fun V zw out h=>aSF hI.pM hI.shut (V:=V) zw (out:=out) h
 have CE:=fun k (hk:k<x.d.cs.length)=>RL x.d.a x.d.w x.d.ca x.d.cw x.d.cs x.d.ps k hk hg
 have BAD:tN bs x tab (.int .i64 0) (bI bs x):= .inl ⟨rfl,rfl⟩;have YES: ∀ v H',hU bs x tab x.d.aA 5 0 v H'→tN bs x tab v H':=fun v H' h=> .inr h
 have hint:=fun v H'=>gK (b:=bs) (x:=x) (tab':=tab) (G:=x.d.aA) (N:=5) (keep:=0) (v:=v) (H':=H')
 have hs0:=hI.gJ;have hs9:=hI.ayF;refine gH (R:=tN bs x tab) ?_ fun _ _ h=>h
 generalize tN bs x tab=RR at*;obtain⟨d,s,tn,qf,cf,F,qo,co,Lo⟩:=x;obtain⟨a,ca,cs,w,cw,wl,mm,cm,at1,qg,cg,aA⟩:=d;unfold bI bC aX at*;dsimp only[dw,dz] at*;(refine Ye Tryz.func59 Tryz.ntmps59 ?_;intro Fr);refine aM ?_;(refine aD (Hq:=[_,_,_,_,_]) [0,1,2,3,4] [] rfl Jd Za ?_);refine dP ?_;(refine Cc 8 (CN1) ?_;rintro _ _ ⟨_,⟨q1,rfl,rfl⟩,rfl⟩;refine Te ?_;(try refine Da ?_));refine aF ?_;(refine aL wt rfl (dH (fI) ((0:Int)) (c:=live.length) rfl rfl rfl Zf Zf rfl rfl Z8 Zi) ?_;rintro _ _ ⟨qa,rfl,rfl⟩);have h00:(du live.length (0:Int)).length=live.length:=List.length_replicate;have h01: ∀ u∈du live.length (0:Int),0≤u∧u≤2147483647:=fun u hu=>by rw[List.eq_of_mem_replicate hu];omega
 refine aF ?_;(refine aC (σ:=Nat×List Int) (fun y=>2≤y.1∧y.2.length=live.length∧ ∀ u∈y.2,0≤u∧u≤2147483647) (fun y=>[(6, .int .i64 (y.1:Int))]) (fun y=>[own (.slice qa live.length live.length) 3 1 live.length (flat fI y.2)]) _ (fun y=>live.length-y.1) ((2,du live.length 0)) (by exact⟨df _,h00,h01⟩) Ze Zb (fun⟨i,ag⟩ ⟨yz,zu,zr⟩=> ?_);refine Da ?_);clear h00 h01;dsimp only at yz zu zr ⊢;rcases Nat.lt_or_ge i live.length with hlt|zh
 ·have CE1:=CE i Z8;refine aM ?_;(refine Ca (CE1) ?_;rintro _ _ ⟨_,hr,rfl⟩;(try refine Da ?_));rcases hr with⟨n,zs,bb,qz,cz,zy,rfl,rfl⟩|⟨zy,n,rfl,rfl⟩
  ·have hn:=aNZ zy;obtain⟨u0,hu0⟩: ∃ u,ag[i]? =some u:=⟨_,ak Z8⟩;clear CE CE1 zy;refine Da ?_;refine aF ?_;(refine dC wt (aI (f:=fI) (q':=(max 0 (s-n):Int)) rfl rfl rfl rfl Zk rfl Z8 Zg Jc rfl rfl Jb) ?_;rintro _ _ ⟨rfl,rfl⟩);refine aF ?_;refine Ee ((i+1,ag.set i (max 0 (s-n)))) ?_ ?_
   ·refine⟨by dsimp only;omega,by rw[List.length_set];exact zu,fun u hu=> ?_⟩;rcases List.mem_or_eq_of_mem_set hu with h|h
    ·exact zr u h
    ·omega
   ·dsimp only;omega
  ·clear CE CE1 zy;refine Da ?_;refine aF ?_;refine Ee ((i+1,ag)) ?_ ?_
   ·exact⟨by dsimp only;omega,zu,zr⟩
   ·dsimp only;omega
 ·have OA:=abV q1 qa cs.length live.length live ag Zl Zl;rw[zu] at OA;clear CE CN1;refine aM ?_;(refine Ca (OA) ?_;rintro _ _ ⟨_,hr,rfl⟩;(try refine Da ?_));rcases hr with⟨os,qs,cq,yx,zx,_,_,rfl,rfl⟩|⟨zm,e,he,rfl,rfl⟩
  case inr=>
   refine absurd zm fun h=> ?_
   rcases h with h|h|⟨i2,x2,a2,h1,h2,h3⟩
   ·exact h zu.symm
   ·omega
   ·have h4:=za x2 (jg h1);have h5:=zr a2 (jg h2);omega
  have zt: ∀ u∈os.map (·.1), ∃ j:Nat,u=(j:Int)∧j<128∧j≠0:=fun u hu=>by
   obtain⟨z,hz,rfl⟩:=fa.1 hu;obtain⟨j,h1,h2,h3,x0,h4,h5⟩:=atB live ag 0 z (zx.mem_iff.1 hz);refine⟨j,h1,Z8,fun e=> ?_⟩;subst e;have:=zb x0 h4;omega
  have zg:(os.map (·.1)).length=os.length:=gp ..;clear zx yx OA;refine Da ?_;refine aM ?_;(refine aL wt rfl (agZ rfl) ?_;rintro _ _ ⟨b4,rfl,rfl⟩);refine aM ?_;obtain⟨K,hK⟩: ∃ K,K=min 6 os.length:=⟨_,rfl⟩;have zf:min (6:Int) (os.length:Int)=(K:Int):=Z8
  refine aN (bB (v:= .slice qs os.length cq) (e:=3) (m:=os.length) (f:=fI) (ys:=os.map (·.1)) aU (fun _=>rfl) zg.symm) ?_;rw[zf];refine oI 12 rfl wt rfl (tY (m:=K) rfl rfl rfl aU rfl Z8) ?_;refine aN (uD (e:=sl 1 (.slice qs os.length cq) ((os.map (·.1)).map fI)) aU (View.part (m:=K) bQ.here Z8)) ?_;have hfl:((os.map (·.1)).take K).length=K:=by rw[List.length_take];omega
  have zl: ∀ u∈(os.map (·.1)).take K, ∃ j:Nat,u=(j:Int)∧j<128∧j≠0:=fun u hu=>zt u (List.mem_of_mem_take hu)
  generalize (os.map (·.1)).take K=fs at*;have hK6:K≤6:=Z8
  rw[show sl.cK lk 3 3 b4 0 (fun _=>0)=sl.cK lk 3 3 b4 0 (aeS fs 0) from by rw[←azR fs]];clear zt zg zf hK;have zk:okI 1:=show (Lit.int .i64 1).wf=true from Z9
  refine aM ?_;(refine aC (σ:=Nat) (fun i=>i≤K) (fun i=>[(79, .int .i64 (i:Int))]) (fun i=>[sl.cK lk 3 3 b4 i (aeS fs i)]) _ (fun i=>K-i) (0) Zx Ze Zb (fun i hi=> ?_);refine Da ?_);rcases dW fs i with⟨k,hk,hlt⟩|hge2
  ·have yv:okI k:=by
    obtain⟨j,rfl,h1,_⟩:=zl k (jg hk);exact LV Z8
   have yu:=azQ hk;refine aM ?_;refine dC wt (XB rfl rfl rfl rfl aU yv zk Zl) ?_;rintro _ _ ⟨rfl,rfl⟩;rw[yu];refine aF ?_;refine Ee (i+1) ?_ ?_
   ·omega
   ·omega
  ·obtain rfl:i=K:=Z8
   have zw:decide ((0:Int)∈fs)=false:=decide_eq_false fun h=>by
    obtain⟨j,h1,_,h2⟩:=zl 0 h;omega
   have MV1 := MVS b4 i (fun c => decide (c ∈ fs)) zw (aeS fs i) (fun c => by
    unfold aeS;rw [List.take_of_length_le Z8];simp)
   have MC1:=fun out h=>MC (fun c=>decide (c∈fs)) zw out h
   clear MVS MC zl;refine aM ?_;refine Cb (MV1) ?_;rintro _ _ ⟨_,⟨out,q9,c9,zq,rfl,rfl⟩,rfl⟩;have hlen:=TV zq;have ze:=abW out aA fun z hz=>by
    obtain⟨n,_,h2⟩:=zq.one z hz;exact h2.gone
   obtain⟨m1,m2⟩:=MC1 out zq;have hpl: ∀ z∈out,z.parts.length≤1000:=fun z hz=>by have:=(m2 z hz).2.1;omega
   have hbd:=IH m2;have BL:=KD q9 c9 out Z8 hpl;have SP:=fun q c=>uG q c (aW out) Z8
   obtain⟨gs,g1,_,_⟩:=pA (F:=F) (IG m2) (fun P=>uW P out 0 m2);rw[g1] at SP;dsimp only at SP;rw[gp] at SP;have C1:=fun hN=>CI out Z8 m1 m2 q9 c9 hN ze
   rw[g1] at C1;dsimp only at C1;rw[gp] at C1;generalize aW out=B0 at*;clear MV1 MC1 m1 m2 zq CI g1 ze hpl;refine Da ?_;refine aM ?_;refine aN (bB (v:= .slice q9 out.length c9) (e:=237) (m:=out.length) (f:=mQ) (ys:=out) aU (fun _=>rfl) rfl) ?_;refine aN (VB (sz:=4) (l:=out.map xP) aU) ?_;refine Cb (BL) ?_;rintro _ _ ⟨_,⟨q5,c5,rfl,rfl⟩,rfl⟩;refine Da ?_;refine aM ?_;(refine Ca (SP _ _) ?_;rintro _ _ ⟨_,⟨q6,c6,rfl,rfl⟩,rfl⟩;refine Da ?_);refine aM ?_;(refine aL wt rfl (alD rfl rfl aU) ?_;rintro _ _ ⟨j,hj,rfl,rfl⟩);by_cases h1:j≤gs.length
   ·have hb:=BAD;clear C1 hint YES BL SP;refine aF ?_;exact Ea (x:=hb)
   ·by_cases h2:F.length<gs.length
    ·have hb:=BAD;clear C1 hint YES BL SP;refine aF ?_;exact Ea (x:=hb)
    ·have C2:=C1 Z8;clear C1 BL SP BAD;refine aF ?_;refine Cb (C2) ?_;rintro _ _ ⟨_,hm,rfl⟩;obtain⟨e2,rfl⟩:=hint _ _ hm;refine aN (cA afs) ?_;refine Da ?_;refine aF ?_;exact Ec (x:=YES _ _ hm)
end fs
namespace fs
attribute [local irreducible] box own sl bL aH bJ Qt cN cM dG dL eQ
theorem aOA (b:Nat) (x:iV) {tab:cT} (hI:Inv x tab) (s:List UInt8) (s2:ByteArray) (at' N:Int) (text:List UInt8):
  Ct lk 15 [aH b 0,jG 12 s s2 at' N text] (bI b x) fun v H'=> ∃ e:Int,v=eS e∧tN b (aE x) tab (.int .i64 e) H':=by
 have FA:=gX;have CL:=azS b (aE x) (qN hI) (fe _);have YES: ∀ (e:Int) H',tN b (aE x) tab (.int .i64 e) H'→ ∃ e':Int,eS e=eS e'∧tN b (aE x) tab (.int .i64 e') H':=fun e H' h=>⟨e,rfl,h⟩
 have hint: ∀ v H',tN b (aE x) tab v H'→ ∃ e:Int,v= .int .i64 e:=fun v H' h=>by
  rcases h with⟨h,_⟩|h
  ·exact⟨0,h⟩
  ·exact gK h
 unfold eS at FA YES ⊢;generalize tN b (aE x) tab=CR at*;unfold aE at CL;unfold jG;clear hI;obtain⟨d,s0,tn,qf,cf,F,qo,co,Lo⟩:=x;obtain⟨a,ca,cs,w,cw,wl,m,cm,at1,qg,cg,aA⟩:=d;unfold bI bC aX at*;dsimp only[dw,dz] at*;(refine Ye Tryz.func15 Tryz.ntmps15 ?_;intro Fr);refine aO (aS _ 87 3) ?_;(repeat' (first|refine Y2 ?_|(refine Wb ?_;intro b)|(refine Wq ?_;intro q)|(refine Ws ?_ ?_<;>intro h)|refine Wz ?_|fail));refine Cb (CL) ?_;rintro _ _ ⟨_,hm,rfl⟩;obtain⟨e2,rfl⟩:=hint _ _ hm;refine aN (cA afs) ?_;refine Da ?_;refine lG ?_;exact Ec (x:=YES _ _ hm)
end fs
