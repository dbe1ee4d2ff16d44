/- Law HandStale: its texts, packed. -/
import Derived.Test.YtbjalbcdbgcgdaaGreatK44
import Derived.Test.YtbjalbcdbgcgdaaGreatK07
import Derived.Test.YtbjalbcdbgcgdaaGreatK35
import Derived.Test.YtbjalbcdbgcgdaaGreatK37
import Derived.Test.YtbjalbcdbgcgdaaGreatK41
open List renaming Perm.cons->ql,cons_append->jg,getElem?_eq_getElem->aj,getElem?_eq_some_iff->ah,length_append->ag,length_cons->fb,length_map->jj,mem_append->ft,mem_cons_of_mem->ax,mem_cons_self->bc,mem_filter->l9,mem_map->fu,mem_singleton->fk,nil_append->fe,nodup_range->qz,not_mem_nil->fj,perm_append_comm->qq,range->jn
open Nat renaming add_zero->dm,le_refl->aq,le_trans->ae,zero_add->di,zero_le->fg
open Int renaming toNat_natCast->fq
open ByteArray renaming empty->qu
open Classical renaming em->qh
set_option linter.unusedVariables false
set_option maxRecDepth 100000
set_option maxHeartbeats 8000000
namespace Go.Proofs.YtbjalbcdbgcgdaaGreat.fs
open Go.RowKit bG sl aX use dO fV dE file dir yQ
attribute [local irreducible] box own sl gH aH bC Qt cJ cG dC dG eO
theorem OU {b:Nat} {x:tG} {tab:jQ} {n:Nat} {y:Nd} {at':Int} {text:List UInt8} {v:Value} {H':List Ent} (h:WrR b x tab n y at' text v H'): ∃ e:Int,v=kQ e:=by
 rcases h with⟨_,h,_⟩|⟨_,e,h,_⟩
 ·exact⟨_,h⟩
 ·exact⟨e,h⟩
theorem ajY (b:Nat) (x:tG) {tab:jQ} (hI:Inv x tab) (s:List UInt8) (hs:s.length≤1000000000000000) {L:List (List UInt8)} (h:CA.bN s=(L,0)) {ino:Nat} (hwL:dR tab 0 L=(0,ino)) {z:Nd} (hz:tab ino=some z) (hzk:z.kind=1) (s2:ByteArray) (at' N:Int) (text:List UInt8) (ht:text.length≤1000000000000000):
  Ct Tryz.prog 15 [aH b 0,tF 3 s s2 at' N text] (fU b x) (WrR b (bT x) tab ino z at' text):=by
 have S0:=rL hs h;obtain⟨hgood,hl8⟩:=mK h;have FA:=JE;have W0:=fun qL cL=>uP b (bT x).d (.int .i64 (bT x).vZ) (.int .i64 (bT x).turn) (.slice (bT x).qf (bT x).fr.length (bT x).cf) (.slice (bT x).qo (bT x).ops.length (bT x).co) tab hI.BZ hI.shut qL cL L (by omega) (fun s hs=>by have:=(hgood s hs).2.2.2.1;omega)
 rw[hwL] at W0;have BA:=fun l hl q c=>acP b (bT x) (wC hI) (fg _) hz hzk (l:=l) hl ⟨s.toArray⟩ s2 at' N text ht q c
 have YES: ∀ v H',WrR b (bT x) tab ino z at' text v H'→WrR b (bT x) tab ino z at' text v H':=fun v H' h=>h
 have hint:=fun v H'=>OU (b:=b) (x:=bT x) (tab:=tab) (n:=ino) (y:=z) (at':=at') (text:=text) (v:=v) (H':=H')
 refine lX (R:=WrR b (bT x) tab ino z at' text) ?_ fun _ _ h=>h
 generalize WrR b (bT x) tab ino z at' text=RR at*;unfold kQ at FA hint;unfold wV at W0;unfold bT at BA W0;unfold tF;obtain⟨d,s0,tn,qf,cf,F,qo,co,Lo⟩:=x;obtain⟨a,ca,cs,w,cw,wl,m,cm,at1,qg,cg,aE⟩:=d;unfold fU bE bB at*;dsimp only[jg,fe] at*;(refine Ye Tryz.func15 Tryz.ntmps15 ?_;intro Fr);(repeat' (first|refine Wa ?_|refine aF ?_|(refine Wb ?_;intro b)|fail));refine aS (aY _ 87 3) ?_;(refine Ca (S0) ?_;rintro _ _ ⟨_,⟨q1,c1,rfl,rfl⟩,rfl⟩;refine Da ?_);refine dN ?_;(refine Ca (W0 _ _) ?_;rintro _ _ ⟨_,hr,rfl⟩;(try refine Da ?_));rcases hr with⟨h0,rfl,rfl⟩|⟨y',l,q,c,⟨_,hy',hly⟩,rfl,rfl⟩
 ·exact absurd rfl h0
 ·rw[hz] at hy';cases hy';have hk1:kI l=1:=by rw[hly.kind];exact hzk
  have BA1:=BA l hly;rw[hk1] at BA1 ⊢;clear BA W0;refine Da ?_;(repeat' (first|refine Wa ?_|refine aF ?_|(refine Wb ?_;intro b)|fail));refine aS (bI (v:= .slice q (pI l).length c) (e:=77) (m:=(pI l).length) (f:=jW) (ys:=pI l) aN (fun _=>rfl) rfl) ?_;refine Cb (BA1 _ _) ?_;rintro _ _ ⟨_,hm,rfl⟩;obtain⟨e2,rfl⟩:=hint _ _ hm;refine aS (bO qq) ?_;refine Da ?_;refine eU ?_;exact Ec (x:=YES _ _ hm)
end Go.Proofs.YtbjalbcdbgcgdaaGreat.fs
namespace Go.Proofs.YtbjalbcdbgcgdaaGreat.hand
open Go.RowKit bG sl aX dE dO use fs
def axF (bt b:Nat) (X:tG) (tab:jQ) (n:Nat) (z:Nd) (x y:Hd) (text:List UInt8) (v:Value) (H':List Ent):Prop:=
 ∃ (e:Int) (w:List Ent),WrR b (bT X) tab n z x.qE text (kQ e) w∧v= .int .i64 e∧((e≠0∧H'=rF bt b x y::w)∨(e=0∧H'=rF bt b ⟨x.hi,x.hg,x.qE+text.length,true⟩ y::w))
attribute [local irreducible] box own sl gH aH bC Qt cJ cG dC dG eO
theorem acQ (bt b:Nat) (x y:Hd) (hx:x.xB=true) (qE:0≤x.qE∧x.qE≤1000000) (X:tG) {tab:jQ} (hI:Inv X tab) {k:Nat} (hD:Deep tab k 0) (hk:k≤40) {n:Nat} (hxi:x.hi=(n:Int)) {z:Nd} (hz:tab n=some z) (hzk:z.kind=1) (hzg:z.gen=x.hg) {L:List (List UInt8)} (hpl:(pZ tab k n).length≤1000000000000000) (h:CA.bN (pZ tab k n)=(L,0)) (hwL:dR tab 0 L=(0,n)) (text:List UInt8) (ht:text.length≤1000000000000000):
  Ct Tryz.prog 42 [aH bt 0, .int .i64 0, .string (str text)] (rF bt b x y::fU b X) (axF bt b X tab n z x y text):=by
 obtain⟨lz,pz,gz,hlz,q1,q2,q3,q4,q5,_⟩:=JB hI.BZ hz;have G0:=aoJ bt b X.d (.int .i64 X.vZ) (.int .i64 X.turn) (.slice X.qf X.fr.length X.cf) (.slice X.qo X.ops.length X.co) x y hx hI.BZ hI.shut hD hk hxi (NK hI.BZ hz) q1 (by rw[q2,q5,hzg]) q3;have W0:=ajY b X hI (pZ tab k n) hpl h hwL hz hzk qu x.qE 0 text ht;have hint:=fun v H'=>OU (b:=b) (x:=bT X) (tab:=tab) (n:=n) (y:=z) (at':=x.qE) (text:=text) (v:=v) (H':=H')
 have YB: ∀ (e:Int) w,WrR b (bT X) tab n z x.qE text (kQ e) w→e≠0→axF bt b X tab n z x y text (.int .i64 e) (rF bt b x y::w):=fun e w h1 h2=>⟨e,w,h1,rfl, .inl ⟨h2,rfl⟩⟩
 have YG: ∀ w,WrR b (bT X) tab n z x.qE text (kQ 0) w→axF bt b X tab n z x y text (.int .i64 0) (rF bt b ⟨x.hi,x.hg,x.qE+text.length,true⟩ y::w):=fun w h1=>⟨0,w,h1,rfl, .inr ⟨rfl,rfl⟩⟩
 refine lX (R:=axF bt b X tab n z x y text) ?_ fun _ _ h=>h
 generalize axF bt b X tab n z x y text=RR at*;generalize WrR b (bT X) tab n z x.qE text=WR at*;generalize pZ tab k n=pth at*;clear hI hD hz hzk hzg hwL h hlz q1 q2 q3 q4 q5 hpl hxi;unfold tF at W0;unfold kQ at hint YB YG;obtain⟨x1,x2,x3,x4⟩:=x;obtain⟨y1,y2,y3,y4⟩:=y;dsimp only at hx qE W0 YB YG;subst hx;obtain⟨d,s0,tn,qf,cf,F,qo,co,Lo⟩:=X;obtain⟨a,ca,cs,w,cw,wl,m,cm,at1,qg,cg,aE⟩:=d;unfold rF eR Hd.cells at*;unfold fU bE bB at*;dsimp only[jg,fe] at*;(refine Ye Tryz.func42 Tryz.ntmps42 ?_;intro Fr);refine dN ?_;(refine Ca (G0) ?_;rintro _ _ ⟨_,⟨rfl,rfl⟩,rfl⟩;refine Da ?_);refine dN ?_;(refine aB (Hq:=[_]) [0] [13] rfl (by kernel_rfl) Za ?_);refine gX ?_;(refine aA 11 ?_;refine cU 12 (by kernel_rfl) ?_ ?_)
 ·(refine tN 1 11 (by rfl) wt (by rfl) (kD rfl (W0) rfl (by exact pca)) ?_;rintro _ _ ⟨_,hm,rfl⟩;refine⟨(by first|exact fun h=>absurd h (by decide)|exact fun _=>HSub.trans (HSub.nZ (List.sublist_append_right _ _)) iS|exact fun _=>iS), ?_⟩;(try dsimp only[jg,fe]));obtain⟨e2,rfl⟩:=hint _ _ hm;refine wD ?_;refine Da ?_;(refine aA 12 ?_;refine Oa (l:=by exact iI rfl) (k:= ?_);rintro _ _ ⟨b5,rfl,rfl⟩;refine Te ?_;(try refine Da ?_));(refine aA 13 ?_;refine Ob (l:=by exact Zf) (k:= ?_);rintro _ _ ⟨rfl,rfl⟩;refine Te ?_;(try refine Da ?_));(repeat' (first|refine Wa ?_|refine Wk ?_|refine We ?_|(refine Ws ?_ ?_<;>intro h)|fail))
  ·have he:e2≠0:=by omega
   skip
   exact gU rfl (by exact qK) _ (YB e2 _ hm he) (HSub.trans (by exact yP) (bO (ql _ qq)))
  ·have he:e2=0:=by omega
   subst he
   skip
   exact gU rfl (by exact qK) _ (YG _ hm) (HSub.trans (by exact yP) (bO (ql _ qq)))
 ·(refine Oc (l:=by exact iI rfl) (k:= ?_);rintro _ _ ⟨b5,rfl,rfl⟩;refine Te ?_;(try refine Da ?_));(refine Ce 11 (W0) ?_;rintro _ _ ⟨_,hm,rfl⟩;refine Tf ?_;(try refine Da ?_));obtain⟨e2,rfl⟩:=hint _ _ hm;refine wD ?_;refine Da ?_;(refine aA 13 ?_;refine Ob (l:=by exact Zf) (k:= ?_);rintro _ _ ⟨rfl,rfl⟩;refine Te ?_;(try refine Da ?_));(repeat' (first|refine Wa ?_|refine Wk ?_|refine We ?_|(refine Ws ?_ ?_<;>intro h)|fail))
  ·have he:e2≠0:=by omega
   skip
   exact gU rfl (by exact qK) _ (YB e2 _ hm he) (HSub.trans (by exact yP) (bO (ql _ qq)))
  ·have he:e2=0:=by omega
   subst he
   skip
   exact gU rfl (by exact qK) _ (YG _ hm) (HSub.trans (by exact yP) (bO (ql _ qq)))
end Go.Proofs.YtbjalbcdbgcgdaaGreat.hand
namespace Go.Proofs.YtbjalbcdbgcgdaaGreat.fs
open Go.RowKit bG sl aX use dO
structure ajZ (d:FD) (serial turn:Int) (pt:ByteArray) (cs2:List ByteArray) (F:List Int):Prop where
 hpt:pt=str (BI.yH (turn+1) serial (d.at'.zip d.aE))
 wf:WfM d.at' d.aE
 xL:dP d.at' d.aE
 vZ:BI.ajR (turn+1) serial
 tn: -1≤turn
 dk:aX.bL d.cs d.ps=0
 wr:aX.bK (aX.land (fun _=>true) 0 d.cs d.ps) [] ((turn+1)%2) pt=0
 dk2:aX.bL (aX.land (fun _=>true) 0 d.cs d.ps) [((turn+1)%2,pt)]=0
 aIW:cs2=aX.land (fun _=>true) 0 (aX.land (fun _=>true) 0 d.cs d.ps) [((turn+1)%2,pt)]
 n2:2≤cs2.length
 cnt: ∃ L,KR cs2 [] d.at' d.aE L∧F=iH (cN (fun _=>0) L) cs2.length
attribute [local irreducible] box own sl gH aH bC Qt cJ cG dC dG eO
theorem axG (b:Nat) (d:FD) (serial turn:Int) (f:Value) (l:List OpT) (q0:Option Addr) (c0:Nat) {pt:ByteArray} {cs2:List ByteArray} {F:List Int} (hl:l.length≤100000) (h:ajZ d serial turn pt cs2 F):
  Ct Tryz.prog 58 [aH b 0] (bE b d (.int .i64 serial) (.int .i64 turn) f (.slice q0 l.length c0)::(bB d++[own (.slice q0 l.length c0) 87 3 l.length (flat WC l)])) fun v H'=> ∃ a ca w cw q c qf cf,v= .int .i64 0∧H'=bE b ⟨a,ca,cs2,w,cw,[],d.m,d.cm,d.at',d.g,d.cg,d.aE⟩ (.int .i64 serial) (.int .i64 (turn+1)) (.slice qf F.length cf) (.slice q (l++[(2,0,qu)]++[(1,(turn+1)%2,pt)]++[(2,0,qu)]).length c)::(bB ⟨a,ca,cs2,w,cw,[],d.m,d.cm,d.at',d.g,d.cg,d.aE⟩++[own (.slice q (l++[(2,0,qu)]++[(1,(turn+1)%2,pt)]++[(2,0,qu)]).length c) 87 3 (l++[(2,0,qu)]++[(1,(turn+1)%2,pt)]++[(2,0,qu)]).length (flat WC (l++[(2,0,qu)]++[(1,(turn+1)%2,pt)]++[(2,0,qu)])),own (.slice qf F.length cf) 3 1 F.length (flat fI F)]):=by
 obtain⟨rfl,hwf,hgm,hser,ht0,hdk,hwr,hdk2,rfl,hn2,L,hcnt,rfl⟩:=h;have P0:=BI.uN d.m d.g d.cm d.cg hwf hgm hser;obtain⟨s1,s2,s3,s4⟩:=hser;have hgd:=aX.II hdk;have hll:=aX.oV (fun _=>true) d.ps 0 d.cs;have hn128:=hgd.n1;have D0:=ajP b d (.int .i64 serial) (.int .i64 turn) f l q0 c0 (by have:=hgd.n1;omega) (by have:=hgd.wait;omega) (by omega) hdk;obtain⟨a,ca,cs,w,cw,wl,m,cm,at1,qg,cg,aE⟩:=d;unfold BH at D0;unfold bE bB at*;dsimp only[jg,fe] at P0 D0 hwf hgm hdk hwr hdk2 hn2 hcnt hll hn128 ⊢;generalize str (BI.yH (turn+1) serial (at1.zip aE))=pt at*;(refine Ye Tryz.func58 Tryz.ntmps58 ?_;intro Fr);refine Yw7 ?_;(refine Cc 14 (P0) ?_;rintro _ _ ⟨_,⟨rfl,rfl⟩,rfl⟩;refine Te ?_;(try refine Da ?_));refine KA ?_;refine Cb (D0) ?_;rintro _ _ ⟨_,⟨a1,ca1,w1,cw1,q1,c1,rfl,rfl⟩,rfl⟩;refine Da ?_;have D1:=NQ b ⟨a1,ca1,aX.land (fun _=>true) 0 cs wl,w1,cw1,[],m,cm,at1,qg,cg,aE⟩ (.int .i64 serial) (.int .i64 (turn+1)) f (l++[(2,0,qu)]) q1 c1 ((turn+1)%2) pt Zj (by simp) (by simp;omega) hwr;unfold BH bE bB at D1;dsimp only[jg,fe] at D1;refine aZ ?_;refine Cb (D1) ?_;rintro _ _ ⟨_,⟨a2,ca2,w2,cw2,q2,c2,rfl,rfl⟩,rfl⟩;refine Da ?_;have D2:=ajP b ⟨a2,ca2,aX.land (fun _=>true) 0 cs wl,w2,cw2,[((turn+1)%2,pt)],m,cm,at1,qg,cg,aE⟩ (.int .i64 serial) (.int .i64 (turn+1)) f (l++[(2,0,qu)]++[(1,(turn+1)%2,pt)]) q2 c2 Zj (by simp) (by simp;omega) hdk2;unfold BH bE bB at D2;dsimp only[jg,fe] at D2;refine aZ ?_;refine Cb (D2) ?_;rintro _ _ ⟨_,⟨a3,ca3,w3,cw3,q3,c3,rfl,rfl⟩,rfl⟩;refine Da ?_;generalize hcs3:aX.land (fun _=>true) 0 (aX.land (fun _=>true) 0 cs wl) [((turn+1)%2,pt)]=cs3 at*;have D3:=awA b ⟨a3,ca3,cs3,w3,cw3,[],m,cm,at1,qg,cg,aE⟩ (.int .i64 serial) (.int .i64 (turn+1)) f (.slice q3 (l++[(2,0,qu)]++[(1,(turn+1)%2,pt)]++[(2,0,qu)]).length c3) (by have:=hcnt.1.n1;dsimp only;omega) (by simp) hn2 hwf hcnt;unfold bE bB at D3;dsimp only at D3;refine aZ ?_;(refine Ca (D3) ?_;rintro _ _ ⟨_,⟨qf,cf,rfl,rfl⟩,rfl⟩;refine Da ?_);refine eU ?_;exact Ea (x:=⟨a3,ca3,w3,cw3,q3,c3,qf,cf,rfl,rfl⟩)
end Go.Proofs.YtbjalbcdbgcgdaaGreat.fs
namespace Go.Proofs.YtbjalbcdbgcgdaaGreat.fs
open Go.RowKit bG sl aX use dO fV dE file
theorem OV (K:Nat→Bool): ∀ (ps:List (Int×ByteArray)) (i:Nat) (cs:List ByteArray),(∀ s∈cs,s.size≤1024)→(∀ p∈ps,p.2.size≤1024)→ ∀ s∈aX.land K i cs ps,s.size≤1024
 |[],_,cs,h,_,s,hs=>h s hs
 |p::ps,i,cs,h,hp,s,hs=>by
  rw[aX.land] at hs;refine OV K ps (i+1) _ (fun t ht=> ?_) (fun q hq=>hp q (ax _ hq)) s hs;split at ht
  ·rcases List.mem_or_eq_of_mem_set ht with h1|h1
   ·exact h t h1
   ·rw[h1];exact hp p bc
  ·exact h t ht
theorem TS {cs:List ByteArray} {ps:List (Int×ByteArray)} (h:aX.Good cs ps):aX.Good (aX.land (fun _=>true) 0 cs ps) []:=
 ⟨by rw[aX.oV];exact h.n0,by rw[aX.oV];exact h.n1,OV _ ps 0 cs h.cells fun p hp=>(uB.1 (h.adQ p hp)).2.2,fun p hp=>absurd hp fj,fg _⟩
theorem apT (L:List (Int×Nat)): ∀ (F:Nat→Nat) (c:Nat),F c≤cN F L c:=by
 induction L with
 |nil=>intro F c;exact aq _
 |cons x L ih=>
  intro F c;rw[cN];refine ae ?_ (ih _ c);unfold fJ;split
  ·next e=>subst e;omega
  ·exact aq _
theorem OW {L:List (Int×Nat)} {x:Int×Nat} (h:x∈L): ∀ F:Nat→Nat,x.2≤cN F L x.1.toNat:=by
 induction L with
 |nil=>exact absurd h fj
 |cons y L ih=>
  intro F;rw[cN];rcases List.mem_cons.1 h with rfl|h
  ·refine ae ?_ (apT L _ _);unfold fJ;rw[if_pos rfl];omega
  ·exact ih h _
theorem acR {L:List (Int×Nat)} {c:Nat} (h: ∀ x∈L,x.1.toNat≠c): ∀ F:Nat→Nat,cN F L c=F c:=by
 induction L with
 |nil=>intro F;rfl
 |cons y L ih=>
  intro F;rw[cN,ih fun x hx=>h x (ax _ hx)];unfold fJ;rw[if_neg fun e=>h y bc e.symm]
theorem OX {cs:Cells} {ps:dK} {n:Int}: ∀ (t:List (Int×Int)) (k:Nat),(∀ (j:Nat) (q:Int×Int),t[j]? =some q→q.1≠0→(gZ cs ps n ((k+j:Nat):Int) q).2=0)→ ∃ L,iK cs ps n t k=some L∧L.length≤t.length∧ ∀ (j:Nat) (q:Int×Int),t[j]? =some q→q.1≠0→(q.1,(gZ cs ps n ((k+j:Nat):Int) q).1.length)∈L
 |[],_,_=>⟨[],rfl,aq _,fun j q h=>by simp at h⟩
 |p::t,k,h=>by
  obtain⟨L,h1,h2,h3⟩:=OX t (k+1) fun j q hq h0=>by
   have:=h (j+1) q (by simpa using hq) h0;rwa [show k+(j+1)=k+1+j from by omega] at this
  rw[iK];by_cases h0:p.1=0
  ·rw[if_pos h0];refine⟨L,h1,by rw[fb];omega,fun j q hq hq0=> ?_⟩;cases j with
   |zero=>cases hq;exact absurd h0 hq0
   |succ j=>
    have:=h3 j q (by simpa using hq) hq0;rwa [show k+1+j=k+(j+1) from by omega] at this
  ·have h00:=h 0 p rfl h0;rw[dm] at h00;rw[if_neg h0,if_pos h00,h1];refine⟨_,rfl,by rw[fb,fb];omega,fun j q hq hq0=> ?_⟩;cases j with
   |zero=>cases hq;rw[dm];exact bc
   |succ j=>
    have:=h3 j q (by simpa using hq) hq0;rw[show k+1+j=k+(j+1) from by omega] at this;exact ax _ this
def GK (at':List (Int×Int)):Nat:=(at'.filter fun p=>decide (p.1≠0)).length
theorem axH {cs:Cells} {ps:dK}: ∀ (at':List (Int×Int)) (aE:List Int) (n:Nat),at'.length=aE.length→(∀ (j:Nat) (p:Int×Int) (g:Int),at'[j]? =some p→aE[j]? =some g→p.1≠0→ ∃ l:List UInt8,nR cs ps p g ((n+j:Nat):Int)=some l∧(pI l).length≤8∧ ∀ (k:Nat) (q:Int×Int),(pI l)[k]? =some q→q.1≠0→(gZ cs ps ((n+j:Nat):Int) (k:Int) q).2=0)→ ∃ L,its cs ps at' aE n=some L∧L.length≤9*GK at'∧ ∀ (j:Nat) (p:Int×Int) (g:Int) (l:List UInt8),at'[j]? =some p→aE[j]? =some g→p.1≠0→nR cs ps p g ((n+j:Nat):Int)=some l→(p.1,l.length)∈L∧ ∀ (k:Nat) (q:Int×Int),(pI l)[k]? =some q→q.1≠0→(q.1,(gZ cs ps ((n+j:Nat):Int) (k:Int) q).1.length)∈L
 |[],aE,n,_,_=>⟨[],ahX ..,fg _,fun j p g l h=>by simp at h⟩
 |p::at',[],n,hl,_=>by simp at hl
 |p::at',g::aE,n,hl,h=>by
  obtain⟨L,h1,h2,h3⟩:=axH at' aE (n+1) (by simpa using hl) fun j p g hp hg h0=>by
   have:=h (j+1) p g (by simpa using hp) (by simpa using hg) h0;rwa [show n+(j+1)=n+1+j from by omega] at this
  rw[its];by_cases h0:p.1=0
  ·have e:KP cs ps p g n=some []:=by unfold KP;rw[if_pos h0]
   rw[e];dsimp only;rw[h1];refine⟨_,rfl, ?_,fun j p' g' l hp hg hp0 hi=> ?_⟩
   ·show L.length≤_;unfold GK at h2 ⊢;rw[List.filter_cons_of_neg (by simp [h0])];exact h2
   ·cases j with
    |zero=>cases hp;exact absurd h0 hp0
    |succ j=>
     show (p'.1,l.length)∈L∧ ∀ (k:Nat) (q:Int×Int),(pI l)[k]? =some q→q.1≠0→(q.1,(gZ cs ps ((n+(j+1):Nat):Int) (k:Int) q).1.length)∈L;have:=h3 j p' g' l (by simpa using hp) (by simpa using hg) hp0;rw[show n+1+j=n+(j+1) from by omega] at this;exact this hi
  ·obtain⟨l0,i1,i2,i3⟩:=h 0 p g rfl rfl h0;obtain⟨L0,k1,k2,k3⟩:=OX (cs:=cs) (ps:=ps) (n:=(n:Int)) (pI l0) 0 fun j q hq hq0=>by
    rw[di];exact i3 j q hq hq0
   have e:KP cs ps p g n=some ((p.1,l0.length)::L0):=by
    unfold KP;rw[if_neg h0,show nR cs ps p g (n:Int)=some l0 from i1];dsimp only;rw[k1];rfl
   rw[e];dsimp only;rw[h1];refine⟨_,rfl, ?_,fun j p' g' l hp hg hp0 hi=> ?_⟩
   ·unfold GK at h2 ⊢;rw[List.filter_cons_of_pos (by simp [h0]),ag,fb,fb];omega
   ·cases j with
    |zero=>
     cases hp;cases hg;rw[dm] at hi ⊢;rw[show nR cs ps p g (n:Int)=some l0 from i1] at hi;cases hi;refine⟨ft.2 (.inl bc),fun k q hq hq0=> ?_⟩;have:=k3 k q hq hq0;rw[di] at this;exact ft.2 (.inl (ax _ this))
    |succ j=>
     have:=h3 j p' g' l (by simpa using hp) (by simpa using hg) hp0;rw[show n+1+j=n+(j+1) from by omega] at this;obtain⟨m1,m2⟩:=this hi;exact⟨ft.2 (.inr m1),fun k q hq hq0=>ft.2 (.inr (m2 k q hq hq0))⟩
theorem akA: ∀ {l S:List Nat},l.Nodup→(∀ x∈l,x∈S)→l.length≤S.length
 |[],_,_,_=>fg _
 |x::l,S,hd,h=>by
  obtain⟨h1,h2⟩:=List.nodup_cons.1 hd;have hx:=h x bc;have:=akA (S:=S.erase x) h2 fun y hy=>(List.mem_erase_of_ne (fun e=>h1 (by rw[←e];exact hy))).2 (h y (ax _ hy))
  rw[List.length_erase_of_mem hx] at this;have:=List.length_pos_of_mem hx;rw[fb];omega
theorem OY {L:List (Int×Nat)} {n:Nat}:n≤(iH (cN (fun _=>0) L) n).length+(2+L.length):=by
 have h:=akA (l:=jn n) (S:=((jn n).filter fun j=>decide (2≤j)&&decide (cN (fun _=>0) L j=0))++([0,1]++L.map fun x=>x.1.toNat)) qz fun j hj=>by
  by_cases h2:2≤j
  ·by_cases h0:cN (fun _=>0) L j=0
   ·exact ft.2 (.inl (l9.2 ⟨hj,by simp [h2,h0]⟩))
   ·refine ft.2 (.inr (ft.2 (.inr ?_)));rcases qh (∃ x∈L,x.1.toNat=j) with⟨x,hx,e⟩|hn
    ·exact fu.2 ⟨x,hx,e⟩
    ·exact absurd (acR (fun x hx e=>hn ⟨x,hx,e⟩) _) h0
  ·refine ft.2 (.inr (ft.2 (.inl ?_)));have:j=0∨j=1:=by omega
   simpa using this
 rw[List.length_range,ag,ag,jj] at h;unfold iH;rw[jj];simpa using h
theorem EN {F:Nat→Nat} {n:Nat} {c:Int} (h:c∈iH F n): ∃ j:Nat,c=(j:Int)∧2≤j∧j<n∧F j=0:=by
 unfold iH at h;obtain⟨j,hj,rfl⟩:=fu.1 h;obtain⟨h1,h2⟩:=l9.1 hj;simp only[Bool.and_eq_true,decide_eq_true_eq] at h2;exact⟨j,rfl,h2.1,List.mem_range.1 h1,h2.2⟩
theorem GL (F:Nat→Nat) (n:Nat):(iH F n).Nodup:=by
 unfold iH;exact List.pairwise_map.2 ((qz.sublist List.filter_sublist).imp fun h e=>h (by omega))
def ptF (d:FD) (serial turn:Int):ByteArray:=str (BI.yH (turn+1) serial (d.at'.zip d.aE))
def syF (d:FD) (serial turn:Int):List ByteArray:=aX.land (fun _=>true) 0 (aX.land (fun _=>true) 0 d.cs d.ps) [((turn+1)%2,ptF d serial turn)]
theorem axI {d:FD} {tab:jQ} {serial turn:Int} (hL:WO d tab) (h2:2≤d.cs.length) (hs:0≤serial∧serial≤2147483647) (ht: -1≤turn∧turn<2147483647): ∃ F,ajZ d serial turn (ptF d serial turn) (syF d serial turn) F∧d.cs.length≤F.length+(2+9*GK d.at')∧ ∀ d':FD,d'.cs=syF d serial turn→d'.ps=[]→d'.at'=d.at'→d'.aE=d.aE→WO d' tab∧Room d' F∧2≤d'.cs.length:=by
 have hP:BI.ajR (turn+1) serial:=⟨hs.1,hs.2,by omega,by omega⟩;have hm:=hL.map;have hg1:=TS hL.xL;have hl1:(aX.land (fun _=>true) 0 d.cs d.ps).length=d.cs.length:=aX.oV ..;have hzl:(d.at'.zip d.aE).length=48:=by rw[List.length_zip,hm.1,hm.2.1];rfl
 have hpt:(ptF d serial turn).size≤1024:=by
  have h1:=(jX.KF (BI.GD hzl hP)).2.2.2;unfold ptF BI.yH;rw[bP,jX.CN];omega
 have hc:0≤(turn+1)%2∧(turn+1)%2<2:=by omega
 have hg2:aX.Good (aX.land (fun _=>true) 0 d.cs d.ps) [((turn+1)%2,ptF d serial turn)]:=
  ⟨hg1.n0,hg1.n1,hg1.cells,fun p hp=>by rw[fk] at hp;subst hp;exact uB.2 ⟨hc.1,by rw[hl1];dsimp only;omega,hpt⟩,by simp⟩
 have hg3:=TS hg2;have hl3:(syF d serial turn).length=d.cs.length:=by unfold syF;rw[aX.oV,hl1]
 have hblob: ∀ p:Int×Int,bS (syF d serial turn) [] p=bS d.cs d.ps p:=fun p=>by
  by_cases h0:p.1<2
  ·unfold bS;rw[if_pos (.inl h0),if_pos (.inl h0)]
  ·refine NY hl3 ?_;unfold syF;rw[abH 0 _ (fun q hq=>by rw[fk] at hq;subst hq;exact⟨hc.1,by rw[hl1];dsimp only;omega⟩)];have:=VZ (cs:=aX.land (fun _=>true) 0 d.cs d.ps) (ps:=[]) (a:=(turn+1)%2) (b:=((p.1.toNat:Nat):Int)) (t:=ptF d serial turn);rw[fe] at this;rw[this,if_neg (by omega)];exact abH 0 _ (aX.ajN hL.xL)
 have hino: ∀ p g n,nR (syF d serial turn) [] p g n=nR d.cs d.ps p g n:=fun p g n=>by unfold nR;rw[hblob]
 have hpart: ∀ n k p,gZ (syF d serial turn) [] n k p=gZ d.cs d.ps n k p:=fun n k p=>by unfold gZ;rw[hblob]
 have hnum: ∀ n:Nat,n<48→ ∀ p,d.at'[n]? =some p→p.1≠0→ ∃ y,tab n=some y:=fun n hn p hp h0=>by
  cases hy:tab n with
  |some y=>exact⟨y,rfl⟩
  |none=>
   have:=hL.none n hn hy;rw[hp] at this;cases this;exact absurd rfl h0
 obtain⟨L,k1,k2,k3⟩:=axH (cs:=syF d serial turn) (ps:=[]) d.at' d.aE 0 (by rw[hm.1,hm.2.1]) fun j p g hp hg h0=>by
  have hj:j<48:=by have:=(ah.1 hp).1;have:=hm.1;omega
  obtain⟨y,hy⟩:=hnum j hj p hp h0;obtain⟨l,hl⟩:=hL.some j y hy;obtain⟨p',g',e1,e2,e3,e4⟩:=hl.told.ex;rw[hp] at e1;cases e1;rw[hg] at e2;cases e2;rw[di];refine⟨l,by rw[hino];exact e4,by have:=hl.data.1;have:=hl.small;unfold aJ at*;omega,fun k q hq hq0=> ?_⟩;rw[hpart];obtain⟨s,hs⟩: ∃ s,y.parts[k]? =some s:=⟨_,aj (by have:=(ah.1 hq).1;have:=hl.data.2.1;omega)⟩;rcases hl.data.2.2 k q s hq hs with⟨h,_⟩|⟨_,_,t,h,_⟩
  ·exact absurd h hq0
  ·rw[h]
 have hcnt:KR (syF d serial turn) [] d.at' d.aE L:=⟨hg3,hm,k1⟩;refine⟨iH (cN (fun _=>0) L) (syF d serial turn).length,⟨rfl,IY hm,hm,hP,ht.1,aX.IJ hL.xL,OE (q:=[]) hg2,aX.IJ hg2,rfl,by rw[hl3];exact h2,L,hcnt,rfl⟩, ?_,fun d' h1 h3 h4 h5=> ?_⟩
 ·have:=OY (L:=L) (n:=(syF d serial turn).length);rw[hl3] at this ⊢;omega
 ·have hlie:WO d' tab:=by
   refine⟨by rw[h1,h3];exact hg3,by rw[h4,h5];exact hm,fun n hn h=>by rw[h4];exact hL.none n hn h,fun n y hy=> ?_⟩;obtain⟨l,hl⟩:=hL.some n y hy;obtain⟨p,g,e1,e2,e3,e4⟩:=hl.told.ex;refine⟨l,⟨by rw[h1,h3];exact hg3,by rw[h4,h5];exact hm,hl.told.lt,p,g,by rw[h4];exact e1,by rw[h5];exact e2,e3,by rw[h1,h3,hino];exact e4⟩,hl.kind,hl.gen,hl.size,hl.small,hl.data.1,hl.data.2.1,fun k q s hq hs=> ?_⟩;rcases hl.data.2.2 k q s hq hs with h|⟨h,h6,t,h7,h8⟩
   ·exact .inl h
   ·exact .inr ⟨h,h6,t,by rw[h1,h3,hpart];exact h7,h8⟩
  refine⟨hlie,⟨GL _ _,fun c hc=> ?_,fun c hc hlv=> ?_, ?_⟩,by rw[h1,hl3];exact h2⟩
  ·obtain⟨j,rfl,j2,j3,_⟩:=EN hc;rw[h1];omega
  ·obtain⟨j,rfl,j2,j3,j4⟩:=EN hc;obtain⟨n,p,g,l,e1,e2,e3,e4,e5⟩:=hlv;rw[h4] at e1;rw[h5] at e2;rw[h1,h3] at e4;have k4:=k3 n p g l e1 e2 e3 (by rw[di];exact e4);have hn:n<48:=by have:=(ah.1 e1).1;have:=hm.1;omega
   rcases e5 with e5|⟨q,hq,e5⟩
   ·have h9:=OW k4.1 fun _=>0
    dsimp only at h9;rw[e5,fq,j4] at h9;have:=(uC e4).2.2.2.1.1;omega
   ·obtain⟨k,hk,rfl⟩:=List.getElem_of_mem hq;have hq0:(pI l)[k].1≠0:=by omega
    have h9:=OW (k4.2 k _ (aj hk) hq0) fun _=>0
    dsimp only at h9;rw[e5,fq,j4] at h9;obtain⟨y,hy⟩:=hnum n hn p e1 e3;obtain⟨l',hl'⟩:=hlie.some n y hy;obtain⟨p',g',f1,f2,f3,f4⟩:=hl'.told.ex;rw[h4,e1] at f1;cases f1;rw[h5,e2] at f2;cases f2;rw[h1,h3,e4] at f4;cases f4;obtain⟨s,hs⟩: ∃ s,y.parts[k]? =some s:=⟨_,aj (by have:=hl'.data.2.1;omega)⟩;rcases hl'.data.2.2 k _ s (aj hk) hs with⟨h,_⟩|⟨_,_,t,h,hr⟩
    ·exact hq0 h
    ·rw[h1,h3] at h;rw[di,h] at h9;have:=List.length_pos_iff.2 (kG.SH hr).1;dsimp only at h9;omega
  ·rw[h3,List.length_nil];have:=vX (cN (fun _=>0) L) (syF d serial turn).length;have:=hg3.n1;unfold syF at*;omega
end Go.Proofs.YtbjalbcdbgcgdaaGreat.fs
