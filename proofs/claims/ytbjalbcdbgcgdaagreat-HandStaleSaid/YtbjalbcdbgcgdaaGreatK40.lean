/- Law HandStale: its texts, packed. -/
import Derived.Test.YtbjalbcdbgcgdaaGreatK39
import Derived.Test.YtbjalbcdbgcgdaaGreatK36
import Derived.Test.YtbjalbcdbgcgdaaGreatK07
open List renaming append_assoc->ep,append_cons->po,append_nil->jc,cons_append->jg,drop_eq_getElem_cons->cu,drop_length->o8,getElem?_eq_getElem->aj,getElem?_eq_some_iff->ah,getElem?_set_self->qc,getElem_mem->qd,getElem_of_mem->ph,length->ni,length_append->ag,length_drop->eu,length_map->jj,length_range->kx,mem_append->ft,mem_cons_of_mem->ax,mem_cons_self->bc,mem_map->fu,mem_of_getElem?->jm,mem_of_mem_drop->mr,mem_of_mem_take->kt,nil_append->fe,nodup_cons->p8,range->jn
open Nat renaming zero_add->di,zero_le->fg
open Int renaming toNat_natCast->fq
open ByteArray renaming size->ar
open Classical renaming em->qh
set_option linter.unusedVariables false
set_option maxRecDepth 100000
set_option maxHeartbeats 8000000
namespace Go.Proofs.YtbjalbcdbgcgdaaGreat.fs
open Go.RowKit bG sl aX use dO fV dE fix file
def aDA (m:qC) (x:lS):Prop:=
 ∃ i:Nat,x.ino=(i:Int)∧i<48∧(x.gone=true→ ∃ p0 g0,m.1[i]? =some p0∧m.2[i]? =some g0∧p0.1≠0∧g0<2147483647)∧
  (x.gone=false→ ∃ z:Nat,x.z=(z:Int)∧z≤4096∧(x.k=1∨x.k=2)∧(0≤x.g∧x.g≤2147483647)∧x.parts.length=aJ z∧ ∀ p∈x.parts,p.fresh=false→fH p.pl)
theorem aoW {P:List (Int×Int)} (hP: ∀ p∈P,fH p∧p.1≠0) {a:Nat} {t:List tD} (ha:a+nM t≤P.length) (ht: ∀ p∈t,p.fresh=false→fH p.pl): ∀ q∈lT P a t,fH q:=fun q hq=>by
 obtain⟨i,hi,rfl⟩:=ph hq;obtain⟨p,hp,h|h⟩:=JA (aj hi)
 ·rw[h.2];have:=aFD hp h.1;rw[aj (by omega)];exact (hP _ (qd _)).1
 ·rw[h.2];exact ht p (jm hp) h.1
theorem awJ {P:List (Int×Int)} (hP: ∀ p∈P,fH p∧p.1≠0) {a z:Nat} {x:lS} (ha:a+nM x.parts≤P.length) (hz:z≤4096) (hk:x.k=1∨x.k=2) (hg:0≤x.g∧x.g≤2147483647) (hl:x.parts.length=aJ z) (ht: ∀ p∈x.parts,p.fresh=false→fH p.pl):awI x.k x.g z (lT P a x.parts):=
 ⟨hk,hg,hz,by rw[mY];exact hl,aoW hP ha ht⟩
theorem TF {P:List (Int×Int)} (hP: ∀ p∈P,fH p∧p.1≠0): ∀ (l:List lS) (a:Nat) (m:qC),a+(aQ l).length≤P.length→(l.map (·.ino)).Nodup→(∀ x∈l,aDA m x)→oW P a m l
 |[],_,_,_,_,_=>trivial
 |x::l,a,m,ha,hd,hx=>by
  rw[List.map_cons,p8] at hd;rw[show aQ (x::l)=iZ x++aQ l from rfl,ag] at ha;obtain⟨i,hi,hlt,hg,hn⟩:=hx x bc;refine⟨⟨i,hi,hlt,hg,fun h=> ?_⟩,TF hP l _ _ (by omega) hd.2 fun y hy=> ?_⟩
  ·obtain⟨z,ez,hz,hk,hgn,hl,ht⟩:=hn h;have hc:=mH x;rw[if_neg (by simp [h])] at hc;have hw:=awJ hP (a:=a) (x:=x) (z:=z) (by omega) hz hk hgn hl ht;have hin:a+nM x.parts<P.length:=by omega
   refine⟨by omega,hgn,by omega,by unfold aJ at hl;omega,hin,hw.aGY,by rw[ez];exact GH hw,P[a+nM x.parts],aj hin,hP _ (qd _)⟩
  ·obtain⟨j,hj,hjl,hjg,hjn⟩:=hx y (ax _ hy);have hne:x.ino.toNat≠j:=fun e=>hd.1 (fu.2 ⟨y,hy,by omega⟩)
   obtain⟨o1,o2⟩:=EI (P:=P) (a:=a) (m:=m) hne;refine⟨j,hj,hjl,fun h=> ?_,hjn⟩;obtain⟨p0,g0,h1,h2,h3⟩:=hjg h;exact⟨p0,g0,o1.trans h1,o2.trans h2,h3⟩
theorem TG {cs:Cells} {gs:List (List bD)} {F:List Int} (hl:gs.length≤F.length) (hd:F.Nodup) (hc: ∀ c∈F,2≤c∧c<(cs.length:Int)) (hn:cs.length≤128) (hg: ∀ g∈gs,afW g): ∀ p∈dW F gs,fH p∧p.1≠0:=fun p hp=>by
 induction gs generalizing F with
 |nil=>cases F<;>simp [dW] at hp
 |cons g gs ih=>
  cases F with
  |nil=>simp at hl
  |cons c F=>
   rw[dW,ft] at hp;rcases hp with hp|hp
   ·obtain⟨k,hk,rfl⟩:=fu.1 hp;have hk2:=List.mem_range.1 hk;have h1:=hc c bc;have h2:=(mS (hg g bc).2).1;unfold fH;dsimp only;omega
   ·exact ih (by simpa using hl) (p8.1 hd).2 (fun x hx=>hc x (ax _ hx)) (fun x hx=>hg x (ax _ hx)) hp
structure sZ (d d':FD) (F:List Int) (s:Int) (l:List lS) (gs:List (List bD)):Prop where
 cs:d'.cs=d.cs
 ps:d'.ps=d.ps++gO s F gs
 at':d'.at'=(gQ (dW F gs) 0 (d.at',d.aE) l).1
 aE:d'.aE=(gQ (dW F gs) 0 (d.at',d.aE) l).2
structure sQ (d:FD) (F:List Int) (s:Int) (l:List lS) (gs:List (List bD)):Prop where
 split:bN (aQ l)=(gs.map (fun g=>(g.length:Int)),0)
 flat:gs.flatten=gP (dW F gs) 0 l
 fit: ∀ g∈gs,afW g
 room:gs.length≤F.length
 s0:0≤s
 s1:s+gs.length≤2147483647
theorem JB {d:FD} {tab:jQ} (hL:WO d tab) {n:Nat} {y:Nd} (hy:tab n=some y): ∃ l p g,jO d n y l∧d.at'[n]? =some p∧d.aE[n]? =some g∧p.1≠0∧nR d.cs d.ps p g (n:Int)=some l∧g=y.gen∧Live d p.1∧ ∀ q∈pI l,Live d q.1:=by
 obtain⟨l,hl⟩:=hL.some n y hy;obtain⟨p,g,h1,h2,h3,h4⟩:=hl.told.ex;have hg:=(uC h4).2.2.2.2.1;exact⟨l,p,g,hl,h1,h2,h3,h4,by rw[←hg,hl.gen],⟨n,p,g,l,h1,h2,h3,h4, .inl rfl⟩,fun q hq=>⟨n,p,g,l,h1,h2,h3,h4, .inr ⟨q,hq,rfl⟩⟩⟩
theorem WG {d:FD} {tab tab':jQ} {l:List lS} (hL:WO d tab) (hC:sP d tab l tab'): ∀ x∈l,aDA (d.at',d.aE) x:=fun x hx=>by
 cases hg:x.gone with
 |true=>
  obtain⟨n,y,hi,hy,hb,_⟩:=hC.gone x hx hg;obtain⟨l0,p,g,h1,h2,h3,h4,_,h5,_⟩:=JB hL hy;exact⟨n,hi,NK hL hy,fun _=>⟨p,g,h2,h3,h4,by rw[h5];exact hb⟩,fun h=>by simp [hg] at h⟩
 |false=>
  obtain⟨n,y,h,_⟩:=hC.new x hx hg;have h1:=h.len;have h2:=h.aFC;have hgn:0≤x.g∧x.g≤2147483647:=by
   have hm:=hL.map;obtain⟨p,hp⟩: ∃ p,d.at'[n]? =some p:=⟨_,aj (by have:=hm.1;have:=h.lt;omega)⟩;exact (hm.2.2 n h.lt p x.g hp h.gen).2
  refine⟨n,h.ino,h.lt,fun e=>by simp [hg] at e,fun _=>⟨y.size,h.ez,h.size,by rw[h.ek];exact h.kind,hgn,h1,fun p hp hf=> ?_⟩⟩;obtain⟨i,hi,rfl⟩:=ph hp;rcases h.parts i _ y.parts[i] (aj hi) (aj (by omega)) with⟨h3,_⟩|⟨_,_,h3,_⟩
  ·rw[hf] at h3;cases h3
  ·exact h3
section
variable {d d':FD} {tab tab':jQ} {F:List Int} {s:Int} {l:List lS} {gs:List (List bD)}
theorem TH (hA:sZ d d' F s l gs) (hR:Room d F) {n z k:Nat} {p:Int×Int} {t:List UInt8} (h:NI d n z k p t) (hl:p.1=0∨Live d p.1):NI d' n z k p t:=by
 rcases h with h|⟨h0,h1,u,h2,h3⟩
 ·exact .inl h
 ·have hL:=hl.resolve_left h0;refine .inr ⟨h0,h1,u, ?_,h3⟩;have e:bS d'.cs d'.ps p=bS d.cs d.ps p:=by
   rw[hA.cs,hA.ps];exact sN fun e=>hR.dead _ (kt e) hL
  unfold gZ at h2 ⊢;rw[e];exact h2
theorem abW (hA:sZ d d' F s l gs) (hR:Room d F) {n:Nat} {p:Int×Int} {g:Int} (hl:Live d p.1):nR d'.cs d'.ps p g (n:Int)=nR d.cs d.ps p g (n:Int):=by
 have e:bS d'.cs d'.ps p=bS d.cs d.ps p:=by
  rw[hA.cs,hA.ps];exact sN fun e=>hR.dead _ (kt e) hl
 unfold nR;rw[e]
theorem aBF (hA:sZ d d' F s l gs) (hR:Room d F) (hg':aX.Good d'.cs d'.ps) (hm':dP d'.at' d'.aE) {n:Nat} {y:Nd} {t:List UInt8} (h:jO d n y t) (hn: ∀ x∈l,x.ino≠(n:Int)) (h0: ∀ x∈l,0≤x.ino):jO d' n y t:=by
 obtain⟨p,g,h1,h2,h3,h4⟩:=h.told.ex;obtain⟨o1,o2⟩:=nY (P:=dW F gs) (n:=n) l 0 (d.at',d.aE) fun x hx e=>hn x hx (by have:=h0 x hx;omega)
 have hlive:Live d p.1:=⟨n,p,g,t,h1,h2,h3,h4, .inl rfl⟩;refine⟨⟨hg',hm',h.told.lt,p,g,by rw[hA.at',o1];exact h1,by rw[hA.aE,o2];exact h2,h3,by rw[abW hA hR hlive];exact h4⟩,h.kind,h.gen,h.size,h.small,h.data.1,h.data.2.1,fun k q u hq hu=> ?_⟩;exact TH hA hR (h.data.2.2 k q u hq hu) (.inr ⟨n,p,g,t,h1,h2,h3,h4, .inr ⟨q,jm hq,rfl⟩⟩)
theorem yJ (hA:sZ d d' F s l gs) (hR:Room d F) (hG:sQ d F s l gs) (hg:aX.Good d.cs d.ps):aX.Good d'.cs d'.ps:=by
 rw[hA.cs,hA.ps];refine⟨hg.n0,hg.n1,hg.cells,fun p hp=> ?_,by rw[ag,uR _ _ _ hG.room];have:=hR.wait;have:=hG.room;omega⟩;rcases ft.1 hp with hp|hp
 ·exact hg.adQ p hp
 ·have hin:=WD _ _ _ p hp;have hc:=hR.inn _ (kt hin);refine uB.2 ⟨by omega,hc.2, ?_⟩;have hsz: ∀ (gs:List (List bD)) (F:List Int) (s:Int),(∀ g∈gs,afW g)→p∈gO s F gs→p.2.size≤1024:=by
   intro gs;induction gs with
   |nil=>intro F s _ h;cases F<;>simp [gO] at h
   |cons g gs ih=>intro F s hf h;cases F with
    |nil=>simp [gO] at h
    |cons c F=>
     rw[gO,List.mem_cons] at h;rcases h with rfl|h
     ·have hw:=(jH (l:=g) gs.isEmpty (hf g bc).2).1;show (str (jX.dH 1 (s+1) (aR g gs.isEmpty))).size≤1024;rw[show (str (jX.dH 1 (s+1) (aR g gs.isEmpty))).size=(jX.dH 1 (s+1) (aR g gs.isEmpty)).length from by simp [ar],jX.CN];omega
     ·exact ih F _ (fun x hx=>hf x (ax _ hx)) h
  exact hsz gs F s hG.fit hp
theorem ajT (hA:sZ d d' F s l gs) (hR:Room d F) (hG:sQ d F s l gs) {i:Nat} {b:bD} (hb:(gP (dW F gs) 0 l)[i]? =some b): ∃ p,(dW F gs)[i]? =some p∧bS d'.cs d'.ps p=(b,0)∧p.1∈F.take gs.length∧p.1≠0:=by
 have hlen:=BK gs F hG.room;rw[hG.flat] at hlen;have hi:=(ah.1 hb).1;obtain⟨p,hp⟩: ∃ p,(dW F gs)[i]? =some p:=⟨_,aj (by omega)⟩;obtain⟨b',h1,h2,h3,_⟩:=GG (cs:=d.cs) gs F s d.ps hG.room hR.nodup hR.inn (fun g hg=>(hG.fit g hg).2) hG.s0 hG.s1 i p hp;rw[hG.flat,hb] at h1;cases h1;have:=hR.inn _ (kt h3);exact⟨p,hp,by rw[hA.cs,hA.ps];exact h2,h3,by omega⟩
theorem vQ (hL:WO d tab) (hR:Room d F) (hC:sP d tab l tab') (hG:sQ d F s l gs):oW (dW F gs) 0 (d.at',d.aE) l:=by
 have hlen:=BK gs F hG.room;rw[hG.flat] at hlen;have h2:(gP (dW F gs) 0 l).length=(aQ l).length:=by
  have:=congrArg ni (rI (dW F gs) l 0);simpa [szs] using this
 exact TF (TG hG.room hR.nodup hR.inn hL.xL.n1 hG.fit) l 0 _ (by omega) hC.one (WG hL hC)
structure aDB (d':FD) (F:List Int) (gs:List (List bD)) (d:FD) (n:Nat) (y:Nd) (p:Int×Int) (t:List UInt8):Prop where
 BZ:jO d' n y t
 pl:d'.at'[n]? =some p
 here:p.1∈F.take gs.length
 parts: ∀ q∈pI t,q.1∈F.take gs.length∨q.1=0∨Live d q.1
theorem aFE (hA:sZ d d' F s l gs) (hL:WO d tab) (hR:Room d F) (hC:sP d tab l tab') (hG:sQ d F s l gs) (hg':aX.Good d'.cs d'.ps) (hm':dP d'.at' d'.aE) {x:lS} {n:Nat} {y:Nd} (hx:x∈l) (hn:x.gone=false) (h:TE d x n y): ∃ p t,aDB d' F gs d n y p t:=by
 have hpos: ∀ z∈l,0≤z.ino:=fun z hz=>by obtain⟨i,hi,_⟩:=WG hL hC z hz;omega
 have hFO:=vQ hL hR hC hG;obtain⟨a',hB,qE,hgn⟩:=WE (P:=dW F gs) l 0 (d.at',d.aE) hpos hC.one hx;have hino:x.ino.toNat=n:=by rw[h.ino];rfl
 rw[hino] at qE hgn;obtain⟨i0,e0,hb0⟩:=hB _ _ (aoV (P:=dW F gs) (a:=a') hn);rw[di] at e0;subst e0;obtain⟨p,hp,hblob,hpF,hp0⟩:=ajT hA hR hG hb0;have hPg:=TG hG.room hR.nodup hR.inn hL.xL.n1 hG.fit;have hpl:=(ah.1 hp).1;obtain⟨i1,f1,f2,_,f3⟩:=WG hL hC x hx;obtain⟨z,ez,hz,hk,hgen,hlen,hok⟩:=f3 hn;have hzz:z=y.size:=by have:=h.ez;omega
 subst hzz;have hw:=awJ hPg (a:=a') (x:=x) (z:=y.size) (by omega) hz hk hgen hlen hok;obtain⟨w1,w2,w3,w4,w5⟩:=afZ hw;rw[←ez] at w1 w2 w3 w4 w5;have hm48:=hL.map.1;have hm48':=hL.map.2.1;have hstep:fQ (dW F gs) a' (d.at',d.aE) x=(d.at'.set n p,d.aE):=by
  unfold fQ;rw[if_neg (by simp [hn]),hino,hp];rfl
 rw[hstep] at qE hgn;have hatp:d'.at'[n]? =some p:=by
  rw[hA.at',qE];exact qc (by have:=h.lt;omega)
 have hgnp:d'.aE[n]? =some x.g:=by rw[hA.aE,hgn];exact h.gen
 have hin:nR d'.cs d'.ps p x.g (n:Int)=some (gC x.k x.g x.z (lT (dW F gs) a' x.parts)):=by
  unfold nR;rw[hblob];dsimp only;rw[if_pos ⟨rfl,rfl,h.ino,w5,w2⟩]
 have hpart: ∀ (k:Nat) (q:Int×Int),(lT (dW F gs) a' x.parts)[k]? =some q→ ∀ u,y.parts[k]? =some u→NI d' n y.size k q u∧(q.1∈F.take gs.length∨q.1=0∨Live d q.1):=by
  intro k q hq u hu;obtain⟨pr,hpr,hc⟩:=JA hq;rcases h.parts k pr u hpr hu with⟨hf,hul,hpR⟩|⟨hf,hpo,_,hlv⟩
  ·have hq2:q=(dW F gs)[a'+nM (x.parts.take k)]?.getD (0,0):=by
    rcases hc with hc|hc
    ·exact hc.2
    ·rw[hf] at hc;cases hc.1
   obtain⟨i2,e2,hb2⟩:=hB _ _ (agB (P:=dW F gs) (a:=a') hn hpr hf);rw[di] at e2;subst e2;obtain⟨p2,hp2,hbl2,hF2,h02⟩:=ajT hA hR hG hb2;rw[hp2] at hq2;have hq3:q=p2:=hq2;subst hq3;refine⟨.inr ⟨h02,hul,pr.text, ?_,hpR⟩, .inl hF2⟩;unfold gZ;rw[hbl2];dsimp only;rw[if_pos ⟨rfl,rfl,h.ino,rfl⟩]
  ·have hq2:q=pr.pl:=by
    rcases hc with hc|hc
    ·rw[hf] at hc;cases hc.1
    ·exact hc.2
   rw[hq2];exact⟨TH hA hR hpo hlv, .inr hlv⟩
 refine⟨p,_,⟨⟨hg',hm',h.lt,p,x.g,hatp,hgnp,hp0,hin⟩,by rw[w1,h.ek],by rw[w2,h.eg],by rw[w3,h.ez],h.size,by rw[w4,mY];exact h.len,by rw[w4,mY,h.len,h.aFC], ?_⟩,hatp,hpF, ?_⟩
 ·intro k q u hq hu;rw[w4] at hq;exact (hpart k q hq u hu).1
 ·intro q hq;rw[w4] at hq;obtain⟨k,hk2,rfl⟩:=ph hq;have hk3:k<y.parts.length:=by rw[mY] at hk2;have:=h.len;have:=h.aFC;omega
  exact (hpart k _ (aj hk2) _ (aj hk3)).2
theorem OD (hA:sZ d d' F s l gs) (hL:WO d tab) (hR:Room d F) (hC:sP d tab l tab') (hG:sQ d F s l gs):WO d' tab'∧Room d' (F.drop gs.length):=by
 have hpos: ∀ z∈l,0≤z.ino:=fun z hz=>by obtain⟨i,hi,_⟩:=WG hL hC z hz;omega
 have hFO:=vQ hL hR hC hG;have hg':=yJ hA hR hG hL.xL;have hm':dP d'.at' d'.aE:=by rw[hA.at',hA.aE];exact TB l 0 (d.at',d.aE) hL.map hFO
 have hm48:=hL.map.1;have hm48':=hL.map.2.1;have hcase: ∀ n:Nat,(∀ x∈l,x.ino≠(n:Int))∨ ∃ x∈l,x.ino=(n:Int):=fun n=>by
  rcases qh (∃ x∈l,x.ino=(n:Int)) with h|h
  ·exact .inr h
  ·exact .inl fun x hx e=>h ⟨x,hx,e⟩
 have hgone: ∀ (n:Nat) (x:lS),x∈l→x.ino=(n:Int)→x.gone=true→tab' n=none∧d'.at'[n]? =some (0,0):=fun n x hx hi hg=>by
  obtain⟨k,y,hk,hy,_,hn⟩:=hC.gone x hx hg;have hkn:k=n:=by omega
  subst hkn;refine⟨hn, ?_⟩;obtain⟨a',_,qE,_⟩:=WE (P:=dW F gs) l 0 (d.at',d.aE) hpos hC.one hx;rw[hk,fq] at qE;rw[hA.at',qE];unfold fQ;rw[if_pos hg,hk,fq];exact qc (by have:=NK hL hy;dsimp only;omega)
 have hnew: ∀ (n:Nat) (x:lS),x∈l→x.ino=(n:Int)→x.gone=false→ ∃ y p t,tab' n=some y∧aDB d' F gs d n y p t:=fun n x hx hi hg=>by
  obtain⟨k,y,hk,hy⟩:=hC.new x hx hg;have hkn:k=n:=by have:=hk.ino;omega
  subst hkn;obtain⟨p,t,h⟩:=aFE hA hL hR hC hG hg' hm' hx hg hk;exact⟨y,p,t,hy,h⟩
 refine⟨⟨hg',hm',fun n hn h=> ?_,fun n y h=> ?_⟩, ?_⟩
 ·rcases hcase n with hc|⟨x,hx,hi⟩
  ·rw[hC.rest n hc] at h;obtain⟨o1,_⟩:=nY (P:=dW F gs) (n:=n) l 0 (d.at',d.aE) fun x hx e=>hc x hx (by have:=hpos x hx;omega)
   rw[hA.at',o1];exact hL.none n hn h
  ·cases hg:x.gone with
   |true=>exact (hgone n x hx hi hg).2
   |false=>
    obtain⟨y,p,t,hy,_⟩:=hnew n x hx hi hg;rw[h] at hy;cases hy
 ·rcases hcase n with hc|⟨x,hx,hi⟩
  ·rw[hC.rest n hc] at h;obtain⟨t,ht⟩:=hL.some n y h;exact⟨t,aBF hA hR hg' hm' ht hc hpos⟩
  ·cases hg:x.gone with
   |true=>rw[(hgone n x hx hi hg).1] at h;cases h
   |false=>
    obtain⟨y',p,t,hy,hN⟩:=hnew n x hx hi hg;rw[h] at hy;cases hy;exact⟨t,hN.BZ⟩
 ·have hFd:F=F.take gs.length++F.drop gs.length:=(List.take_append_drop _ _).symm;have hnd:=hR.nodup;rw[hFd,List.nodup_append] at hnd;refine⟨hnd.2.1,fun c hc=>by rw[hA.cs];exact hR.inn c (mr hc),fun c hc hlv=> ?_, ?_⟩
  ·have hcF:=mr hc;have hnt:c∉F.take gs.length:=fun e=>hnd.2.2 c e c hc rfl
   obtain⟨n,p,g,t,h1,h2,h3,h4,h5⟩:=hlv;rcases hcase n with hcn|⟨x,hx,hi⟩
   ·obtain⟨o1,o2⟩:=nY (P:=dW F gs) (n:=n) l 0 (d.at',d.aE) fun x hx e=>hcn x hx (by have:=hpos x hx;omega)
    rw[hA.at',o1] at h1;rw[hA.aE,o2] at h2;have hn48:n<48:=by have:=(ah.1 h1).1;dsimp only at this;omega
    cases hty:tab n with
    |none=>
     have:=hL.none n hn48 hty;dsimp only at h1;rw[h1] at this;cases this;exact h3 rfl
    |some y=>
     obtain⟨l0,p0,g0,_,k1,k2,k3,k4,_,k5,k6⟩:=JB hL hty;dsimp only at h1 h2;rw[h1] at k1;cases k1;rw[h2] at k2;cases k2;rw[abW hA hR k5,k4] at h4;cases h4;rcases h5 with h5|⟨q,hq,h5⟩
     ·exact hR.dead c hcF (h5 ▸ k5)
     ·exact hR.dead c hcF (h5 ▸ k6 q hq)
   ·cases hg:x.gone with
    |true=>
     have:=(hgone n x hx hi hg).2;rw[h1] at this;cases this;exact h3 rfl
    |false=>
     obtain⟨y,p2,t2,_,hN⟩:=hnew n x hx hi hg;rw[hN.pl] at h1;cases h1;obtain⟨p3,g3,m1,m2,m3,m4⟩:=hN.BZ.told.ex;rw[hN.pl] at m1;cases m1;rw[h2] at m2;cases m2;rw[h4] at m4;cases m4;rcases h5 with h5|⟨q,hq,h5⟩
     ·exact hnt (h5 ▸ hN.here)
     ·rcases hN.parts q hq with h6|h6|h6
      ·exact hnt (h5 ▸ h6)
      ·have:=hR.inn c hcF;omega
      ·exact hR.dead c hcF (h5 ▸ h6)
  ·rw[hA.ps,ag,uR _ _ _ hG.room,eu];have:=hR.wait;have:=hG.room;omega
end
end Go.Proofs.YtbjalbcdbgcgdaaGreat.fs
namespace Go.Proofs.YtbjalbcdbgcgdaaGreat.fs
open Go.RowKit bG sl aX use dO fV dE
theorem agC {cs:List ByteArray} {p q:List (Int×ByteArray)} (h:aX.Good cs (p++q)):aX.Good cs p:=
 ⟨h.n0,h.n1,h.cells,fun x hx=>h.adQ x (ft.2 (.inl hx)),by have:=h.wait;rw[ag] at this;omega⟩
theorem OE {cs:List ByteArray} {p:List (Int×ByteArray)} {c:Int} {t:ByteArray} {q:List (Int×ByteArray)} (h:aX.Good cs (p++(c,t)::q)):aX.bK cs p c t=0:=by
 have h1:=h.adQ (c,t) (ft.2 (.inr bc));have h2:=h.wait;rw[ag,List.length_cons] at h2;unfold aX.bK;rw[if_neg (by rw[aX.IJ (agC h)];simp),if_neg (by simp [h1]),if_neg (by omega)]
theorem aoX {s:Int} {F:List Int} {gs:List (List bD)} {i:Nat} {c:Int} {g:List bD} (hc:F[i]? =some c) (hg:gs[i]? =some g):gO s (F.drop i) (gs.drop i)=(c,NV (s+1) g (gs.drop (i+1)).isEmpty)::gO (s+1) (F.drop (i+1)) (gs.drop (i+1)):=by
 obtain⟨h1,e1⟩:=ah.1 hc;obtain⟨h2,e2⟩:=ah.1 hg;rw[cu h1,cu h2,e1,e2,gO]
theorem aoY {F:List Int} {gs:List (List bD)} {i:Nat} {c:Int} {g:List bD} (hc:F[i]? =some c) (hg:gs[i]? =some g):dW (F.drop i) (gs.drop i)=(jn g.length).map (fun (k:Nat)=>(c,(k:Int)))++dW (F.drop (i+1)) (gs.drop (i+1)):=by
 obtain⟨h1,e1⟩:=ah.1 hc;obtain⟨h2,e2⟩:=ah.1 hg;rw[cu h1,cu h2,e1,e2,dW]
theorem awK (s:Int) (F:List Int) (gs:List (List bD)):gO s F (gs.drop gs.length)=[]:=by
 rw[o8];cases F<;>rfl
theorem awL (F:List Int) (gs:List (List bD)):dW F (gs.drop gs.length)=[]:=by
 rw[o8];cases F<;>rfl
theorem aoZ {gs:List (List bD)} {i:Nat} {g:List bD} (hg:gs[i]? =some g):(gs.drop i).flatten=g++(gs.drop (i+1)).flatten:=by
 obtain⟨h2,e2⟩:=ah.1 hg;rw[cu h2,e2,List.flatten_cons]
theorem agD {sz:Nat} {l:alR} {H R:List Ent} (p:bF (many sz l) H R):HSub H (many sz l::H):=fun w hw=>aD.shared hw rfl (hw.1 _ p.mem) fun k hk=>⟨_,p.mem,rfl,hk⟩
def GY (W:List (Int×ByteArray)):List OpT:=W.map fun p=>(1,p.1,p.2)
def ajU (b:Nat) (d:FD) (s:Int) (t:Value) (F:List Int) (L:List OpT) (l:List lS) (gs:List (List bD)) (v:Value) (H':List Ent):Prop:=
 ∃ d' qf cf q c,sZ d d' F s l gs∧v= .int .i64 0∧H'=bE b d' (.int .i64 (s+gs.length)) t (.slice qf (F.length-gs.length) cf) (.slice q (L++GY (gO s F gs)).length c)::(bB d'++[sl 1 (.slice qf (F.length-gs.length) cf) ((F.drop gs.length).map fI),own (.slice q (L++GY (gO s F gs)).length c) 87 3 (L++GY (gO s F gs)).length (flat WC (L++GY (gO s F gs)))])
structure CSt where
 ci:Nat
 csr:Int
 cps:List (Int×ByteArray)
 cop:List OpT
 ca':Option Addr
 cca:Nat
 cw':Option Addr
 ccw:Nat
 cq:Option Addr
 cqc:Nat
 cB:Option Addr
 cBc:Nat
attribute [local irreducible] box own sl gH aH bC Qt cJ cG dC dG eO
attribute [local irreducible] aQ gP gQ gO dW oW aR fV.bK jX.dH
theorem aBG {gs:List (List bD)} {i:Nat} {g:List bD} (h:gs[i]? =some g):(gs.map fun g=>(g.length:Int))[i]? =some ((g.length:Nat):Int):=by rw[List.getElem?_map,h];rfl
theorem TI (bs:Nat) (d:FD) (s:Int) (t:Value) (qf:Option Addr) (cf:Nat) (F:List Int) (L:List OpT) (qo:Option Addr) (co:Nat) (q0:Option Addr) (c0:Nat) (l:List lS) (keep:Nat) (gs:List (List bD)) (hk:keep≤1000) (hl:l.length≤1000) (hp: ∀ x∈l,x.parts.length≤1000) (hN:(aQ l).length≤1000000) (hF:F.length≤1000) (hL:L.length≤1000)
  (hm:dP d.at' d.aE) (hG:sQ d F s l gs) (hroom:gs.length+keep≤F.length) (hfo:oW (dW F gs) 0 (d.at',d.aE) l) (hgd:aX.Good d.cs (d.ps++gO s F gs)):
  Ct Tryz.prog 135 [aH bs 0, .slice q0 l.length c0, .int .i64 (keep:Int)] (bE bs d (.int .i64 s) t (.slice qf F.length cf) (.slice qo L.length co)::(bB d++[sl 1 (.slice qf F.length cf) (F.map fI),own (.slice qo L.length co) 87 3 L.length (flat WC L),sl 7 (.slice q0 l.length c0) (l.map BJ),many 4 (l.map PW)])) (ajU bs d s t F L l gs):=by
 have BL:=SV q0 c0 l hl hp;obtain⟨hsp,hflat,hfit,hr1,hs0,hs1⟩:=hG;have hszs:(gP (dW F gs) 0 l).length=(aQ l).length:=by
  have:=congrArg ni (rI (dW F gs) l 0);simpa [szs] using this
 have hPl:=BK gs F hr1;rw[hflat,hszs] at hPl;have SP:=fun q c=>vY q c (aQ l) (by omega)
 rw[hsp] at SP;dsimp only at SP;have FI:=fun qB cB qP cP=>KU bs d (.int .i64 s) t (.slice qf F.length cf) (.slice qo L.length co) q0 c0 l qB cB (aQ l).length rfl hN qP cP (dW F gs) (by omega) hl hm hfo
 have AF: ∀ d':FD,d'.cs=d.cs→d'.ps=d.ps++gO s F gs→d'.at'=(gQ (dW F gs) 0 (d.at',d.aE) l).1→d'.aE=(gQ (dW F gs) 0 (d.at',d.aE) l).2→sZ d d' F s l gs:=fun d' h1 h2 h3 h4=>⟨h1,h2,h3,h4⟩
 have hlens:= @aBG gs;obtain⟨ns,hns⟩: ∃ ns,gs.map (fun g=>(g.length:Int))=ns:=⟨_,rfl⟩;have hnl:ns.length=gs.length:=by rw[←hns,jj]
 rw[hns] at SP hlens;have hP0:[]++dW (F.drop 0) (gs.drop 0)=dW F gs:=rfl;have hW0:gO s (F.drop 0) (gs.drop 0)=gO s F gs:=rfl;have hfl0:(gs.drop 0).flatten=gP (dW F gs) 0 l:=hflat;have hlenB:gs.flatten.length=(aQ l).length:=by rw[hflat,hszs]
 unfold ajU;generalize hP:dW F gs=P at*;generalize gQ P 0 (d.at',d.aE) l=M at*;generalize gP P 0 l=BF at*;generalize aQ l=B0 at*;generalize hWs:gO s F gs=W at*;clear hsp hflat hfo hns;obtain⟨a,ca,cs,w,cw,wl,m,cm,at1,qg,cg,aE⟩:=d;unfold awH bE bB at*;dsimp only[jg,fe] at FI AF hm hgd ⊢;(refine Ye Tryz.func135 Tryz.ntmps135 ?_;intro Fr);refine dN ?_;refine aS (agD (sz:=4) (l:=l.map PW) aN) ?_;refine Cb (BL) ?_;rintro _ _ ⟨_,⟨q1,c1,rfl,rfl⟩,rfl⟩;refine Da ?_;refine dN ?_;(refine Ca (SP _ _) ?_;rintro _ _ ⟨_,⟨q2,c2,rfl,rfl⟩,rfl⟩;refine Da ?_);refine dN ?_;refine aT (aY _ 77 2) ?_;(refine aC (σ:=Nat×List (Int×Int)×Option Addr×Nat) (fun x=>x.1≤gs.length∧x.2.1++dW (F.drop x.1) (gs.drop x.1)=P) (fun x=>[(53, .int .i64 (x.1:Int)),(10, .slice x.2.2.1 x.2.1.length x.2.2.2)]) (fun x=>[own (.slice x.2.2.1 x.2.1.length x.2.2.2) 77 2 x.2.1.length (flat jW x.2.1)]) _ (fun x=>gs.length-x.1) ((0,[],none,0)) (by exact⟨fg _,hP0⟩) (by exact gA) Zb (fun⟨i,o,q3,c3⟩ ⟨hi,ho⟩=> ?_);refine Da ?_);clear hP0;dsimp only at hi ho ⊢;rcases iJ gs i with⟨g,hg,hlt⟩|hge
 ·have hnsi:=hlens hg;obtain⟨c,hc⟩: ∃ c,F[i]? =some c:=⟨_,aj (by omega)⟩;rw[aoY hc hg, ←ep] at ho;have ho0:o++(jn 0).map (fun (k:Nat)=>(c,(k:Int)))=o:=by simp
  have hlo:=congrArg ni ho;rw[ag,ag,jj,kx] at hlo;refine dN ?_;(refine aC (σ:=Nat×List (Int×Int)×Option Addr×Nat) (fun x=>x.1≤g.length∧x.2.1=o++(jn x.1).map (fun (k:Nat)=>(c,(k:Int)))) (fun x=>[(59, .int .i64 (x.1:Int)),(10, .slice x.2.2.1 x.2.1.length x.2.2.2)]) (fun x=>[own (.slice x.2.2.1 x.2.1.length x.2.2.2) 77 2 x.2.1.length (flat jW x.2.1)]) _ (fun x=>g.length-x.1) ((0,o,q3,c3)) (by exact⟨fg _,ho0.symm⟩) (by exact gA) Zb (fun⟨k,o2,q4,c4⟩ ⟨hk2,ho2⟩=> ?_);refine Da ?_);clear ho0;dsimp only at hk2 ho2 ⊢;have hlo2:=congrArg ni ho2;rw[ag,jj,kx] at hlo2;rcases Nat.lt_or_ge k g.length with hltk|hgek
  ·have hon:o2++[(c,(k:Int))]=o++(jn (k+1)).map (fun (k:Nat)=>(c,(k:Int))):=by rw[ho2,List.range_succ,List.map_append,ep];rfl
   (repeat' (first|refine Wa ?_|refine We ?_|(refine Wq ?_;intro q)|fail));(refine aI wt (by rfl) (by first|exact Ma (jW) [(c,(k:Int))] rfl|exact Mb (jW) [(c,(k:Int))] rfl) ?_;rintro _ _ ⟨q5,c5,rfl,rfl⟩);refine eU ?_;refine Ee ((k+1,o2++[(c,(k:Int))],q5,c5)) ?_ ?_
   ·exact⟨hltk,hon⟩
   ·dsimp only;omega
  ·obtain rfl:k=g.length:=by omega
   rw[←ho2] at ho;refine aZ ?_;refine Ee ((i+1,o2,q4,c4)) ?_ ?_
   ·exact⟨hlt,ho⟩
   ·dsimp only;omega
 ·obtain rfl:i=gs.length:=by omega
  rw[awL,jc] at ho;subst ho;refine dN ?_;refine aS (bI (v:= .slice q3 o.length c3) (e:=77) (m:=o.length) (f:=jW) (ys:=o) aN (fun _=>rfl) rfl) ?_;refine Cb (FI _ _ _ _) ?_;rintro _ _ ⟨_,⟨q4,c4,q5,c5,rfl,rfl⟩,rfl⟩;refine Da ?_;(repeat' (first|refine Wa ?_|refine aF ?_|(refine Wb ?_;intro b)|fail));refine aT (bI (v:= .slice q1 B0.length c1) (e:=175) (m:=B0.length) (f:=xJ) (ys:=BF) aN (fun _=>rfl) hszs.symm) ?_;subst hfl0;rw[←hszs];(refine aC (σ:=CSt) (fun x=>(x.ci≤gs.length∧x.csr=s+(x.ci:Int))∧x.cps++gO x.csr (F.drop x.ci) (gs.drop x.ci)=wl++W∧x.cop++GY (gO x.csr (F.drop x.ci) (gs.drop x.ci))=L++GY W∧x.cop.length=L.length+x.ci) (fun x=>[(93, .int .i64 (x.ci:Int)),(7, .slice x.cB (gs.drop x.ci).flatten.length x.cBc)]) (fun x=>[box bs [.slice x.ca' cs.length x.cca, .slice x.cw' x.cps.length x.ccw, .slice q4 M.1.length c4, .slice q5 M.2.length c5, .int .i64 x.csr,t, .slice qf F.length cf, .slice x.cq x.cop.length x.cqc] 136,sl 1 (.slice x.ca' cs.length x.cca) (cs.map fS),sl 2 (.slice x.cw' x.cps.length x.ccw) (x.cps.map fP),own (.slice x.cq x.cop.length x.cqc) 87 3 x.cop.length (flat WC x.cop),sl 4 (.slice x.cB (gs.drop x.ci).flatten.length x.cBc) ((gs.drop x.ci).flatten.map xJ)]) _ (fun x=>gs.length-x.ci) ((⟨0,s,wl,L,a,ca,w,cw,qo,co,q1,c1⟩)) (by exact⟨⟨fg _,(Int.add_zero s).symm⟩,by dsimp only;rw[hW0],by dsimp only;rw[hW0],rfl⟩) (by exact gA) Zb (fun⟨i,sr,pi,oi,ai,cai,wi,cwi,qi,cqi,Bi,cBi⟩ ⟨⟨hi,hsr⟩,hpi,hoi,hol⟩=> ?_);refine Da ?_);dsimp only at hi hsr hpi hoi hol ⊢;rcases iJ gs i with⟨g,hg,hlt⟩|hge
  ·have hnsi:=hlens hg;obtain⟨c,hc⟩: ∃ c,F[i]? =some c:=⟨_,aj (by omega)⟩;rw[aoX hc hg] at hpi hoi;rw[aoZ hg];have hwe:=(hfit g (jm hg)).2;have hg0:0<g.length:=List.length_pos_iff.2 (hfit g (jm hg)).1;have hg40:=(mS hwe).1;have BW: ∀ q c' last,Ct Tryz.prog 203 [.slice q g.length c', .bool last] [sl 4 (.slice q g.length c') (g.map xJ)] fun v H'=>v= .tuple #[.string (str (aR g last)), .int .i64 0]∧H'=[]:=fun q c' last=>by
    have:=fV.jR q c' g last Zh;unfold eE at this;rw[if_pos hwe,hwe] at this;exact this
   have SEALC: ∀ (n:Int) (y:List UInt8),0≤n∧n≤2147483647→y.length≤1000→Ct Tryz.prog 193 [.int .i64 1, .int .i64 n, .string (str y)] [] fun v H'=>v= .tuple #[.string (str (jX.dH 1 n y)), .int .i64 0]∧H'=[]:=fun n y hn hy=>by
    have he:=jX.KG (k:=1) (n:=n) (m:=y.length) ⟨.inl rfl,hn.1,hn.2,hy⟩;have:=jX.YF 1 n y;rw[jX.YI he,he] at this;exact this
   have hfr:(g++(gs.drop (i+1)).flatten).take g.length=g:=List.take_left;have hlGR:(g++(gs.drop (i+1)).flatten).length=g.length+(gs.drop (i+1)).flatten.length:=ag;have hdr:(g++(gs.drop (i+1)).flatten).drop g.length=(gs.drop (i+1)).flatten:=List.drop_left;unfold NV at hpi hoi;clear AF hlens FI SP BL;by_cases hlast:i+1=gs.length
   ·have hem:(gs.drop (i+1)).isEmpty=true:=by rw[hlast,o8];rfl
    rw[hem] at hpi hoi;have hwl:=(jH true hwe).1;have S0:=SEALC (sr+1) (aR g true) (by omega) hwl;have B0': ∀ q c',Ct Tryz.prog 203 [.slice q g.length c', .bool true] [sl 4 (.slice q g.length c') (((g++(gs.drop (i+1)).flatten).take g.length).map xJ)] fun v H'=>v= .tuple #[.string (str (aR g true)), .int .i64 0]∧H'=[]:=fun q c'=>by rw[hfr];exact BW q c' true
    clear BW SEALC;have hgw:aX.Good cs (pi++(c,str (jX.dH 1 (sr+1) (aR g true)))::gO (sr+1) (F.drop (i+1)) (gs.drop (i+1))):=by rw[hpi];exact hgd
    have D1:=NQ bs ⟨ai,cai,cs,wi,cwi,pi,q4,c4,M.1,q5,c5,M.2⟩ (.int .i64 (sr+1)) t (.slice qf F.length cf) oi qi cqi c (str (jX.dH 1 (sr+1) (aR g true))) (by have:=hgw.n1;dsimp only;omega) (by have:=hgw.wait;rw[ag] at this;dsimp only;omega) (by omega) (OE hgw);unfold BH bE bB at D1;dsimp only[jg,fe] at D1;clear hgw hwl;generalize str (jX.dH 1 (sr+1) (aR g true))=T at*;generalize aR g true=WB at*;refine dN ?_;refine gK 12 rfl wt rfl (vG (m:=g.length) rfl rfl rfl aN rfl Zi) ?_;refine eU ?_;(refine Ca (B0' _ _) ?_;rintro _ _ ⟨_,⟨rfl,rfl⟩,rfl⟩;refine Da ?_);(repeat' (first|refine Wa ?_|refine aF ?_|refine Wc (S0 ..) ?_|fail));refine Cb (D1) ?_;rintro _ _ ⟨_,⟨a1,ca1,w1,cw1,q6,c6,rfl,rfl⟩,rfl⟩;refine Da ?_;refine eU ?_;refine gK 12 rfl wt rfl (qQ (i:=g.length) rfl rfl rfl rfl (by omega)) ?_;refine aS (zT (q:=Bi) (c:=cBi) (xs:=g++(gs.drop (i+1)).flatten) (i:=g.length) aN rfl (by omega)) ?_;rw[hdr,show (g++(gs.drop (i+1)).flatten).length-g.length=(gs.drop (i+1)).flatten.length from by omega];refine eU ?_;refine Ee ((⟨i+1,sr+1,pi++[(c,T)],oi++[(1,c,T)],a1,ca1,w1,cw1,q6,c6,DF Bi g.length cBi 4,cBi-g.length⟩:CSt)) ?_ ?_
    ·refine⟨⟨hlt,by dsimp only;omega⟩,by dsimp only;rw[←hpi];exact po .. |>.symm,by dsimp only;rw[←hoi];exact po .. |>.symm,by dsimp only;rw[ag,hol];rfl⟩
    ·dsimp only;omega
   ·have hem:(gs.drop (i+1)).isEmpty=false:=by
     rw[List.isEmpty_eq_false_iff];intro e;have:=congrArg ni e;rw[eu,List.length_nil] at this;omega
    rw[hem] at hpi hoi;have hwl:=(jH false hwe).1;have S0:=SEALC (sr+1) (aR g false) (by omega) hwl;have B0': ∀ q c',Ct Tryz.prog 203 [.slice q g.length c', .bool false] [sl 4 (.slice q g.length c') (((g++(gs.drop (i+1)).flatten).take g.length).map xJ)] fun v H'=>v= .tuple #[.string (str (aR g false)), .int .i64 0]∧H'=[]:=fun q c'=>by rw[hfr];exact BW q c' false
    clear BW SEALC;have hgw:aX.Good cs (pi++(c,str (jX.dH 1 (sr+1) (aR g false)))::gO (sr+1) (F.drop (i+1)) (gs.drop (i+1))):=by rw[hpi];exact hgd
    have D1:=NQ bs ⟨ai,cai,cs,wi,cwi,pi,q4,c4,M.1,q5,c5,M.2⟩ (.int .i64 (sr+1)) t (.slice qf F.length cf) oi qi cqi c (str (jX.dH 1 (sr+1) (aR g false))) (by have:=hgw.n1;dsimp only;omega) (by have:=hgw.wait;rw[ag] at this;dsimp only;omega) (by omega) (OE hgw);unfold BH bE bB at D1;dsimp only[jg,fe] at D1;clear hgw hwl;generalize str (jX.dH 1 (sr+1) (aR g false))=T at*;generalize aR g false=WB at*;refine dN ?_;refine gK 12 rfl wt rfl (vG (m:=g.length) rfl rfl rfl aN rfl Zi) ?_;refine eU ?_;(refine Ca (B0' _ _) ?_;rintro _ _ ⟨_,⟨rfl,rfl⟩,rfl⟩;refine Da ?_);(repeat' (first|refine Wa ?_|refine aF ?_|refine Wc (S0 ..) ?_|fail));refine Cb (D1) ?_;rintro _ _ ⟨_,⟨a1,ca1,w1,cw1,q6,c6,rfl,rfl⟩,rfl⟩;refine Da ?_;refine eU ?_;refine gK 12 rfl wt rfl (qQ (i:=g.length) rfl rfl rfl rfl (by omega)) ?_;refine aS (zT (q:=Bi) (c:=cBi) (xs:=g++(gs.drop (i+1)).flatten) (i:=g.length) aN rfl (by omega)) ?_;rw[hdr,show (g++(gs.drop (i+1)).flatten).length-g.length=(gs.drop (i+1)).flatten.length from by omega];refine eU ?_;refine Ee ((⟨i+1,sr+1,pi++[(c,T)],oi++[(1,c,T)],a1,ca1,w1,cw1,q6,c6,DF Bi g.length cBi 4,cBi-g.length⟩:CSt)) ?_ ?_
    ·refine⟨⟨hlt,by dsimp only;omega⟩,by dsimp only;rw[←hpi];exact po .. |>.symm,by dsimp only;rw[←hoi];exact po .. |>.symm,by dsimp only;rw[ag,hol];rfl⟩
    ·dsimp only;omega
  ·obtain rfl:i=gs.length:=by omega
   rw[awK] at hpi hoi;rw[jc] at hpi;rw[show GY []=[] from rfl,jc] at hoi;subst hpi hoi hsr;refine dN ?_;refine gK 12 rfl wt rfl (qQ (i:=gs.length) rfl rfl rfl (by rw[hnl]) (by omega)) ?_;refine aS (zT (q:=qf) (c:=cf) (xs:=F) (i:=gs.length) aN rfl (by omega)) ?_;refine dN ?_;have hAF:=AF ⟨ai,cai,cs,wi,cwi,wl++W,q4,c4,M.1,q5,c5,M.2⟩ rfl rfl rfl rfl;exact Ea (x:=⟨_,_,_,_,_,hAF,rfl,rfl⟩)
end Go.Proofs.YtbjalbcdbgcgdaaGreat.fs
