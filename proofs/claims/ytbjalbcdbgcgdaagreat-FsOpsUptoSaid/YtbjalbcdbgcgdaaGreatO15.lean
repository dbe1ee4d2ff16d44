/- FsOps, packed. -/
import Derived.Test.YtbjalbcdbgcgdaaGreatOQ
import Derived.Test.YtbjalbcdbgcgdaaGreatO13
import Derived.Test.YtbjalbcdbgcgdaaGreatO14
import Derived.Test.YtbjalbcdbgcgdaaGreatO11
import Derived.Test.YtbjalbcdbgcgdaaGreatO00
open Go.Proofs.Tryz renaming prog->lk
open List renaming append_assoc->fu,append_cons->aex,append_nil->ke,cons_append->dw,drop_eq_getElem_cons->bh,drop_length->abc,flatten_cons->aey,getElem?_append_left->lu,getElem?_append_right->gz,getElem?_cons_succ->afd,getElem?_eq_getElem->ak,getElem?_eq_none->je,getElem?_eq_some_iff->aj,getElem?_set_ne->afg,getElem?_set_self->afj,getElem?_set_self'->afi,getElem_mem->na,getElem_of_mem->afa,length->adu,length_append->ae,length_cons->dv,length_drop->bq,length_map->gp,length_nil->gr,length_pos_iff->mf,length_range->abx,length_set->n5,map_append->ads,map_cons->gd,map_nil->gu,mem_append->ei,mem_cons->al,mem_cons_of_mem->a8,mem_cons_self->bu,mem_filter->iw,mem_map->fa,mem_of_getElem?->jg,mem_of_mem_drop->ln,mem_of_mem_take->ll,mem_range->ace,mem_singleton->eh,nil_append->dz,nodup_append->afl,nodup_cons->afe,nodup_nil->afh,nodup_range->afm,not_mem_nil->ck,pairwise_map->aff,range->mn,range_succ->aec,sum_cons->afk,take_add_one->ib,take_append_drop->gl,take_length->mz,take_succ_cons->aas
open Nat renaming add_zero->fl,le_refl->df,le_trans->gm,lt_or_ge->ig,zero_add->dj,zero_le->fe
open Int renaming toNat_natCast->dc
open Option renaming bind->afo,map_eq_some_iff->dh
open Decidable renaming not_not->aab
open ByteArray renaming size->kh
open Classical renaming em->afn
set_option linter.unusedVariables false
set_option maxRecDepth 100000
set_option maxHeartbeats 8000000
namespace Go.Proofs.YtbjalbcdbgcgdaaGreat
open Go.RowKit bA bO sl
namespace fs
open use cK dZ cO fix file
def Live (d:FD) (c:Int):Prop:= ∃ n p g l,d.at'[n]? =some p∧d.aA[n]? =some g∧p.1≠0∧nY d.cs d.ps p g ((n:Nat):Int)=some l∧(p.1=c∨ ∃ q∈pI l,q.1=c)
structure Room (d:FD) (F:List Int):Prop where
 nodup:F.Nodup
 inn: ∀ c∈F,2≤c∧c<(d.cs.length:Int)
 dead: ∀ c∈F, ¬ Live d c
 wait:d.ps.length+F.length≤400
structure UZ (d:FD) (x:kQ) (n:Nat) (y:Nd):Prop where
 ino:x.ino=(n:Int)
 lt:n<48
 gen:d.aA[n]? =some x.g
 ek:x.k=y.kind
 eg:x.g=y.gen
 ez:x.z=(y.size:Int)
 kind:y.kind=1∨y.kind=2
 size:y.size≤4096
 len:x.parts.length=aQ y.size
 aRU:y.parts.length=aQ y.size
 parts: ∀ i p t,x.parts[i]? =some p→y.parts[i]? =some t→(p.fresh=true∧t.length=cX y.size i∧mI.tL t p.text)∨(p.fresh=false∧KX d n y.size i p.pl t∧gT p.pl∧(p.pl.1=0∨Live d p.pl.1))
structure oP (d:FD) (tab:cT) (l:List kQ) (tab':cT):Prop where
 one:(l.map (·.ino)).Nodup
 gone: ∀ x∈l,x.gone=true→ ∃ n y,x.ino=((n:Nat):Int)∧tab n=some y∧y.gen<2147483647∧tab' n=none
 new: ∀ x∈l,x.gone=false→ ∃ n y,UZ d x n y∧tab' n=some y
 rest: ∀ n,(∀ x∈l,x.ino≠((n:Nat):Int))→tab' n=tab n
theorem PN {P:List (Int×Int)}: ∀ {t:List tF} {a i:Nat} {q:Int×Int},(nZ P a t)[i]? =some q→ ∃ p,t[i]? =some p∧(p.fresh=true∧q=P[a+pY (t.take i)]?.getD (0,0)∨p.fresh=false∧q=p.pl)
 |[],a,i,q,h=>by simp [nZ] at h
 |p::t,a,0,q,h=>by
  refine⟨p,rfl, ?_⟩;rw[nZ] at h;cases hf:p.fresh with
  |true=>rw[Jg hf] at h;exact .inl ⟨rfl,by simpa [pY] using h.symm⟩
  |false=>rw[Jf ZV] at h;exact .inr ⟨rfl,by simpa using h.symm⟩
 |p::t,a,i+1,q,h=>by
  rw[nZ] at h;cases hf:p.fresh with
  |true=>
   rw[Jg hf,afd] at h;obtain⟨p',h1,h2⟩:=PN h;refine⟨p',by simpa using h1, ?_⟩;rw[aas,pY,Jg hf,show a+(pY (t.take i)+1)=a+1+pY (t.take i) from by omega];exact h2
  |false=>
   rw[Jf ZV,afd] at h;obtain⟨p',h1,h2⟩:=PN h;refine⟨p',by simpa using h1, ?_⟩;rw[aas,pY,Jf ZV];exact h2
theorem KZ {n:Int}: ∀ {t:List tF} {i k:Nat} {p:tF},t[i]? =some p→p.fresh=true→(cV n t k)[pY (t.take i)]? =some (1,n,((k+i:Nat):Int),p.text)
 |[],i,k,p,h,_=>by simp at h
 |x::t,0,k,p,h,hf=>by
  cases h;rw[cV,Jg hf];rfl
 |x::t,i+1,k,p,h,hf=>by
  have ih:=KZ (n:=n) (k:=k+1) (show t[i]? =some p from by simpa using h) hf;rw[aas,pY,cV];split
  ·rw[afd,ih,show k+1+i=k+(i+1) from by omega]
  ·rw[ih,show k+1+i=k+(i+1) from by omega]
theorem aRV {t:List tF} {i:Nat} {p:tF} (h:t[i]? =some p) (hf:p.fresh=true):pY (t.take i)<pY t:=by
 have:=KZ (n:=0) (k:=0) h hf;have h2:=(aj.1 this).1;rwa [lQ] at h2
structure AtB (P:List (Int×Int)) (a:Nat) (l:List kQ) (m:tH) (x:kQ) (a':Nat):Prop where
 dZ: ∀ j b,(uH P a' x)[j]? =some b→ ∃ i,a+i=a'+j∧(jE P a l)[i]? =some b
 at':(iR P a m l).1[x.ino.toNat]? =(iF P a' m x).1[x.ino.toNat]?
 gen:(iR P a m l).2[x.ino.toNat]? =(iF P a' m x).2[x.ino.toNat]?
theorem LA {P:List (Int×Int)} {a:Nat} {m:tH} {x:kQ} {n:Nat} (h:x.ino.toNat≠n):(iF P a m x).1[n]? =m.1[n]? ∧(iF P a m x).2[n]? =m.2[n]? :=by
 unfold iF;split
 ·exact⟨afg h,afg h⟩
 ·exact⟨afg h,rfl⟩
theorem qY {P:List (Int×Int)} {n:Nat}: ∀ (l:List kQ) (a:Nat) (m:tH),(∀ x∈l,x.ino.toNat≠n)→(iR P a m l).1[n]? =m.1[n]? ∧(iR P a m l).2[n]? =m.2[n]?
 |[],_,_,_=>⟨rfl,rfl⟩
 |x::l,a,m,h=>by
  obtain⟨h1,h2⟩:=qY l (a+(kD x).length) (iF P a m x) fun y hy=>h y (a8 _ hy)
  obtain⟨h3,h4⟩:=LA (P:=P) (a:=a) (m:=m) (h x bu);exact⟨h1.trans h3,h2.trans h4⟩
theorem VA {α:Type} {l m:List α} {n:Nat} {x:α} (hl:l.length=m.length):(l.set n x)[n]? =(m.set n x)[n]? :=by
 rw[afi,afi];rcases ig n l.length with h|h
 ·rw[ak h,ak Z8];rfl
 ·rw[je h,je Z8]
theorem axZ (P:List (Int×Int)) (a:Nat) (m:tH) (x:kQ):(iF P a m x).1.length=m.1.length∧(iF P a m x).2.length=m.2.length:=by
 unfold iF;split
 ·exact⟨n5,n5⟩
 ·exact⟨n5,rfl⟩
theorem aoP {P:List (Int×Int)} {a:Nat} {m m':tH} {x:kQ} (h1:m.1.length=m'.1.length) (h2:m.2.length=m'.2.length) (h3:m.2[x.ino.toNat]? =m'.2[x.ino.toNat]?):(iF P a m x).1[x.ino.toNat]? =(iF P a m' x).1[x.ino.toNat]? ∧(iF P a m x).2[x.ino.toNat]? =(iF P a m' x).2[x.ino.toNat]? :=by
 unfold iF;rw[h3];split
 ·exact⟨VA h1,VA h2⟩
 ·exact⟨VA h1,h3⟩
theorem aeE {P:List (Int×Int)} {x:kQ}: ∀ (l:List kQ) (a:Nat) (m:tH),(∀ y∈l,0≤y.ino)→(l.map (·.ino)).Nodup→x∈l→ ∃ a',AtB P a l m x a'
 |[],_,_,_,_,h=>absurd h ck
 |y::l,a,m,h0,hd,h=>by
  rw[gd,afe] at hd;by_cases he:x=y
  ·subst he;refine⟨a,fun j b hb=>⟨j,rfl, ?_⟩, ?_, ?_⟩
   ·rw[jE,lu (aj.1 hb).1];exact hb
   ·exact (qY l _ _ fun z hz e=>hd.1 (fa.2 ⟨z,hz,by have:=h0 z (a8 _ hz);have:=h0 x bu;omega⟩)).1
   ·exact (qY l _ _ fun z hz e=>hd.1 (fa.2 ⟨z,hz,by have:=h0 z (a8 _ hz);have:=h0 x bu;omega⟩)).2
  ·have hx:x∈l:=by rcases al.1 h with h|h;exact absurd h he;exact h
   have zy:y.ino.toNat≠x.ino.toNat:=fun e=>hd.1 (fa.2 ⟨x,hx,by have:=h0 x h;have:=h0 y bu;omega⟩)
   obtain⟨a',h1,h2,h3⟩:=aeE l (a+(kD y).length) (iF P a m y) (fun z hz=>h0 z (a8 _ hz)) hd.2 hx;obtain⟨s1,s2⟩:=axZ P a m y;obtain⟨o1,o2⟩:=LA (P:=P) (a:=a) (m:=m) zy;obtain⟨t1,t2⟩:=aoP (P:=P) (a:=a') (x:=x) s1 s2 o2;refine⟨a',fun j b hb=> ?_, ?_, ?_⟩
   ·obtain⟨i,hi,zx⟩:=h1 j b hb;refine⟨(kD y).length+i,Z8, ?_⟩;rw[jE,gz (by rw[KF];omega),KF,show (kD y).length+i-(kD y).length=i from by omega];exact zx
   ·exact h2.trans t1
   ·exact h3.trans t2
theorem ayA {P:List (Int×Int)} {a:Nat} {x:kQ} (h:x.gone=false):(uH P a x)[pY x.parts]? =some (2,x.ino,0,iU x.k x.g x.z (nZ P a x.parts)):=by
 unfold uH;rw[Jf Z5,gz (by rw[lQ];exact df _),lQ,Nat.sub_self];rfl
theorem aoQ {P:List (Int×Int)} {a i:Nat} {x:kQ} {p:tF} (h:x.gone=false) (hp:x.parts[i]? =some p) (hf:p.fresh=true):(uH P a x)[pY (x.parts.take i)]? =some (1,x.ino,(i:Int),p.text):=by
 unfold uH;have:=KZ (n:=x.ino) (k:=0) hp hf;rw[dj] at this;rw[Jf Z5,lu (aj.1 this).1];exact this
end fs
namespace fs
open use cK dZ cO fix file
def aPO (m:tH) (x:kQ):Prop:=
 ∃ i:Nat,x.ino=(i:Int)∧i<48∧(x.gone=true→ ∃ p0 g0,m.1[i]? =some p0∧m.2[i]? =some g0∧p0.1≠0∧g0<2147483647)∧
  (x.gone=false→ ∃ z:Nat,x.z=(z:Int)∧z≤4096∧(x.k=1∨x.k=2)∧(0≤x.g∧x.g≤2147483647)∧x.parts.length=aQ z∧ ∀ p∈x.parts,p.fresh=false→gT p.pl)
theorem ayB {P:List (Int×Int)} (hP: ∀ p∈P,gT p∧p.1≠0) {a:Nat} {t:List tF} (ha:a+pY t≤P.length) (ht: ∀ p∈t,p.fresh=false→gT p.pl): ∀ q∈nZ P a t,gT q:=fun q hq=>by
 obtain⟨i,hi,rfl⟩:=afa hq;obtain⟨p,hp,h|h⟩:=PN (ak hi)
 ·rw[h.2];have:=aRV hp h.1;rw[ak Z8];exact (hP _ (na _)).1
 ·rw[h.2];exact ht p (jg hp) h.1
theorem aGK {P:List (Int×Int)} (hP: ∀ p∈P,gT p∧p.1≠0) {a z:Nat} {x:kQ} (ha:a+pY x.parts≤P.length) (hz:z≤4096) (hk:x.k=1∨x.k=2) (hg:0≤x.g∧x.g≤2147483647) (hl:x.parts.length=aQ z) (ht: ∀ p∈x.parts,p.fresh=false→gT p.pl):aDJ x.k x.g z (nZ P a x.parts):=
 ⟨hk,hg,hz,by rw[pH];exact hl,ayB hP ha ht⟩
theorem abM {P:List (Int×Int)} (hP: ∀ p∈P,gT p∧p.1≠0): ∀ (l:List kQ) (a:Nat) (m:tH),a+(aW l).length≤P.length→(l.map (·.ino)).Nodup→(∀ x∈l,aPO m x)→rN P a m l
 |[],_,_,_,_,_=>trivial
 |x::l,a,m,ha,hd,hx=>by
  rw[gd,afe] at hd;rw[show aW (x::l)=kD x++aW l from rfl,ae] at ha;obtain⟨i,hi,hlt,hg,hn⟩:=hx x bu;refine⟨⟨i,hi,hlt,hg,fun h=> ?_⟩,abM hP l _ _ Z8 hd.2 fun y hy=> ?_⟩
  ·obtain⟨z,ez,hz,hk,zy,hl,ht⟩:=hn h;have hc:=nB x;rw[Jf Z5] at hc;have hw:=aGK hP (a:=a) (x:=x) (z:=z) Z8 hz hk zy hl ht;have zx:a+pY x.parts<P.length:=Z8
   refine⟨Z8,zy,Z8,by unfold aQ at hl;omega,zx,hw.aUD,by rw[ez];exact NA hw,P[a+pY x.parts],ak zx,hP _ (na _)⟩
  ·obtain⟨j,hj,zw,zv,zu⟩:=hx y (a8 _ hy);have zt:x.ino.toNat≠j:=fun e=>hd.1 (fa.2 ⟨y,hy,Z8⟩)
   obtain⟨o1,o2⟩:=LA (P:=P) (a:=a) (m:=m) zt;refine⟨j,hj,zw,fun h=> ?_,zu⟩;obtain⟨p0,g0,h1,h2,h3⟩:=zv h;exact⟨p0,g0,o1.trans h1,o2.trans h2,h3⟩
theorem abN {cs:Cells} {gs:List (List bU)} {F:List Int} (hl:gs.length≤F.length) (hd:F.Nodup) (hc: ∀ c∈F,2≤c∧c<(cs.length:Int)) (hn:cs.length≤128) (hg: ∀ g∈gs,amQ g): ∀ p∈eR F gs,gT p∧p.1≠0:=fun p hp=>by
 induction gs generalizing F with
 |nil=>cases F<;>simp [eR] at hp
 |cons g gs ih=>
  cases F with
  |nil=>simp at hl
  |cons c F=>
   rw[eR,ei] at hp;rcases hp with hp|hp
   ·obtain⟨k,hk,rfl⟩:=fa.1 hp;have hk2:=ace.1 hk;have h1:=hc c bu;have h2:=(mZ (hg g bu).2).1;unfold gT;dsimp only;omega
   ·exact ih ZO (afe.1 hd).2 (fun x hx=>hc x (a8 _ hx)) (fun x hx=>hg x (a8 _ hx)) hp
structure sZ (d d':FD) (F:List Int) (s:Int) (l:List kQ) (gs:List (List bU)):Prop where
 cs:d'.cs=d.cs
 ps:d'.ps=d.ps++iO s F gs
 at':d'.at'=(iR (eR F gs) 0 (d.at',d.aA) l).1
 aA:d'.aA=(iR (eR F gs) 0 (d.at',d.aA) l).2
structure sB (d:FD) (F:List Int) (s:Int) (l:List kQ) (gs:List (List bU)):Prop where
 split:aV (aW l)=(gs.map (fun g=>(g.length:Int)),0)
 flat:gs.flatten=jE (eR F gs) 0 l
 fit: ∀ g∈gs,amQ g
 room:gs.length≤F.length
 s0:0≤s
 s1:s+gs.length≤2147483647
theorem PO {d:FD} {tab:cT} (hL:Lie d tab) {n:Nat} {y:Nd} (hy:tab n=some y): ∃ l p g,eN d n y l∧d.at'[n]? =some p∧d.aA[n]? =some g∧p.1≠0∧nY d.cs d.ps p g (n:Int)=some l∧g=y.gen∧Live d p.1∧ ∀ q∈pI l,Live d q.1:=by
 obtain⟨l,hl⟩:=hL.some n y hy;obtain⟨p,g,h1,h2,h3,h4⟩:=hl.told.ex;have hg:=(mF h4).2.2.2.2.1;exact⟨l,p,g,hl,h1,h2,h3,h4,by rw[←hg,hl.gen],⟨n,p,g,l,h1,h2,h3,h4, .inl rfl⟩,fun q hq=>⟨n,p,g,l,h1,h2,h3,h4, .inr ⟨q,hq,rfl⟩⟩⟩
theorem aeF {d:FD} {tab tab':cT} {l:List kQ} (hL:Lie d tab) (hC:oP d tab l tab'): ∀ x∈l,aPO (d.at',d.aA) x:=fun x hx=>by
 cases hg:x.gone with
 |true=>
  obtain⟨n,y,hi,hy,hb,_⟩:=hC.gone x hx hg;obtain⟨l0,p,g,h1,h2,h3,h4,_,h5,_⟩:=PO hL hy;exact⟨n,hi,aeD hL hy,fun _=>⟨p,g,h2,h3,h4,by rw[h5];exact hb⟩,fun h=>by simp [hg] at h⟩
 |false=>
  obtain⟨n,y,h,_⟩:=hC.new x hx hg;have h1:=h.len;have h2:=h.aRU;have zy:0≤x.g∧x.g≤2147483647:=by
   have hm:=hL.map;obtain⟨p,hp⟩: ∃ p,d.at'[n]? =some p:=⟨_,ak (by have:=hm.1;have:=h.lt;omega)⟩;exact (hm.2.2 n h.lt p x.g hp h.gen).2
  refine⟨n,h.ino,h.lt,fun e=>by simp [hg] at e,fun _=>⟨y.size,h.ez,h.size,by rw[h.ek];exact h.kind,zy,h1,fun p hp hf=> ?_⟩⟩;obtain⟨i,hi,rfl⟩:=afa hp;rcases h.parts i _ y.parts[i] (ak hi) (ak Z8) with⟨h3,_⟩|⟨_,_,h3,_⟩
  ·rw[hf] at h3;cases h3
  ·exact h3
section
variable {d d':FD} {tab tab':cT} {F:List Int} {s:Int} {l:List kQ} {gs:List (List bU)}
theorem abO (hA:sZ d d' F s l gs) (hR:Room d F) {n z k:Nat} {p:Int×Int} {t:List UInt8} (h:KX d n z k p t) (hl:p.1=0∨Live d p.1):KX d' n z k p t:=by
 rcases h with h|⟨h0,h1,u,h2,h3⟩
 ·exact .inl h
 ·have hL:=hl.resolve_left h0;refine .inr ⟨h0,h1,u, ?_,h3⟩;have e:bV d'.cs d'.ps p=bV d.cs d.ps p:=by
   rw[hA.cs,hA.ps];exact vT fun e=>hR.dead _ (ll e) hL
  unfold iW at h2 ⊢;rw[e];exact h2
theorem ajZ (hA:sZ d d' F s l gs) (hR:Room d F) {n:Nat} {p:Int×Int} {g:Int} (hl:Live d p.1):nY d'.cs d'.ps p g (n:Int)=nY d.cs d.ps p g (n:Int):=by
 have e:bV d'.cs d'.ps p=bV d.cs d.ps p:=by
  rw[hA.cs,hA.ps];exact vT fun e=>hR.dead _ (ll e) hl
 unfold nY;rw[e]
theorem aMU (hA:sZ d d' F s l gs) (hR:Room d F) (zx:bA.Good d'.cs d'.ps) (zw:eT d'.at' d'.aA) {n:Nat} {y:Nd} {t:List UInt8} (h:eN d n y t) (hn: ∀ x∈l,x.ino≠(n:Int)) (h0: ∀ x∈l,0≤x.ino):eN d' n y t:=by
 obtain⟨p,g,h1,h2,h3,h4⟩:=h.told.ex;obtain⟨o1,o2⟩:=qY (P:=eR F gs) (n:=n) l 0 (d.at',d.aA) fun x hx e=>hn x hx (by have:=h0 x hx;omega)
 have zy:Live d p.1:=⟨n,p,g,t,h1,h2,h3,h4, .inl rfl⟩;refine⟨⟨zx,zw,h.told.lt,p,g,by rw[hA.at',o1];exact h1,by rw[hA.aA,o2];exact h2,h3,by rw[ajZ hA hR zy];exact h4⟩,h.kind,h.gen,h.size,h.small,h.data.1,h.data.2.1,fun k q u hq hu=> ?_⟩;exact abO hA hR (h.data.2.2 k q u hq hu) (.inr ⟨n,p,g,t,h1,h2,h3,h4, .inr ⟨q,jg hq,rfl⟩⟩)
theorem wK (hA:sZ d d' F s l gs) (hR:Room d F) (hG:sB d F s l gs) (hg:bA.Good d.cs d.ps):bA.Good d'.cs d'.ps:=by
 rw[hA.cs,hA.ps];refine⟨hg.n0,hg.n1,hg.cells,fun p hp=> ?_,by rw[ae,uI _ _ _ hG.room];have:=hR.wait;have:=hG.room;omega⟩;rcases ei.1 hp with hp|hp
 ·exact hg.agT p hp
 ·have zy:=PD _ _ _ p hp;have hc:=hR.inn _ (ll zy);refine xL.2 ⟨Z8,hc.2, ?_⟩;have hsz: ∀ (gs:List (List bU)) (F:List Int) (s:Int),(∀ g∈gs,amQ g)→p∈iO s F gs→p.2.size≤1024:=by
   intro gs;induction gs with
   |nil=>intro F s _ h;cases F<;>simp [iO] at h
   |cons g gs ih=>intro F s hf h;cases F with
    |nil=>simp [iO] at h
    |cons c F=>
     rw[iO,al] at h;rcases h with rfl|h
     ·have hw:=(lJ (l:=g) gs.isEmpty (hf g bu).2).1;show (str (lH.dY 1 (s+1) (bE g gs.isEmpty))).size≤1024;rw[show (str (lH.dY 1 (s+1) (bE g gs.isEmpty))).size=(lH.dY 1 (s+1) (bE g gs.isEmpty)).length from by simp [kh],lH.JN];omega
     ·exact ih F _ (fun x hx=>hf x (a8 _ hx)) h
  exact hsz gs F s hG.fit hp
theorem asN (hA:sZ d d' F s l gs) (hR:Room d F) (hG:sB d F s l gs) {i:Nat} {b:bU} (hb:(jE (eR F gs) 0 l)[i]? =some b): ∃ p,(eR F gs)[i]? =some p∧bV d'.cs d'.ps p=(b,0)∧p.1∈F.take gs.length∧p.1≠0:=by
 have hlen:=FU gs F hG.room;rw[hG.flat] at hlen;have hi:=(aj.1 hb).1;obtain⟨p,hp⟩: ∃ p,(eR F gs)[i]? =some p:=⟨_,ak Z8⟩;obtain⟨b',h1,h2,h3,_⟩:=MZ (cs:=d.cs) gs F s d.ps hG.room hR.nodup hR.inn (fun g hg=>(hG.fit g hg).2) hG.s0 hG.s1 i p hp;rw[hG.flat,hb] at h1;cases h1;have:=hR.inn _ (ll h3);exact⟨p,hp,by rw[hA.cs,hA.ps];exact h2,h3,Z8⟩
theorem wC (hL:Lie d tab) (hR:Room d F) (hC:oP d tab l tab') (hG:sB d F s l gs):rN (eR F gs) 0 (d.at',d.aA) l:=by
 have hlen:=FU gs F hG.room;rw[hG.flat] at hlen;have h2:(jE (eR F gs) 0 l).length=(aW l).length:=by
  have:=congrArg adu (rO (eR F gs) l 0);simpa [szs] using this
 exact abM (abN hG.room hR.nodup hR.inn hL.mM.n1 hG.fit) l 0 _ Z8 hC.one (aeF hL hC)
structure aPP (d':FD) (F:List Int) (gs:List (List bU)) (d:FD) (n:Nat) (y:Nd) (p:Int×Int) (t:List UInt8):Prop where
 pM:eN d' n y t
 pl:d'.at'[n]? =some p
 here:p.1∈F.take gs.length
 parts: ∀ q∈pI t,q.1∈F.take gs.length∨q.1=0∨Live d q.1
theorem aRW (hA:sZ d d' F s l gs) (hL:Lie d tab) (hR:Room d F) (hC:oP d tab l tab') (hG:sB d F s l gs) (zf:bA.Good d'.cs d'.ps) (ze:eT d'.at' d'.aA) {x:kQ} {n:Nat} {y:Nd} (hx:x∈l) (hn:x.gone=false) (h:UZ d x n y): ∃ p t,aPP d' F gs d n y p t:=by
 have zr: ∀ z∈l,0≤z.ino:=fun z hz=>by obtain⟨i,hi,_⟩:=aeF hL hC z hz;omega
 have hFO:=wC hL hR hC hG;obtain⟨a',hB,zq,zn⟩:=aeE (P:=eR F gs) l 0 (d.at',d.aA) zr hC.one hx;have zx:x.ino.toNat=n:=by rw[h.ino];rfl
 rw[zx] at zq zn;obtain⟨i0,e0,zb⟩:=hB _ _ (ayA (P:=eR F gs) (a:=a') hn);rw[dj] at e0;subst e0;obtain⟨p,hp,zw,za,z8⟩:=asN hA hR hG zb;have z7:=abN hG.room hR.nodup hR.inn hL.mM.n1 hG.fit;have hpl:=(aj.1 hp).1;obtain⟨i1,f1,f2,_,f3⟩:=aeF hL hC x hx;obtain⟨z,ez,hz,hk,zm,hlen,yz⟩:=f3 hn;have yx:z=y.size:=by have:=h.ez;omega
 subst yx;have hw:=aGK z7 (a:=a') (x:=x) (z:=y.size) Z8 hz hk zm hlen yz;obtain⟨w1,w2,w3,w4,w5⟩:=amT hw;rw[←ez] at w1 w2 w3 w4 w5;have hm48:=hL.map.1;have hm48':=hL.map.2.1;have zv:iF (eR F gs) a' (d.at',d.aA) x=(d.at'.set n p,d.aA):=by
  unfold iF;rw[Jf (by simp [hn]),zx,hp];rfl
 rw[zv] at zq zn;have zu:d'.at'[n]? =some p:=by
  rw[hA.at',zq];exact afj (by have:=h.lt;omega)
 have zl:d'.aA[n]? =some x.g:=by rw[hA.aA,zn];exact h.gen
 have yv:nY d'.cs d'.ps p x.g (n:Int)=some (iU x.k x.g x.z (nZ (eR F gs) a' x.parts)):=by
  unfold nY;rw[zw];dsimp only;rw[Jg ⟨rfl,rfl,h.ino,w5,w2⟩]
 have zy: ∀ (k:Nat) (q:Int×Int),(nZ (eR F gs) a' x.parts)[k]? =some q→ ∀ u,y.parts[k]? =some u→KX d' n y.size k q u∧(q.1∈F.take gs.length∨q.1=0∨Live d q.1):=by
  intro k q hq u hu;obtain⟨pr,zj,hc⟩:=PN hq;rcases h.parts k pr u zj hu with⟨hf,yu,yt⟩|⟨hf,yr,_,zh⟩
  ·have zt:q=(eR F gs)[a'+pY (x.parts.take k)]?.getD (0,0):=by
    rcases hc with hc|hc
    ·exact hc.2
    ·rw[hf] at hc;cases hc.1
   obtain⟨i2,e2,yp⟩:=hB _ _ (aoQ (P:=eR F gs) (a:=a') hn zj hf);rw[dj] at e2;subst e2;obtain⟨p2,yo,zk,ym,h02⟩:=asN hA hR hG yp;rw[yo] at zt;have yl:q=p2:=zt;subst yl;refine⟨.inr ⟨h02,yu,pr.text, ?_,yt⟩, .inl ym⟩;unfold iW;rw[zk];dsimp only;rw[Jg ⟨rfl,rfl,h.ino,rfl⟩]
  ·have zt:q=pr.pl:=by
    rcases hc with hc|hc
    ·rw[hf] at hc;cases hc.1
    ·exact hc.2
   rw[zt];exact⟨abO hA hR yr zh, .inr zh⟩
 refine⟨p,_,⟨⟨zf,ze,h.lt,p,x.g,zu,zl,z8,yv⟩,by rw[w1,h.ek],by rw[w2,h.eg],by rw[w3,h.ez],h.size,by rw[w4,pH];exact h.len,by rw[w4,pH,h.len,h.aRU], ?_⟩,zu,za, ?_⟩
 ·intro k q u hq hu;rw[w4] at hq;exact (zy k q hq u hu).1
 ·intro q hq;rw[w4] at hq;obtain⟨k,zg,rfl⟩:=afa hq;have yk:k<y.parts.length:=by rw[pH] at zg;have:=h.len;have:=h.aRU;omega
  exact (zy k _ (ak zg) _ (ak yk)).2
theorem DH (hA:sZ d d' F s l gs) (hL:Lie d tab) (hR:Room d F) (hC:oP d tab l tab') (hG:sB d F s l gs):Lie d' tab'∧Room d' (F.drop gs.length):=by
 have zw: ∀ z∈l,0≤z.ino:=fun z hz=>by obtain⟨i,hi,_⟩:=aeF hL hC z hz;omega
 have zh:=wC hL hR hC hG;have zt:=wK hA hR hG hL.mM;have zr:eT d'.at' d'.aA:=by rw[hA.at',hA.aA];exact aaI l 0 (d.at',d.aA) hL.map zh
 have hm48:=hL.map.1;have hm48':=hL.map.2.1;have zy: ∀ n:Nat,(∀ x∈l,x.ino≠(n:Int))∨ ∃ x∈l,x.ino=(n:Int):=fun n=>by
  rcases afn (∃ x∈l,x.ino=(n:Int)) with h|h
  ·exact .inr h
  ·exact .inl fun x hx e=>h ⟨x,hx,e⟩
 have zx: ∀ (n:Nat) (x:kQ),x∈l→x.ino=(n:Int)→x.gone=true→tab' n=none∧d'.at'[n]? =some (0,0):=fun n x hx hi hg=>by
  obtain⟨k,y,hk,hy,_,hn⟩:=hC.gone x hx hg;have zq:k=n:=Z8
  subst zq;refine⟨hn, ?_⟩;obtain⟨a',_,zl,_⟩:=aeE (P:=eR F gs) l 0 (d.at',d.aA) zw hC.one hx;rw[hk,dc] at zl;rw[hA.at',zl];unfold iF;rw[Jg hg,hk,dc];exact afj (by have:=aeD hL hy;dsimp only;omega)
 have zv: ∀ (n:Nat) (x:kQ),x∈l→x.ino=(n:Int)→x.gone=false→ ∃ y p t,tab' n=some y∧aPP d' F gs d n y p t:=fun n x hx hi hg=>by
  obtain⟨k,y,hk,hy⟩:=hC.new x hx hg;have zq:k=n:=by have:=hk.ino;omega
  subst zq;obtain⟨p,t,h⟩:=aRW hA hL hR hC hG zt zr hx hg hk;exact⟨y,p,t,hy,h⟩
 refine⟨⟨zt,zr,fun n hn h=> ?_,fun n y h=> ?_⟩, ?_⟩
 ·rcases zy n with hc|⟨x,hx,hi⟩
  ·rw[hC.rest n hc] at h;obtain⟨o1,_⟩:=qY (P:=eR F gs) (n:=n) l 0 (d.at',d.aA) fun x hx e=>hc x hx (by have:=zw x hx;omega)
   rw[hA.at',o1];exact hL.none n hn h
  ·cases hg:x.gone with
   |true=>exact (zx n x hx hi hg).2
   |false=>
    obtain⟨y,p,t,hy,_⟩:=zv n x hx hi hg;rw[h] at hy;cases hy
 ·rcases zy n with hc|⟨x,hx,hi⟩
  ·rw[hC.rest n hc] at h;obtain⟨t,ht⟩:=hL.some n y h;exact⟨t,aMU hA hR zt zr ht hc zw⟩
  ·cases hg:x.gone with
   |true=>rw[(zx n x hx hi hg).1] at h;cases h
   |false=>
    obtain⟨y',p,t,hy,hN⟩:=zv n x hx hi hg;rw[h] at hy;cases hy;exact⟨t,hN.pM⟩
 ·have zg:F=F.take gs.length++F.drop gs.length:=(gl _ _).symm;have zn:=hR.nodup;rw[zg,afl] at zn;refine⟨zn.2.1,fun c hc=>by rw[hA.cs];exact hR.inn c (ln hc),fun c hc zf=> ?_, ?_⟩
  ·have zu:=ln hc;have zk:c∉F.take gs.length:=fun e=>zn.2.2 c e c hc rfl
   obtain⟨n,p,g,t,h1,h2,h3,h4,h5⟩:=zf;rcases zy n with ze|⟨x,hx,hi⟩
   ·obtain⟨o1,o2⟩:=qY (P:=eR F gs) (n:=n) l 0 (d.at',d.aA) fun x hx e=>ze x hx (by have:=zw x hx;omega)
    rw[hA.at',o1] at h1;rw[hA.aA,o2] at h2;have zm:n<48:=by have:=(aj.1 h1).1;dsimp only at this;omega
    cases zj:tab n with
    |none=>
     have:=hL.none n zm zj;dsimp only at h1;rw[h1] at this;cases this;exact h3 rfl
    |some y=>
     obtain⟨l0,p0,g0,_,k1,k2,k3,k4,_,k5,k6⟩:=PO hL zj;dsimp only at h1 h2;rw[h1] at k1;cases k1;rw[h2] at k2;cases k2;rw[ajZ hA hR k5,k4] at h4;cases h4;rcases h5 with h5|⟨q,hq,h5⟩
     ·exact hR.dead c zu (h5 ▸ k5)
     ·exact hR.dead c zu (h5 ▸ k6 q hq)
   ·cases hg:x.gone with
    |true=>
     have:=(zx n x hx hi hg).2;rw[h1] at this;cases this;exact h3 rfl
    |false=>
     obtain⟨y,p2,t2,_,hN⟩:=zv n x hx hi hg;rw[hN.pl] at h1;cases h1;obtain⟨p3,g3,m1,m2,m3,m4⟩:=hN.pM.told.ex;rw[hN.pl] at m1;cases m1;rw[h2] at m2;cases m2;rw[h4] at m4;cases m4;rcases h5 with h5|⟨q,hq,h5⟩
     ·exact zk (h5 ▸ hN.here)
     ·rcases hN.parts q hq with h6|h6|h6
      ·exact zk (h5 ▸ h6)
      ·have:=hR.inn c zu;omega
      ·exact hR.dead c zu (h5 ▸ h6)
  ·rw[hA.ps,ae,uI _ _ _ hG.room,bq];have:=hR.wait;have:=hG.room;omega
end
end fs
namespace fs
open use cK dZ cO
theorem aoR {cs:List ByteArray} {p q:List (Int×ByteArray)} (h:bA.Good cs (p++q)):bA.Good cs p:=
 ⟨h.n0,h.n1,h.cells,fun x hx=>h.agT x (ei.2 (.inl hx)),by have:=h.wait;rw[ae] at this;omega⟩
theorem IF {cs:List ByteArray} {p:List (Int×ByteArray)} {c:Int} {t:ByteArray} {q:List (Int×ByteArray)} (h:bA.Good cs (p++(c,t)::q)):bA.bR cs p c t=0:=by
 have h1:=h.agT (c,t) (ei.2 (.inr bu));have h2:=h.wait;rw[ae,dv] at h2;unfold bA.bR;rw[Jf (by rw[bA.vN (aoR h)];simp),Jf (by simp [h1]),Jf Z8]
theorem ayC {s:Int} {F:List Int} {gs:List (List bU)} {i:Nat} {c:Int} {g:List bU} (hc:F[i]? =some c) (hg:gs[i]? =some g):iO s (F.drop i) (gs.drop i)=(c,SF (s+1) g (gs.drop (i+1)).isEmpty)::iO (s+1) (F.drop (i+1)) (gs.drop (i+1)):=by
 obtain⟨h1,e1⟩:=aj.1 hc;obtain⟨h2,e2⟩:=aj.1 hg;rw[bh h1,bh h2,e1,e2,iO]
theorem ayD {F:List Int} {gs:List (List bU)} {i:Nat} {c:Int} {g:List bU} (hc:F[i]? =some c) (hg:gs[i]? =some g):eR (F.drop i) (gs.drop i)=(mn g.length).map (fun (k:Nat)=>(c,(k:Int)))++eR (F.drop (i+1)) (gs.drop (i+1)):=by
 obtain⟨h1,e1⟩:=aj.1 hc;obtain⟨h2,e2⟩:=aj.1 hg;rw[bh h1,bh h2,e1,e2,eR]
theorem aGL (s:Int) (F:List Int) (gs:List (List bU)):iO s F (gs.drop gs.length)=[]:=by
 rw[abc];cases F<;>rfl
theorem aGM (F:List Int) (gs:List (List bU)):eR F (gs.drop gs.length)=[]:=by
 rw[abc];cases F<;>rfl
theorem ayE {gs:List (List bU)} {i:Nat} {g:List bU} (hg:gs[i]? =some g):(gs.drop i).flatten=g++(gs.drop (i+1)).flatten:=by
 obtain⟨h2,e2⟩:=aj.1 hg;rw[bh h2,e2,aey]
theorem VB {sz:Nat} {l:auZ} {H R:List Ent} (p:bQ (many sz l) H R):HSub H (many sz l::H):=fun w hw=>aG.shared hw rfl (hw.1 _ p.mem) fun k hk=>⟨_,p.mem,rfl,hk⟩
def qK (W:List (Int×ByteArray)):List RX:=W.map fun p=>(1,p.1,p.2)
def asO (b:Nat) (d:FD) (s:Int) (t:Value) (F:List Int) (L:List RX) (l:List kQ) (gs:List (List bU)) (v:Value) (H':List Ent):Prop:=
 ∃ d' qf cf q c,sZ d d' F s l gs∧v= .int .i64 0∧H'=bC b d' (.int .i64 (s+gs.length)) t (.slice qf (F.length-gs.length) cf) (.slice q (L++qK (iO s F gs)).length c)::(aX d'++[sl 1 (.slice qf (F.length-gs.length) cf) ((F.drop gs.length).map fI),own (.slice q (L++qK (iO s F gs)).length c) 87 3 (L++qK (iO s F gs)).length (flat FM (L++qK (iO s F gs)))])
structure CSt where
 ci:Nat
 csr:Int
 cps:List (Int×ByteArray)
 cop:List RX
 ca':Option Addr
 cca:Nat
 cw':Option Addr
 ccw:Nat
 cq:Option Addr
 cqc:Nat
 cB:Option Addr
 cBc:Nat
attribute [local irreducible] box own sl bL aH bJ Qt cN cM dG dL eQ
attribute [local irreducible] aW jE iR iO eR rN bE dZ.bR lH.dY
theorem aMV {gs:List (List bU)} {i:Nat} {g:List bU} (h:gs[i]? =some g):(gs.map fun g=>(g.length:Int))[i]? =some ((g.length:Nat):Int):=by rw[List.getElem?_map,h];rfl
theorem LB (bs:Nat) (d:FD) (s:Int) (t:Value) (qf:Option Addr) (cf:Nat) (F:List Int) (L:List RX) (qo:Option Addr) (co:Nat) (q0:Option Addr) (c0:Nat) (l:List kQ) (keep:Nat) (gs:List (List bU)) (hk:keep≤1000) (hl:l.length≤1000) (hp: ∀ x∈l,x.parts.length≤1000) (hN:(aW l).length≤1000000) (hF:F.length≤1000) (hL:L.length≤1000)
  (hm:eT d.at' d.aA) (hG:sB d F s l gs) (hroom:gs.length+keep≤F.length) (z8:rN (eR F gs) 0 (d.at',d.aA) l) (zk:bA.Good d.cs (d.ps++iO s F gs)):
  Ct lk 135 [aH bs 0, .slice q0 l.length c0, .int .i64 (keep:Int)] (bC bs d (.int .i64 s) t (.slice qf F.length cf) (.slice qo L.length co)::(aX d++[sl 1 (.slice qf F.length cf) (F.map fI),own (.slice qo L.length co) 87 3 L.length (flat FM L),sl 7 (.slice q0 l.length c0) (l.map mQ),many 4 (l.map xP)])) (asO bs d s t F L l gs):=by
 have BL:=KD q0 c0 l hl hp;obtain⟨z7,zy,zr,yp,hs0,hs1⟩:=hG;have zu:(jE (eR F gs) 0 l).length=(aW l).length:=by
  have:=congrArg adu (rO (eR F gs) l 0);simpa [szs] using this
 have yo:=FU gs F yp;rw[zy,zu] at yo;have SP:=fun q c=>uG q c (aW l) Z8
 rw[z7] at SP;dsimp only at SP;have FI:=fun qB cB qP cP=>SD bs d (.int .i64 s) t (.slice qf F.length cf) (.slice qo L.length co) q0 c0 l qB cB (aW l).length rfl hN qP cP (eR F gs) Z8 hl hm z8
 have AF: ∀ d':FD,d'.cs=d.cs→d'.ps=d.ps++iO s F gs→d'.at'=(iR (eR F gs) 0 (d.at',d.aA) l).1→d'.aA=(iR (eR F gs) 0 (d.at',d.aA) l).2→sZ d d' F s l gs:=fun d' h1 h2 h3 h4=>⟨h1,h2,h3,h4⟩
 have zx:= @aMV gs;obtain⟨ns,zj⟩: ∃ ns,gs.map (fun g=>(g.length:Int))=ns:=⟨_,rfl⟩;have ym:ns.length=gs.length:=by rw[←zj,gp]
 rw[zj] at SP zx;have yz:[]++eR (F.drop 0) (gs.drop 0)=eR F gs:=rfl;have yx:iO s (F.drop 0) (gs.drop 0)=iO s F gs:=rfl;have zh:(gs.drop 0).flatten=jE (eR F gs) 0 l:=zy;have hlenB:gs.flatten.length=(aW l).length:=by rw[zy,zu]
 unfold asO;generalize hP:eR F gs=P at*;generalize iR P 0 (d.at',d.aA) l=M at*;generalize jE P 0 l=BF at*;generalize aW l=B0 at*;generalize hWs:iO s F gs=W at*;clear z7 zy z8 zj;obtain⟨a,ca,cs,w,cw,wl,m,cm,at1,qg,cg,aA⟩:=d;unfold aDI bC aX at*;dsimp only[dw,dz] at FI AF hm zk ⊢;(refine Ye Tryz.func135 Tryz.ntmps135 ?_;intro Fr);refine kB ?_;refine aN (VB (sz:=4) (l:=l.map xP) aU) ?_;refine Cb (BL) ?_;rintro _ _ ⟨_,⟨q1,c1,rfl,rfl⟩,rfl⟩;refine Da ?_;refine kB ?_;(refine Ca (SP _ _) ?_;rintro _ _ ⟨_,⟨q2,c2,rfl,rfl⟩,rfl⟩;refine Da ?_);refine kB ?_;refine aO (aS _ 77 2) ?_;(refine aC (σ:=Nat×List (Int×Int)×Option Addr×Nat) (fun x=>x.1≤gs.length∧x.2.1++eR (F.drop x.1) (gs.drop x.1)=P) (fun x=>[(53, .int .i64 (x.1:Int)),(10, .slice x.2.2.1 x.2.1.length x.2.2.2)]) (fun x=>[own (.slice x.2.2.1 x.2.1.length x.2.2.2) 77 2 x.2.1.length (flat jP x.2.1)]) _ (fun x=>gs.length-x.1) ((0,[],none,0)) (by exact⟨fe _,yz⟩) Ze Zb (fun⟨i,o,q3,c3⟩ ⟨hi,ho⟩=> ?_);refine Da ?_);clear yz;dsimp only at hi ho ⊢;rcases dW gs i with⟨g,hg,hlt⟩|yl
 ·have zg:=zx hg;obtain⟨c,hc⟩: ∃ c,F[i]? =some c:=⟨_,ak Z8⟩;rw[ayD hc hg, ←fu] at ho;have yv:o++(mn 0).map (fun (k:Nat)=>(c,(k:Int)))=o:=Ja
  have yk:=congrArg adu ho;rw[ae,ae,gp,abx] at yk;refine kB ?_;(refine aC (σ:=Nat×List (Int×Int)×Option Addr×Nat) (fun x=>x.1≤g.length∧x.2.1=o++(mn x.1).map (fun (k:Nat)=>(c,(k:Int)))) (fun x=>[(59, .int .i64 (x.1:Int)),(10, .slice x.2.2.1 x.2.1.length x.2.2.2)]) (fun x=>[own (.slice x.2.2.1 x.2.1.length x.2.2.2) 77 2 x.2.1.length (flat jP x.2.1)]) _ (fun x=>g.length-x.1) ((0,o,q3,c3)) (by exact⟨fe _,yv.symm⟩) Ze Zb (fun⟨k,o2,q4,c4⟩ ⟨yj,zl⟩=> ?_);refine Da ?_);clear yv;dsimp only at yj zl ⊢;have zf:=congrArg adu zl;rw[ae,gp,abx] at zf;rcases ig k g.length with ze|hgek
  ·have yi:o2++[(c,(k:Int))]=o++(mn (k+1)).map (fun (k:Nat)=>(c,(k:Int))):=by rw[zl,aec,ads,fu];rfl
   (refine mW ?_;intro q);(refine aL wt Jb (by first|exact Ma (jP) [(c,(k:Int))] rfl|exact Mb (jP) [(c,(k:Int))] rfl) ?_;rintro _ _ ⟨q5,c5,rfl,rfl⟩);refine iC ?_;refine Ee ((k+1,o2++[(c,(k:Int))],q5,c5)) ?_ ?_
   ·exact⟨ze,yi⟩
   ·dsimp only;omega
  ·obtain rfl:k=g.length:=Z8
   rw[←zl] at ho;refine bM ?_;refine Ee ((i+1,o2,q4,c4)) ?_ ?_
   ·exact⟨hlt,ho⟩
   ·dsimp only;omega
 ·obtain rfl:i=gs.length:=Z8
  rw[aGM,ke] at ho;subst ho;refine kB ?_;refine aN (bB (v:= .slice q3 o.length c3) (e:=77) (m:=o.length) (f:=jP) (ys:=o) aU (fun _=>rfl) rfl) ?_;refine Cb (FI _ _ _ _) ?_;rintro _ _ ⟨_,⟨q4,c4,q5,c5,rfl,rfl⟩,rfl⟩;refine Da ?_;(refine iB ?_;intro b);refine aO (bB (v:= .slice q1 B0.length c1) (e:=175) (m:=B0.length) (f:=BR) (ys:=BF) aU (fun _=>rfl) zu.symm) ?_;subst zh;rw[←zu];(refine aC (σ:=CSt) (fun x=>(x.ci≤gs.length∧x.csr=s+(x.ci:Int))∧x.cps++iO x.csr (F.drop x.ci) (gs.drop x.ci)=wl++W∧x.cop++qK (iO x.csr (F.drop x.ci) (gs.drop x.ci))=L++qK W∧x.cop.length=L.length+x.ci) (fun x=>[(93, .int .i64 (x.ci:Int)),(7, .slice x.cB (gs.drop x.ci).flatten.length x.cBc)]) (fun x=>[box bs [.slice x.ca' cs.length x.cca, .slice x.cw' x.cps.length x.ccw, .slice q4 M.1.length c4, .slice q5 M.2.length c5, .int .i64 x.csr,t, .slice qf F.length cf, .slice x.cq x.cop.length x.cqc] 136,sl 1 (.slice x.ca' cs.length x.cca) (cs.map fS),sl 2 (.slice x.cw' x.cps.length x.ccw) (x.cps.map fP),own (.slice x.cq x.cop.length x.cqc) 87 3 x.cop.length (flat FM x.cop),sl 4 (.slice x.cB (gs.drop x.ci).flatten.length x.cBc) ((gs.drop x.ci).flatten.map BR)]) _ (fun x=>gs.length-x.ci) ((⟨0,s,wl,L,a,ca,w,cw,qo,co,q1,c1⟩)) (by exact⟨⟨fe _,(Int.add_zero s).symm⟩,by dsimp only;rw[yx],by dsimp only;rw[yx],rfl⟩) Ze Zb (fun⟨i,sr,pi,oi,ai,cai,wi,cwi,qi,cqi,Bi,cBi⟩ ⟨⟨hi,yu⟩,zw,zv,zb⟩=> ?_);refine Da ?_);dsimp only at hi yu zw zv zb ⊢;rcases dW gs i with⟨g,hg,hlt⟩|yl
  ·have zg:=zx hg;obtain⟨c,hc⟩: ∃ c,F[i]? =some c:=⟨_,ak Z8⟩;rw[ayC hc hg] at zw zv;rw[ayE hg];have zq:=(zr g (jg hg)).2;have hg0:0<g.length:=mf.2 (zr g (jg hg)).1;have hg40:=(mZ zq).1;have BW: ∀ q c' last,Ct lk 203 [.slice q g.length c', .bool last] [sl 4 (.slice q g.length c') (g.map BR)] fun v H'=>v= .tuple #[.string (str (bE g last)), .int .i64 0]∧H'=[]:=fun q c' last=>by
    have:=dZ.kJ q c' g last Zl;unfold fL at this;rw[Jg zq,zq] at this;exact this
   have SEALC: ∀ (n:Int) (y:List UInt8),0≤n∧n≤2147483647→y.length≤1000→Ct lk 193 [.int .i64 1, .int .i64 n, .string (str y)] [] fun v H'=>v= .tuple #[.string (str (lH.dY 1 n y)), .int .i64 0]∧H'=[]:=fun n y hn hy=>by
    have he:=lH.RC (k:=1) (n:=n) (m:=y.length) ⟨.inl rfl,hn.1,hn.2,hy⟩;have:=lH.agK 1 n y;rw[lH.agN he,he] at this;exact this
   have yt:(g++(gs.drop (i+1)).flatten).take g.length=g:=List.take_left;have hlGR:(g++(gs.drop (i+1)).flatten).length=g.length+(gs.drop (i+1)).flatten.length:=ae;have yr:(g++(gs.drop (i+1)).flatten).drop g.length=(gs.drop (i+1)).flatten:=List.drop_left;unfold SF at zw zv;clear AF zx FI SP BL;by_cases zn:i+1=gs.length
   ·have za:(gs.drop (i+1)).isEmpty=true:=by rw[zn,abc];rfl
    rw[za] at zw zv;have zm:=(lJ true zq).1;have S0:=SEALC (sr+1) (bE g true) Z8 zm;have B0': ∀ q c',Ct lk 203 [.slice q g.length c', .bool true] [sl 4 (.slice q g.length c') (((g++(gs.drop (i+1)).flatten).take g.length).map BR)] fun v H'=>v= .tuple #[.string (str (bE g true)), .int .i64 0]∧H'=[]:=fun q c'=>by rw[yt];exact BW q c' true
    clear BW SEALC;have zt:bA.Good cs (pi++(c,str (lH.dY 1 (sr+1) (bE g true)))::iO (sr+1) (F.drop (i+1)) (gs.drop (i+1))):=by rw[zw];exact zk
    have D1:=RY bs ⟨ai,cai,cs,wi,cwi,pi,q4,c4,M.1,q5,c5,M.2⟩ (.int .i64 (sr+1)) t (.slice qf F.length cf) oi qi cqi c (str (lH.dY 1 (sr+1) (bE g true))) (by have:=zt.n1;dsimp only;omega) (by have:=zt.wait;rw[ae] at this;dsimp only;omega) Z8 (IF zt);unfold FO bC aX at D1;dsimp only[dw,dz] at D1;clear zt zm;generalize str (lH.dY 1 (sr+1) (bE g true))=T at*;generalize bE g true=WB at*;refine kB ?_;refine oI 12 rfl wt rfl (tY (m:=g.length) rfl rfl rfl aU rfl Zm) ?_;refine iC ?_;(refine Ca (B0' _ _) ?_;rintro _ _ ⟨_,⟨rfl,rfl⟩,rfl⟩;refine Da ?_);(repeat' (first|refine Y4 ?_|refine Wc (S0 ..) ?_|fail));refine Cb (D1) ?_;rintro _ _ ⟨_,⟨a1,ca1,w1,cw1,q6,c6,rfl,rfl⟩,rfl⟩;refine Da ?_;refine iC ?_;refine oI 12 rfl wt rfl (uE (i:=g.length) rfl rfl rfl rfl Z8) ?_;refine aN (FL (q:=Bi) (c:=cBi) (xs:=g++(gs.drop (i+1)).flatten) (i:=g.length) aU rfl Z8) ?_;rw[yr,show (g++(gs.drop (i+1)).flatten).length-g.length=(gs.drop (i+1)).flatten.length from by omega];refine iC ?_;refine Ee ((⟨i+1,sr+1,pi++[(c,T)],oi++[(1,c,T)],a1,ca1,w1,cw1,q6,c6,KA Bi g.length cBi 4,cBi-g.length⟩:CSt)) ?_ ?_
    ·refine⟨⟨hlt,by dsimp only;omega⟩,by dsimp only;rw[←zw];exact aex .. |>.symm,by dsimp only;rw[←zv];exact aex .. |>.symm,by dsimp only;rw[ae,zb];rfl⟩
    ·dsimp only;omega
   ·have za:(gs.drop (i+1)).isEmpty=false:=by
     rw[List.isEmpty_eq_false_iff];intro e;have:=congrArg adu e;rw[bq,gr] at this;omega
    rw[za] at zw zv;have zm:=(lJ false zq).1;have S0:=SEALC (sr+1) (bE g false) Z8 zm;have B0': ∀ q c',Ct lk 203 [.slice q g.length c', .bool false] [sl 4 (.slice q g.length c') (((g++(gs.drop (i+1)).flatten).take g.length).map BR)] fun v H'=>v= .tuple #[.string (str (bE g false)), .int .i64 0]∧H'=[]:=fun q c'=>by rw[yt];exact BW q c' false
    clear BW SEALC;have zt:bA.Good cs (pi++(c,str (lH.dY 1 (sr+1) (bE g false)))::iO (sr+1) (F.drop (i+1)) (gs.drop (i+1))):=by rw[zw];exact zk
    have D1:=RY bs ⟨ai,cai,cs,wi,cwi,pi,q4,c4,M.1,q5,c5,M.2⟩ (.int .i64 (sr+1)) t (.slice qf F.length cf) oi qi cqi c (str (lH.dY 1 (sr+1) (bE g false))) (by have:=zt.n1;dsimp only;omega) (by have:=zt.wait;rw[ae] at this;dsimp only;omega) Z8 (IF zt);unfold FO bC aX at D1;dsimp only[dw,dz] at D1;clear zt zm;generalize str (lH.dY 1 (sr+1) (bE g false))=T at*;generalize bE g false=WB at*;refine kB ?_;refine oI 12 rfl wt rfl (tY (m:=g.length) rfl rfl rfl aU rfl Zm) ?_;refine iC ?_;(refine Ca (B0' _ _) ?_;rintro _ _ ⟨_,⟨rfl,rfl⟩,rfl⟩;refine Da ?_);(repeat' (first|refine Y4 ?_|refine Wc (S0 ..) ?_|fail));refine Cb (D1) ?_;rintro _ _ ⟨_,⟨a1,ca1,w1,cw1,q6,c6,rfl,rfl⟩,rfl⟩;refine Da ?_;refine iC ?_;refine oI 12 rfl wt rfl (uE (i:=g.length) rfl rfl rfl rfl Z8) ?_;refine aN (FL (q:=Bi) (c:=cBi) (xs:=g++(gs.drop (i+1)).flatten) (i:=g.length) aU rfl Z8) ?_;rw[yr,show (g++(gs.drop (i+1)).flatten).length-g.length=(gs.drop (i+1)).flatten.length from by omega];refine iC ?_;refine Ee ((⟨i+1,sr+1,pi++[(c,T)],oi++[(1,c,T)],a1,ca1,w1,cw1,q6,c6,KA Bi g.length cBi 4,cBi-g.length⟩:CSt)) ?_ ?_
    ·refine⟨⟨hlt,by dsimp only;omega⟩,by dsimp only;rw[←zw];exact aex .. |>.symm,by dsimp only;rw[←zv];exact aex .. |>.symm,by dsimp only;rw[ae,zb];rfl⟩
    ·dsimp only;omega
  ·obtain rfl:i=gs.length:=Z8
   rw[aGL] at zw zv;rw[ke] at zw;rw[show qK []=[] from rfl,ke] at zv;subst zw zv yu;refine kB ?_;refine oI 12 rfl wt rfl (uE (i:=gs.length) rfl rfl rfl (by rw[ym]) Z8) ?_;refine aN (FL (q:=qf) (c:=cf) (xs:=F) (i:=gs.length) aU rfl Z8) ?_;refine kB ?_;have yh:=AF ⟨ai,cai,cs,wi,cwi,wl++W,q4,c4,M.1,q5,c5,M.2⟩ rfl rfl rfl rfl;exact Ea (x:=⟨_,_,_,_,_,yh,rfl,rfl⟩)
end fs
namespace fs
open use cK dZ cO file
structure iV where
 d:FD
 gJ:Int
 turn:Int
 qf:Option Addr
 cf:Nat
 fr:List Int
 qo:Option Addr
 co:Nat
 ops:List RX
def bI (b:Nat) (x:iV):List Ent:=
 bC b x.d (.int .i64 x.gJ) (.int .i64 x.turn) (.slice x.qf x.fr.length x.cf) (.slice x.qo x.ops.length x.co)::(aX x.d++[sl 1 (.slice x.qf x.fr.length x.cf) (x.fr.map fI),own (.slice x.qo x.ops.length x.co) 87 3 x.ops.length (flat FM x.ops)])
structure Inv (x:iV) (tab:cT):Prop where
 pM:Lie x.d tab
 shut:Shut tab
 room:Room x.d x.fr
 gJ:0≤x.gJ
 ayF:x.gJ≤2147483647
 turn:0≤x.turn
 two:2≤x.d.cs.length
theorem aeG {x:iV} {tab:cT} (h:Inv x tab):x.fr.length≤400:=by have:=h.room.wait;omega
theorem LC {n:Int} (hn:0≤n∧n<48): ∀ (t:List tF) (i:Nat),i+t.length≤8→(∀ p∈t,p.fresh=true→p.text.length≤600)→ ∀ b∈cV n t i,eC b=0
 |[],_,_,_,b,hb=>by simp [cV] at hb
 |p::t,i,hi,ht,b,hb=>by
  have ih:=LC hn t (i+1) (by simp only[dv] at hi;omega) fun q hq=>ht q (a8 _ hq)
  rw[cV] at hb;split at hb
  ·next hf=>
   rcases al.1 hb with rfl|hb
   ·have:=ht p bu hf;refine vL ?_ Zn;unfold pP;simp only[dv] at hi;dsimp only;omega
   ·exact ih b hb
  ·exact ih b hb
def lW (x:kQ):Prop:=(0≤x.ino∧x.ino<48)∧x.parts.length≤8∧ ∀ p∈x.parts,p.fresh=true→p.text.length≤600
theorem uW (P:List (Int×Int)): ∀ (l:List kQ) (a:Nat),(∀ x∈l,lW x)→ ∀ b∈jE P a l,eC b=0
 |[],_,_,b,hb=>by simp [jE] at hb
 |x::l,a,h,b,hb=>by
  rw[jE,ei] at hb;rcases hb with hb|hb
  ·obtain⟨h1,h2,h3⟩:=h x bu;unfold uH at hb;split at hb
   ·rw[eh] at hb;subst hb;exact vL (by unfold pP;dsimp only[gr];omega) (by dsimp only[gr];omega)
   ·rcases ei.1 hb with hb|hb
    ·exact LC h1 _ 0 Z8 h3 b hb
    ·rw[eh] at hb;subst hb;refine vL Zu ?_;dsimp only;rw[vU,pH];omega
  ·exact uW P l _ (fun y hy=>h y (a8 _ hy)) b hb
theorem IG {l:List kQ} (h: ∀ x∈l,lW x): ∀ b∈aW l,eC b=0:=fun b hb=>by
 obtain⟨x,hx,hb⟩:=List.mem_flatMap.1 hb;obtain⟨h1,h2,h3⟩:=h x hx;unfold kD at hb;split at hb
 ·rw[eh] at hb;subst hb;exact vL (by unfold pP;dsimp only[gr];omega) (by dsimp only[gr];omega)
 ·rcases ei.1 hb with hb|hb
  ·exact LC h1 _ 0 Z8 h3 b hb
  ·rw[eh] at hb;subst hb;refine vL Zu ?_;dsimp only;rw[List.length_replicate];omega
theorem IH: ∀ {l:List kQ},(∀ x∈l,lW x)→(aW l).length≤9*l.length
 |[],_=>df _
 |x::l,h=>by
  have ih:=IH (l:=l) fun y hy=>h y (a8 _ hy)
  have hc:=nB x;have hf:=KE x.parts;have:=(h x bu).2.1;rw[show aW (x::l)=kD x++aW l from rfl,ae,dv];split at hc<;>omega
theorem PQ: ∀ {gs:List (List bU)},(∀ g∈gs,amQ g)→gs.length≤gs.flatten.length
 |[],_=>df _
 |g::gs,h=>by
  have ih:=PQ (gs:=gs) fun y hy=>h y (a8 _ hy)
  have:=mf.2 (h g bu).1;rw[aey,ae,dv];omega
def aoS (aA:List Int) (l:List kQ):List Int:=l.foldl (fun g x=>if x.gone=true then g.set x.ino.toNat (g[x.ino.toNat]?.getD 0+1) else g) aA
theorem DI (P:List (Int×Int)): ∀ (l:List kQ) (a:Nat) (m:tH),(iR P a m l).2=aoS m.2 l
 |[],_,_=>rfl
 |x::l,a,m=>by
  rw[iR,DI P l];show aoS (iF P a m x).2 l=aoS (if x.gone=true then m.2.set x.ino.toNat (m.2[x.ino.toNat]?.getD 0+1) else m.2) l;unfold iF;split<;>rfl
def hU (b:Nat) (x:iV) (tab':cT) (G:List Int) (N keep:Nat) (v:Value) (H':List Ent):Prop:=
 (((∃ k:Nat,k≤N∧(x.fr.length<k+keep∨2147483647<x.gJ+k)))∧v= .int .i64 9∧H'=bI b x)∨
 (∃ (x':iV) (k:Nat) (W:List (Int×ByteArray)),(Inv x' tab'∧(k≤N∧k+keep≤x.fr.length)∧x'.fr=x.fr.drop k∧x'.gJ=x.gJ+k∧x'.turn=x.turn∧W.length=k∧(∀ p∈W,p.1∈x.fr.take k)∧x'.d.cs=x.d.cs∧x'.d.ps=x.d.ps++W∧x'.ops=x.ops++qK W∧x'.d.aA=G∧ ∃ l gs,sB x.d x.fr x.gJ l gs∧sZ x.d x'.d x.fr x.gJ l gs∧gs.length=k)∧v= .int .i64 0∧H'=bI b x')
theorem oQ (b:Nat) (x:iV) {tab tab':cT} (hI:Inv x tab) (zx:x.ops.length≤1000) {l:List kQ} (hl:l.length≤100) (hC:oP x.d tab l tab') (hS: ∀ y∈l,lW y) (zt:Shut tab') (q0:Option Addr) (c0 keep:Nat) (hk:keep≤1000) {N:Nat} (hN:(aW l).length≤N) {G:List Int} (zv:aoS x.d.aA l=G):Ct lk 135 [aH b 0, .slice q0 l.length c0, .int .i64 (keep:Int)] (bI b x++[sl 7 (.slice q0 l.length c0) (l.map mQ),many 4 (l.map xP)]) (hU b x tab' G N keep):=by
 obtain⟨gs,h1,h2,h3⟩:=pA (F:=x.fr) (IG hS) (fun P=>uW P l 0 hS);have hbd:=IH hS;have hle:=PQ h3;have hsz:gs.flatten.length=(aW l).length:=by
  rw[h2];have:=congrArg adu (rO (eR x.fr gs) l 0);simpa [szs] using this
 have zr:=aeG hI;obtain⟨d,s,tn,qf,cf,F,qo,co,L⟩:=x;dsimp only at zr zx hC h2 hsz zv ⊢;have zu:=hI.gJ;dsimp only at zu;have zq:=hI.ayF;dsimp only at zq
 ·by_cases zy:F.length<gs.length+keep∨2147483647<s+gs.length
  ·have C0:=NQ b d s (.int .i64 tn) qf cf F L qo co q0 c0 l keep gs Z8 hk Z8 (fun y hy=>by have:=(hS y hy).2.1;omega) Z8 Z8 h1 Z8 zy;exact bY C0 fun v H' h=> .inl ⟨⟨gs.length,Z8,zy⟩,h⟩
  ·have hG:sB d F s l gs:=⟨h1,h2,h3,Z8,zu,Z8⟩;have zn:=wC hI.pM hI.room hC hG;have zm: ∀ d',sZ d d' F s l gs→bA.Good d'.cs d'.ps:=fun d' hA=>wK hA hI.room hG hI.pM.mM
   have zw:=zm ⟨none,0,d.cs,none,0,d.ps++iO s F gs,none,0,(iR (eR F gs) 0 (d.at',d.aA) l).1,none,0,(iR (eR F gs) 0 (d.at',d.aA) l).2⟩ ⟨rfl,rfl,rfl,rfl⟩;have C0:=LB b d s (.int .i64 tn) qf cf F L qo co q0 c0 l keep gs hk Z8 (fun y hy=>by have:=(hS y hy).2.1;omega) Z8 Z8 zx hI.pM.map hG Z8 zn zw;refine bY C0 fun v H' h=> ?_
   ·obtain⟨d',qf',cf',q,c,hA,hv,hH⟩:=h;obtain⟨zl,zk⟩:=DH hA hI.pM hI.room hC hG;refine .inr ⟨⟨d',s+gs.length,tn,qf',cf',F.drop gs.length,q,c,L++qK (iO s F gs)⟩,gs.length,iO s F gs,⟨⟨zl,zt,zk,by dsimp only;omega,by dsimp only;omega,hI.turn,by dsimp only;rw[hA.cs];exact hI.two⟩,⟨Z8,by dsimp only;omega⟩,rfl,rfl,rfl,uI _ _ _ hG.room,PD _ _ _,hA.cs,hA.ps,rfl,by dsimp only;rw[hA.aA,DI, ←zv],l,gs,hG,hA,rfl⟩,hv, ?_⟩;rw[hH];unfold bI;dsimp only;rw[bq]
end fs
namespace fs
open use cK dZ cO file
theorem WC (K:Nat→Bool): ∀ (ps:List (Int×ByteArray)) (i:Nat) (cs:List ByteArray),(∀ s∈cs,s.size≤1024)→(∀ p∈ps,p.2.size≤1024)→ ∀ s∈bA.land K i cs ps,s.size≤1024
 |[],_,cs,h,_,s,hs=>h s hs
 |p::ps,i,cs,h,hp,s,hs=>by
  rw[bA.land] at hs;refine WC K ps (i+1) _ (fun t ht=> ?_) (fun q hq=>hp q (a8 _ hq)) s hs;split at ht
  ·rcases List.mem_or_eq_of_mem_set ht with h1|h1
   ·exact h t h1
   ·rw[h1];exact hp p bu
  ·exact h t ht
theorem LR {cs:List ByteArray} {ps:List (Int×ByteArray)} (h:bA.Good cs ps):bA.Good (bA.land (fun _=>true) 0 cs ps) []:=
 ⟨by rw[bA.rL];exact h.n0,by rw[bA.rL];exact h.n1,WC _ ps 0 cs h.cells fun p hp=>(xL.1 (h.agT p hp)).2.2,fun p hp=>absurd hp ck,fe _⟩
theorem azG (L:List (Int×Nat)): ∀ (F:Nat→Nat) (c:Nat),F c≤cC F L c:=by
 induction L with
 |nil=>intro F c;exact df _
 |cons x L ih=>
  intro F c;rw[cC];refine gm ?_ (ih _ c);unfold gN;split
  ·next e=>subst e;omega
  ·exact df _
theorem WD {L:List (Int×Nat)} {x:Int×Nat} (h:x∈L): ∀ F:Nat→Nat,x.2≤cC F L x.1.toNat:=by
 induction L with
 |nil=>exact absurd h ck
 |cons y L ih=>
  intro F;rw[cC];rcases al.1 h with rfl|h
  ·refine gm ?_ (azG L _ _);unfold gN;rw[Jg rfl];omega
  ·exact ih h _
theorem NU {L:List (Int×Nat)} {c:Nat} (h: ∀ x∈L,x.1.toNat≠c): ∀ F:Nat→Nat,cC F L c=F c:=by
 induction L with
 |nil=>intro F;rfl
 |cons y L ih=>
  intro F;rw[cC,ih fun x hx=>h x (a8 _ hx)];unfold gN;rw[Jf fun e=>h y bu e.symm]
theorem WE {cs:Cells} {ps:cH} {n:Int}: ∀ (t:List (Int×Int)) (k:Nat),(∀ (j:Nat) (q:Int×Int),t[j]? =some q→q.1≠0→(iW cs ps n ((k+j:Nat):Int) q).2=0)→ ∃ L,fQ cs ps n t k=some L∧L.length≤t.length∧ ∀ (j:Nat) (q:Int×Int),t[j]? =some q→q.1≠0→(q.1,(iW cs ps n ((k+j:Nat):Int) q).1.length)∈L
 |[],_,_=>⟨[],rfl,df _,fun j q h=>by simp at h⟩
 |p::t,k,h=>by
  obtain⟨L,h1,h2,h3⟩:=WE t (k+1) fun j q hq h0=>by
   have:=h (j+1) q (by simpa using hq) h0;rwa [show k+(j+1)=k+1+j from by omega] at this
  rw[fQ];by_cases h0:p.1=0
  ·rw[Jg h0];refine⟨L,h1,by rw[dv];omega,fun j q hq zy=> ?_⟩;cases j with
   |zero=>cases hq;exact absurd h0 zy
   |succ j=>
    have:=h3 j q (by simpa using hq) zy;rwa [show k+1+j=k+(j+1) from by omega] at this
  ·have h00:=h 0 p rfl h0;rw[fl] at h00;rw[Jf h0,Jg h00,h1];refine⟨_,rfl,by rw[dv,dv];omega,fun j q hq zy=> ?_⟩;cases j with
   |zero=>cases hq;rw[fl];exact bu
   |succ j=>
    have:=h3 j q (by simpa using hq) zy;rw[show k+1+j=k+(j+1) from by omega] at this;exact a8 _ this
def NV (at':List (Int×Int)):Nat:=(at'.filter fun p=>decide (p.1≠0)).length
theorem apL {cs:Cells} {ps:cH}: ∀ (at':List (Int×Int)) (aA:List Int) (n:Nat),at'.length=aA.length→(∀ (j:Nat) (p:Int×Int) (g:Int),at'[j]? =some p→aA[j]? =some g→p.1≠0→ ∃ l:List UInt8,nY cs ps p g ((n+j:Nat):Int)=some l∧(pI l).length≤8∧ ∀ (k:Nat) (q:Int×Int),(pI l)[k]? =some q→q.1≠0→(iW cs ps ((n+j:Nat):Int) (k:Int) q).2=0)→ ∃ L,its cs ps at' aA n=some L∧L.length≤9*NV at'∧ ∀ (j:Nat) (p:Int×Int) (g:Int) (l:List UInt8),at'[j]? =some p→aA[j]? =some g→p.1≠0→nY cs ps p g ((n+j:Nat):Int)=some l→(p.1,l.length)∈L∧ ∀ (k:Nat) (q:Int×Int),(pI l)[k]? =some q→q.1≠0→(q.1,(iW cs ps ((n+j:Nat):Int) (k:Int) q).1.length)∈L
 |[],aA,n,_,_=>⟨[],PB ..,fe _,fun j p g l h=>by simp at h⟩
 |p::at',[],n,hl,_=>by simp at hl
 |p::at',g::aA,n,hl,h=>by
  obtain⟨L,h1,h2,h3⟩:=apL at' aA (n+1) ZO fun j p g hp hg h0=>by
   have:=h (j+1) p g ZK (by simpa using hg) h0;rwa [show n+(j+1)=n+1+j from by omega] at this
  rw[its];by_cases h0:p.1=0
  ·have e:FH cs ps p g n=some []:=by unfold FH;rw[Jg h0]
   rw[e];dsimp only;rw[h1];refine⟨_,rfl, ?_,fun j p' g' l hp hg zx hi=> ?_⟩
   ·show L.length≤_;unfold NV at h2 ⊢;rw[List.filter_cons_of_neg Z3];exact h2
   ·cases j with
    |zero=>cases hp;exact absurd h0 zx
    |succ j=>
     show (p'.1,l.length)∈L∧ ∀ (k:Nat) (q:Int×Int),(pI l)[k]? =some q→q.1≠0→(q.1,(iW cs ps ((n+(j+1):Nat):Int) (k:Int) q).1.length)∈L;have:=h3 j p' g' l ZK (by simpa using hg) zx;rw[show n+1+j=n+(j+1) from by omega] at this;exact this hi
  ·obtain⟨l0,i1,i2,i3⟩:=h 0 p g rfl rfl h0;obtain⟨L0,k1,k2,k3⟩:=WE (cs:=cs) (ps:=ps) (n:=(n:Int)) (pI l0) 0 fun j q hq zy=>by
    rw[dj];exact i3 j q hq zy
   have e:FH cs ps p g n=some ((p.1,l0.length)::L0):=by
    unfold FH;rw[Jf h0,show nY cs ps p g (n:Int)=some l0 from i1];dsimp only;rw[k1];rfl
   rw[e];dsimp only;rw[h1];refine⟨_,rfl, ?_,fun j p' g' l hp hg zx hi=> ?_⟩
   ·unfold NV at h2 ⊢;rw[List.filter_cons_of_pos Z3,ae,dv,dv];omega
   ·cases j with
    |zero=>
     cases hp;cases hg;rw[fl] at hi ⊢;rw[show nY cs ps p g (n:Int)=some l0 from i1] at hi;cases hi;refine⟨ei.2 (.inl bu),fun k q hq zy=> ?_⟩;have:=k3 k q hq zy;rw[dj] at this;exact ei.2 (.inl (a8 _ this))
    |succ j=>
     have:=h3 j p' g' l ZK (by simpa using hg) zx;rw[show n+1+j=n+(j+1) from by omega] at this;obtain⟨m1,m2⟩:=this hi;exact⟨ei.2 (.inr m1),fun k q hq zy=>ei.2 (.inr (m2 k q hq zy))⟩
theorem aeP: ∀ {l S:List Nat},l.Nodup→(∀ x∈l,x∈S)→l.length≤S.length
 |[],_,_,_=>fe _
 |x::l,S,hd,h=>by
  obtain⟨h1,h2⟩:=afe.1 hd;have hx:=h x bu;have:=aeP (S:=S.erase x) h2 fun y hy=>(List.mem_erase_of_ne (fun e=>h1 (by rw[←e];exact hy))).2 (h y (a8 _ hy))
  rw[List.length_erase_of_mem hx] at this;have:=List.length_pos_of_mem hx;rw[dv];omega
theorem WG {L:List (Int×Nat)} {n:Nat}:n≤(jJ (cC (fun _=>0) L) n).length+(2+L.length):=by
 have h:=aeP (l:=mn n) (S:=((mn n).filter fun j=>decide (2≤j)&&decide (cC (fun _=>0) L j=0))++([0,1]++L.map fun x=>x.1.toNat)) afm fun j hj=>by
  by_cases h2:2≤j
  ·by_cases h0:cC (fun _=>0) L j=0
   ·exact ei.2 (.inl (iw.2 ⟨hj,by simp [h2,h0]⟩))
   ·refine ei.2 (.inr (ei.2 (.inr ?_)));rcases afn (∃ x∈L,x.1.toNat=j) with⟨x,hx,e⟩|hn
    ·exact fa.2 ⟨x,hx,e⟩
    ·exact absurd (NU (fun x hx e=>hn ⟨x,hx,e⟩) _) h0
  ·refine ei.2 (.inr (ei.2 (.inl ?_)));have:j=0∨j=1:=Z8
   simpa using this
 rw[abx,ae,ae,gp] at h;unfold jJ;rw[gp];simpa using h
theorem LU {F:Nat→Nat} {n:Nat} {c:Int} (h:c∈jJ F n): ∃ j:Nat,c=(j:Int)∧2≤j∧j<n∧F j=0:=by
 unfold jJ at h;obtain⟨j,hj,rfl⟩:=fa.1 h;obtain⟨h1,h2⟩:=iw.1 hj;simp only[Bool.and_eq_true,decide_eq_true_eq] at h2;exact⟨j,rfl,h2.1,ace.1 h1,h2.2⟩
theorem NY (F:Nat→Nat) (n:Nat):(jJ F n).Nodup:=by
 unfold jJ;exact aff.2 ((afm.sublist List.filter_sublist).imp fun h e=>h Z8)
def ptF (d:FD) (serial turn:Int):ByteArray:=str (FP.CB (turn+1) serial (d.at'.zip d.aA))
def syF (d:FD) (serial turn:Int):List ByteArray:=bA.land (fun _=>true) 0 (bA.land (fun _=>true) 0 d.cs d.ps) [((turn+1)%2,ptF d serial turn)]
theorem WH {d:FD} {tab:cT} {serial turn:Int} (hL:Lie d tab) (h2:2≤d.cs.length) (hs:0≤serial∧serial≤2147483647) (ht: -1≤turn∧turn<2147483647): ∃ F,asX d serial turn (ptF d serial turn) (syF d serial turn) F∧d.cs.length≤F.length+(2+9*NV d.at')∧ ∀ d':FD,d'.cs=syF d serial turn→d'.ps=[]→d'.at'=d.at'→d'.aA=d.aA→Lie d' tab∧Room d' F∧2≤d'.cs.length:=by
 have hP:FP.aqY (turn+1) serial:=⟨hs.1,hs.2,Z8,Z8⟩;have hm:=hL.map;have zn:=LR hL.mM;have zm:(bA.land (fun _=>true) 0 d.cs d.ps).length=d.cs.length:=bA.rL ..;have zh:(d.at'.zip d.aA).length=48:=by rw[List.length_zip,hm.1,hm.2.1];rfl
 have hpt:(ptF d serial turn).size≤1024:=by
  have h1:=(lH.BQ (FP.MX zh hP)).2.2.2;unfold ptF FP.CB;rw[cZ,lH.JN];omega
 have hc:0≤(turn+1)%2∧(turn+1)%2<2:=Z8
 have zl:bA.Good (bA.land (fun _=>true) 0 d.cs d.ps) [((turn+1)%2,ptF d serial turn)]:=
  ⟨zn.n0,zn.n1,zn.cells,fun p hp=>by rw[eh] at hp;subst hp;exact xL.2 ⟨hc.1,by rw[zm];dsimp only;omega,hpt⟩,Ja⟩
 have zt:=LR zl;have zr:(syF d serial turn).length=d.cs.length:=by unfold syF;rw[bA.rL,zm]
 have zy: ∀ p:Int×Int,bV (syF d serial turn) [] p=bV d.cs d.ps p:=fun p=>by
  by_cases h0:p.1<2
  ·unfold bV;rw[Jg (.inl h0),Jg (.inl h0)]
  ·refine SG zr ?_;unfold syF;rw[ahF 0 _ (fun q hq=>by rw[eh] at hq;subst hq;exact⟨hc.1,by rw[zm];dsimp only;omega⟩)];have:=adB (cs:=bA.land (fun _=>true) 0 d.cs d.ps) (ps:=[]) (a:=(turn+1)%2) (b:=((p.1.toNat:Nat):Int)) (t:=ptF d serial turn);rw[dz] at this;rw[this,Jf Z8];exact ahF 0 _ (bA.aqU hL.mM)
 have zw: ∀ p g n,nY (syF d serial turn) [] p g n=nY d.cs d.ps p g n:=fun p g n=>by unfold nY;rw[zy]
 have zx: ∀ n k p,iW (syF d serial turn) [] n k p=iW d.cs d.ps n k p:=fun n k p=>by unfold iW;rw[zy]
 have zv: ∀ n:Nat,n<48→ ∀ p,d.at'[n]? =some p→p.1≠0→ ∃ y,tab n=some y:=fun n hn p hp h0=>by
  cases hy:tab n with
  |some y=>exact⟨y,rfl⟩
  |none=>
   have:=hL.none n hn hy;rw[hp] at this;cases this;exact absurd rfl h0
 obtain⟨L,k1,k2,k3⟩:=apL (cs:=syF d serial turn) (ps:=[]) d.at' d.aA 0 (by rw[hm.1,hm.2.1]) fun j p g hp hg h0=>by
  have hj:j<48:=by have:=(aj.1 hp).1;have:=hm.1;omega
  obtain⟨y,hy⟩:=zv j hj p hp h0;obtain⟨l,hl⟩:=hL.some j y hy;obtain⟨p',g',e1,e2,e3,e4⟩:=hl.told.ex;rw[hp] at e1;cases e1;rw[hg] at e2;cases e2;rw[dj];refine⟨l,by rw[zw];exact e4,by have:=hl.data.1;have:=hl.small;unfold aQ at*;omega,fun k q hq zq=> ?_⟩;rw[zx];obtain⟨s,hs⟩: ∃ s,y.parts[k]? =some s:=⟨_,ak (by have:=(aj.1 hq).1;have:=hl.data.2.1;omega)⟩;rcases hl.data.2.2 k q s hq hs with⟨h,_⟩|⟨_,_,t,h,_⟩
  ·exact absurd h zq
  ·rw[h]
 have zk:AS (syF d serial turn) [] d.at' d.aA L:=⟨zt,hm,k1⟩;refine⟨jJ (cC (fun _=>0) L) (syF d serial turn).length,⟨rfl,FQ hm,hm,hP,ht.1,bA.vN hL.mM,IF (q:=[]) zl,bA.vN zl,rfl,by rw[zr];exact h2,L,zk,rfl⟩, ?_,fun d' h1 h3 h4 h5=> ?_⟩
 ·have:=WG (L:=L) (n:=(syF d serial turn).length);rw[zr] at this ⊢;omega
 ·have zu:Lie d' tab:=by
   refine⟨by rw[h1,h3];exact zt,by rw[h4,h5];exact hm,fun n hn h=>by rw[h4];exact hL.none n hn h,fun n y hy=> ?_⟩;obtain⟨l,hl⟩:=hL.some n y hy;obtain⟨p,g,e1,e2,e3,e4⟩:=hl.told.ex;refine⟨l,⟨by rw[h1,h3];exact zt,by rw[h4,h5];exact hm,hl.told.lt,p,g,by rw[h4];exact e1,by rw[h5];exact e2,e3,by rw[h1,h3,zw];exact e4⟩,hl.kind,hl.gen,hl.size,hl.small,hl.data.1,hl.data.2.1,fun k q s hq hs=> ?_⟩;rcases hl.data.2.2 k q s hq hs with h|⟨h,h6,t,h7,h8⟩
   ·exact .inl h
   ·exact .inr ⟨h,h6,t,by rw[h1,h3,zx];exact h7,h8⟩
  refine⟨zu,⟨NY _ _,fun c hc=> ?_,fun c hc zg=> ?_, ?_⟩,by rw[h1,zr];exact h2⟩
  ·obtain⟨j,rfl,j2,j3,_⟩:=LU hc;rw[h1];omega
  ·obtain⟨j,rfl,j2,j3,j4⟩:=LU hc;obtain⟨n,p,g,l,e1,e2,e3,e4,e5⟩:=zg;rw[h4] at e1;rw[h5] at e2;rw[h1,h3] at e4;have k4:=k3 n p g l e1 e2 e3 (by rw[dj];exact e4);have hn:n<48:=by have:=(aj.1 e1).1;have:=hm.1;omega
   rcases e5 with e5|⟨q,hq,e5⟩
   ·have h9:=WD k4.1 fun _=>0
    dsimp only at h9;rw[e5,dc,j4] at h9;have:=(mF e4).2.2.2.1.1;omega
   ·obtain⟨k,hk,rfl⟩:=afa hq;have zq:(pI l)[k].1≠0:=Z8
    have h9:=WD (k4.2 k _ (ak hk) zq) fun _=>0
    dsimp only at h9;rw[e5,dc,j4] at h9;obtain⟨y,hy⟩:=zv n hn p e1 e3;obtain⟨l',zj⟩:=zu.some n y hy;obtain⟨p',g',f1,f2,f3,f4⟩:=zj.told.ex;rw[h4,e1] at f1;cases f1;rw[h5,e2] at f2;cases f2;rw[h1,h3,e4] at f4;cases f4;obtain⟨s,hs⟩: ∃ s,y.parts[k]? =some s:=⟨_,ak (by have:=zj.data.2.1;omega)⟩;rcases zj.data.2.2 k _ s (ak hk) hs with⟨h,_⟩|⟨_,_,t,h,hr⟩
    ·exact zq h
    ·rw[h1,h3] at h;rw[dj,h] at h9;have:=mf.2 (mI.abH hr).1;dsimp only at h9;omega
  ·rw[h3,gr];have:=zG (cC (fun _=>0) L) (syF d serial turn).length;have:=zt.n1;unfold syF at*;omega
end fs
namespace fs
open use cK dZ cO file
def mvP (cs:Cells) (ps:cH) (V:Int→Bool) (n k:Nat) (p:Int×Int):tF:=if V p.1=true then ⟨p,(iW cs ps (n:Int) (k:Int) p).1,true⟩ else ⟨p,[],false⟩
def IU (cs:Cells) (ps:cH) (V:Int→Bool) (n:Nat):List (Int×Int)→Nat→List tF
 |[],_=>[]
 |p::t,k=>mvP cs ps V n k p::IU cs ps V n t (k+1)
theorem alC (cs:Cells) (ps:cH) (V:Int→Bool) (n:Nat): ∀ (t:List (Int×Int)) (k:Nat),(IU cs ps V n t k).length=t.length
 |[],_=>rfl
 |p::t,k=>by rw[IU,dv,dv,alC cs ps V n t]
theorem aeQ {cs:Cells} {ps:cH} {V:Int→Bool} {n:Nat}: ∀ {t:List (Int×Int)} {k i:Nat},(IU cs ps V n t k)[i]? =(t[i]?).map (mvP cs ps V n (k+i))
 |[],k,i=>by simp [IU]
 |p::t,k,0=>rfl
 |p::t,k,i+1=>by
  rw[IU,afd,afd,aeQ,show k+1+i=k+(i+1) from by omega]
theorem abU {cs:Cells} {ps:cH} {V:Int→Bool} {n:Nat}: ∀ {t:List (Int×Int)} {i:Nat} {p:Int×Int} {k:Nat},t[i]? =some p→IU cs ps V n (t.take (i+1)) k=IU cs ps V n (t.take i) k++[mvP cs ps V n (k+i) p]
 |[],i,p,k,h=>by simp at h
 |q::t,0,p,k,h=>by cases h;rfl
 |q::t,i+1,p,k,h=>by
  have:=abU (cs:=cs) (ps:=ps) (V:=V) (n:=n) (k:=k+1) (show t[i]? =some p from by simpa using h);rw[aas,IU,this,aas,IU,dw,show k+1+i=k+(i+1) from by omega]
def mvd (V:Int→Bool) (p:Int×Int) (t:List (Int×Int)):Bool:=V p.1||t.any fun q=>V q.1
theorem aIM {V:Int→Bool} {p:Int×Int} {t:List (Int×Int)} {i:Nat} {q:Int×Int} (h:t[i]? =some q):mvd V p (t.take (i+1))=(mvd V p (t.take i)||V q.1):=by
 unfold mvd;rw[ib,h,List.any_append,Bool.or_assoc];simp
structure MvC (d:FD) (V:Int→Bool) (n:Nat) (c:kQ):Prop where
 ino:c.ino=(n:Int)
 gone:c.gone=false
 ex: ∃ p g l,d.at'[n]? =some p∧d.aA[n]? =some g∧p.1≠0∧nY d.cs d.ps p g (n:Int)=some l∧mvd V p (pI l)=true∧c.k=kI l∧c.g=gI l∧c.z=zI l∧c.parts=IU d.cs d.ps V n (pI l) 0
structure WJ (d:FD) (V:Int→Bool) (i:Nat) (out:List kQ):Prop where
 one: ∀ c∈out, ∃ n,n<i∧MvC d V n c
 up:(out.map (·.ino)).Pairwise (· < ·)
 all: ∀ n p g l,n<i→d.at'[n]? =some p→d.aA[n]? =some g→p.1≠0→nY d.cs d.ps p g (n:Int)=some l→mvd V p (pI l)=true→ ∃ c∈out,c.ino=(n:Int)
theorem aIN (d:FD) (V:Int→Bool):WJ d V 0 []:=⟨fun c h=>absurd h ck,List.Pairwise.nil,fun n p g l h=>Z8⟩
theorem aNP {d:FD} {V:Int→Bool} {i:Nat} {out:List kQ} (h:WJ d V i out) (hn: ∀ p g l,d.at'[i]? =some p→d.aA[i]? =some g→p.1≠0→nY d.cs d.ps p g (i:Int)=some l→mvd V p (pI l)=false):WJ d V (i+1) out:=
 ⟨fun c hc => by obtain ⟨n, h1, h2⟩ := h.one c hc; exact ⟨n, Z8, h2⟩, h.up, fun n p g l hlt h1 h2 h3 h4 h5 => by
  by_cases e:n=i
  ·subst e;rw[hn p g l h1 h2 h3 h4] at h5;cases h5
  ·exact h.all n p g l Z8 h1 h2 h3 h4 h5⟩
theorem aSE {d:FD} {V:Int→Bool} {i:Nat} {out:List kQ} (h:WJ d V i out) {c:kQ} (hc:MvC d V i c):WJ d V (i+1) (out++[c]):=by
 refine⟨fun x hx=> ?_, ?_,fun n p g l hlt h1 h2 h3 h4 h5=> ?_⟩
 ·rcases ei.1 hx with hx|hx
  ·obtain⟨n,h1,h2⟩:=h.one x hx;exact⟨n,Z8,h2⟩
  ·rw[eh] at hx;subst hx;exact⟨i,Z8,hc⟩
 ·rw[ads,List.pairwise_append];refine⟨h.up,List.pairwise_singleton ..,fun a ha b hb=> ?_⟩;obtain⟨x,hx,rfl⟩:=fa.1 ha;obtain⟨n,h1,h2⟩:=h.one x hx;simp only[gd,gu,eh] at hb;rw[hb,hc.ino,h2.ino];omega
 ·by_cases e:n=i
  ·exact⟨c,ei.2 (.inr bu),by rw[hc.ino,e]⟩
  ·obtain⟨x,h6,h7⟩:=h.all n p g l Z8 h1 h2 h3 h4 h5;exact⟨x,ei.2 (.inl h6),h7⟩
theorem TV {d:FD} {V:Int→Bool} {i:Nat} {out:List kQ} (h:WJ d V i out):out.length≤i:=by
 have h0: ∀ c∈out,0≤c.ino∧c.ino<(i:Int):=fun c hc=>by
  obtain⟨n,h1,h2⟩:=h.one c hc;rw[h2.ino];omega
 have := aeP (l := out.map fun c => c.ino.toNat) (S := mn i) (aff.2 (List.Pairwise.imp_of_mem (fun ha hb h1 e => by
  have := h0 _ ha;have := h0 _ hb;omega) (aff.1 h.up))) fun x hx => by
   obtain⟨c,hc,rfl⟩:=fa.1 hx;have:=h0 c hc;exact ace.2 Z8
 rwa [gp,abx] at this
theorem aSF {d:FD} {tab:cT} (hL:Lie d tab) (hS:Shut tab) {V:Int→Bool} (hV:V 0=false) {out:List kQ} (h:WJ d V 48 out):oP d tab out tab∧ ∀ y∈out,lW y:=by
 have key: ∀ c∈out, ∃ n y,UZ d c n y∧tab n=some y∧lW c:=fun c hc=>by
  obtain⟨n,hn,hm⟩:=h.one c hc;obtain⟨p,g,l,h1,h2,h3,h4,h5,k1,k2,k3,k4⟩:=hm.ex;obtain⟨y,hy⟩: ∃ y,tab n=some y:=by
   cases hy:tab n with
   |some y=>exact⟨y,rfl⟩
   |none=>
    have:=hL.none n hn hy;rw[h1] at this;cases this;exact absurd rfl h3
  obtain⟨l',zy⟩:=hL.some n y hy;obtain⟨p',g',f1,f2,f3,f4⟩:=zy.told.ex;rw[h1] at f1;cases f1;rw[h2] at f2;cases f2;rw[h4] at f4;cases f4;have zu:=(mF h4).2.2.2.2.1;have hlen:c.parts.length=(pI l).length:=by rw[k4,alC]
  have hd:=zy.data;refine⟨n,y,⟨hm.ino,hn,by rw[k2,zu];exact h2,by rw[k1];exact zy.kind,by rw[k2];exact zy.gen,by rw[k3];exact zy.size,hS.kinds n y hy,zy.small,by rw[hlen];exact hd.1,by rw[hd.2.1];exact hd.1,fun i q t hq ht=> ?_⟩,hy,⟨by rw[hm.ino];omega,by rw[hlen,hd.1];have:=zy.small;unfold aQ;omega,fun q hq hf=> ?_⟩⟩
  ·rw[k4,aeQ] at hq;obtain⟨q0,zx,rfl⟩:=dh.1 hq;rw[dj];have zw:=hd.2.2 i q0 t zx ht;unfold mvP;by_cases hv:V q0.1=true
   ·rw[Jg hv];refine .inl ⟨rfl, ?_⟩;rcases zw with⟨h6,_⟩|⟨_,h7,u,h8,h9⟩
    ·rw[h6,hV] at hv;cases hv
    ·dsimp only;rw[h8];exact⟨h7,h9⟩
   ·rw[Jf hv];refine .inr ⟨rfl,zw,xM (mF h4).2.2.2.1 _ (jg zx), ?_⟩;exact .inr ⟨n,p,g,l,h1,h2,h3,h4, .inr ⟨q0,jg zx,rfl⟩⟩
  ·obtain⟨i,hi,rfl⟩:=afa hq;have zv:=ak hi;rw[show c.parts[i]? =(IU d.cs d.ps V n (pI l) 0)[i]? from by rw[k4],aeQ] at zv;obtain⟨q0,_,e⟩:=dh.1 zv;rw[←e];unfold mvP;split
   ·exact JW _ _ _ _ _
   ·exact fe _
 refine⟨⟨?_,fun x hx hg=> ?_,fun x hx _=> ?_,fun n _=>rfl⟩,fun y hy=> ?_⟩
 ·exact h.up.imp fun h e=>Z8
 ·obtain⟨n,_,hm⟩:=h.one x hx;rw[hm.gone] at hg;cases hg
 ·obtain⟨n,y,h1,h2,_⟩:=key x hx;exact⟨n,y,h1,h2⟩
 ·obtain⟨n,z,_,_,h3⟩:=key y hy;exact h3
end fs
namespace use
open dZ cO cK
def szP (cs:Cells) (ps:cH) (p:Int×Int):Item:=(p.1,(bV cs ps p).1.2.2.2.length)
theorem azP {cs:Cells} {ps:cH} {n:Int}: ∀ (t:List (Int×Int)) (k:Nat) (L:List Item),fQ cs ps n t k=some L→ ∃ D:List (Int×Int),L=D.map (szP cs ps)∧(∀ p∈D,(bV cs ps p).2=0∧(bV cs ps p).1.1=1∧(bV cs ps p).1.2.1=n∧(k:Int)≤(bV cs ps p).1.2.2.1)∧D.Nodup:=by
 intro t;induction t with
 |nil=>intro k L h;rw[fQ] at h;cases h;exact⟨[],rfl,fun p hp=>absurd hp ck,afh⟩
 |cons p t ih=>
  intro k L h;rw[fQ] at h;split at h
  ·obtain⟨D,h1,h2,h3⟩:=ih _ L h;exact⟨D,h1,fun q hq=>by obtain⟨a,b,c,d⟩:=h2 q hq;exact⟨a,b,c,Z8⟩,h3⟩
  ·split at h
   ·rename_i h1 h2;obtain⟨L2,e1,e2⟩:=dh.1 h;subst e2;obtain⟨D,d1,d2,d3⟩:=ih _ L2 e1;obtain⟨a1,a2,a3,a4,a5⟩:=acT h2;refine⟨p::D, ?_,fun q hq=> ?_,afe.2 ⟨fun hm=> ?_,d3⟩⟩
    ·rw[gd,d1,a5];rfl
    ·rcases al.1 hq with rfl|hq
     ·exact⟨a1,a2,a3,Z8⟩
     ·obtain⟨a,b,c,d⟩:=d2 q hq;exact⟨a,b,c,Z8⟩
    ·have:=(d2 p hm).2.2.2;omega
   ·cases h
theorem aNW {cs:Cells} {ps:cH}: ∀ (at':List (Int×Int)) (aA:List Int) (n:Nat) (L:List Item),its cs ps at' aA n=some L→ ∃ D:List (Int×Int),L=D.map (szP cs ps)∧(∀ p∈D,(bV cs ps p).2=0∧(n:Int)≤(bV cs ps p).1.2.1)∧D.Nodup:=by
 intro at';induction at' with
 |nil=>intro aA n L h;rw[PB] at h;cases h;exact⟨[],rfl,fun p hp=>absurd hp ck,afh⟩
 |cons p at' ih=>
  intro aA n L h;cases aA with
  |nil=>rw[agX] at h;cases h;exact⟨[],rfl,fun p hp=>absurd hp ck,afh⟩
  |cons g aA=>
   rw[its] at h;split at h
   ·cases h
   ·rename_i a ha;obtain⟨L2,e1,e2⟩:=dh.1 h;subst e2;obtain⟨D,d1,d2,d3⟩:=ih aA _ L2 e1;obtain⟨D0,c1,c2,c3⟩: ∃ D0:List (Int×Int),a=D0.map (szP cs ps)∧(∀ q∈D0,(bV cs ps q).2=0∧(bV cs ps q).1.2.1=(n:Int))∧D0.Nodup:=by
     unfold FH at ha;split at ha
     ·cases ha;exact⟨[],rfl,fun p hp=>absurd hp ck,afh⟩
     ·split at ha
      ·cases ha
      ·rename_i l hl;obtain⟨L3,e3,e4⟩:=dh.1 ha;obtain⟨i1,i2,i3,i4,i5,i6,i7⟩:=mF hl;obtain⟨D1,f1,f2,f3⟩:=azP _ _ L3 e3;refine⟨p::D1, ?_,fun q hq=> ?_,afe.2 ⟨fun hm=> ?_,f3⟩⟩
       ·rw[←e4,gd,f1, ←i6];rfl
       ·rcases al.1 hq with rfl|hq
        ·exact⟨i1,i3⟩
        ·exact⟨(f2 q hq).1,(f2 q hq).2.2.1⟩
       ·have:=(f2 p hm).2.1;omega
    refine⟨D0++D, ?_,fun q hq=> ?_,afl.2 ⟨c3,d3,fun x hx y hy e=> ?_⟩⟩
    ·rw[ads,c1,d1]
    ·rcases ei.1 hq with hq|hq
     ·obtain⟨a1,a2⟩:=c2 q hq;exact⟨a1,Z8⟩
     ·obtain⟨a1,a2⟩:=d2 q hq;exact⟨a1,Z8⟩
    ·subst e;have h1:=(c2 x hx).2;have h2:=(d2 x hy).2;omega
theorem WN: ∀ (L:List Item) (F:Nat→Nat) (j:Nat),cC F L j=F j+qI (L.filter fun x=>x.1.toNat==j)
 |[],F,j=>rfl
 |x::L,F,j=>by
  rw[cC,WN L,List.filter_cons];by_cases h:x.1.toNat=j
  ·subst h;rw[oZ,Jg Ja,qI];omega
  ·rw[vO _ _ (fun e=>h e.symm),Jf Z6]
theorem WO (f:Nat→Nat): ∀ (m:Nat) (I:List Nat),I.Nodup→(∀ i∈I,i<m)→(I.map f).sum≤((mn m).map f).sum
 |0,[],_,_=>df _
 |0,a::I,_,h=>absurd (h a bu) (Nat.not_lt_zero _)
 |m+1,I,hn,h=>by
  rw[aec,ads,List.sum_append];by_cases hm:m∈I
  ·have e:=((List.perm_cons_erase hm).map f).sum_nat;have ih:=WO f m (I.erase m) (hn.erase m) fun i hi=>by
    have h1:=hn.mem_erase_iff.1 hi;have h2:=h i h1.2;have h3:=h1.1;omega
   rw[e];simp only[gd,gu,afk,List.sum_nil];omega
  ·have ih:=WO f m I hn fun i hi=>by
    have h2:=h i hi;have h3:i≠m:=fun e=>hm (e ▸ hi)
    omega
   omega
theorem atA {cs:Cells} {ps:cH} {p:Int×Int} (h:(bV cs ps p).2=0):(2≤p.1∧0≤p.2)∧ ∃ n zs b,oK cs ps p.1.toNat=some (n,zs,b)∧p.2.toNat<zs.length∧(bV cs ps p).1=zs.getD p.2.toNat zBl:=by
 have h0:=FG h;unfold bV at h ⊢;split at h
 ·cases h
 ·next h1=>
  rw[Jf h1];split at h
  ·cases h
  ·rename_i r hr;rw[hr];split at h
   ·cases h
   ·next h2=>
    obtain⟨n,zs,b⟩:=r;dsimp only at h2 ⊢;rw[Jf h2];exact⟨⟨h0.1,h0.2.2⟩,n,zs,b,rfl,Z8,rfl⟩
theorem alI: ∀ zs:List bU,(zs.map fun p=>p.2.2.2.length).sum≤(bW zs).length
 |[]=>df _
 |p::zs=>by
  have ih:=alI zs;rw[show bW (p::zs)=jW p++bW zs from rfl,ae,gd,afk];unfold jW;rw[ae];omega
theorem aNX {cs:Cells} {ps:cH} {k:Nat} {n:Int} {zs:List bU} {b:Bool} (h:oK cs ps k=some (n,zs,b)):((mn zs.length).map fun i=>(zs.getD i zBl).2.2.2.length).sum≤1000:=by
 have e:((mn zs.length).map fun i=>(zs.getD i zBl).2.2.2.length)=zs.map fun p=>p.2.2.2.length:=by
  refine List.ext_getElem Ja fun i h1 h2=> ?_
  have hi:i<zs.length:=by simpa using h2
  simp [List.getD_eq_getElem?_getD,ak hi]
 rw[e];unfold oK at h;split at h
 ·obtain⟨zs',h1,h2⟩:=dh.1 h;simp only[Prod.mk.injEq] at h2;obtain⟨_,rfl,_⟩:=h2;have:=(mZ (vM h1).1).2.2;have:=alI zs';omega
 ·cases h
theorem alJ {cs:Cells} {ps:cH} {j:Nat} {zs:List bU} {n:Int} {b:Bool} (hl:oK cs ps j=some (n,zs,b)): ∀ E:List (Int×Int),(∀ p∈E,(bV cs ps p).2=0∧p.1.toNat=j)→qI (E.map (szP cs ps))=((E.map fun p=>p.2.toNat).map fun i=>(zs.getD i zBl).2.2.2.length).sum∧ ∀ p∈E,p.1=(j:Int)∧0≤p.2∧p.2.toNat<zs.length
 |[],_=>⟨rfl,fun p hp=>absurd hp ck⟩
 |p::E,h=>by
  obtain⟨ih1,ih2⟩:=alJ hl E fun q hq=>h q (a8 _ hq)
  obtain⟨h1,h2⟩:=h p bu;obtain⟨⟨k1,k2⟩,n',zs',b',k3,k4,k5⟩:=atA h1;rw[h2,hl] at k3;cases k3;refine⟨?_,fun q hq=> ?_⟩
  ·rw[gd,qI,ih1,gd,gd,afk, ←k5];rfl
  ·rcases al.1 hq with rfl|hq
   ·exact⟨Z8,k2,k4⟩
   ·exact ih2 q hq
theorem aNY {cs:Cells} {ps:cH} {at':List (Int×Int)} {aA:List Int} {L:List Item} (h:AS cs ps at' aA L) (j:Nat):cC (fun _=>0) L j≤1000:=by
 obtain⟨_,_,h⟩:=h;obtain⟨D,rfl,h2,h3⟩:=aNW _ _ _ _ h;rw[WN,dj,List.filter_map];have zx:(D.filter ((fun x:Item=>x.1.toNat==j) ∘ szP cs ps)).Nodup:=List.Pairwise.filter _ h3;have zy: ∀ p∈D.filter ((fun x:Item=>x.1.toNat==j) ∘ szP cs ps),(bV cs ps p).2=0∧p.1.toNat=j:=fun p hp=>by
  obtain⟨h4,h5⟩:=iw.1 hp;exact⟨(h2 p h4).1,by simpa [szP] using h5⟩
 generalize D.filter ((fun x:Item=>x.1.toNat==j) ∘ szP cs ps)=E at*;cases E with
 |nil=>exact fe _
 |cons p E=>
  obtain⟨k1,k2⟩:=zy p bu;obtain⟨_,n,zs,b,k3,_,_⟩:=atA k1;rw[k2] at k3;obtain⟨t1,t2⟩:=alJ k3 (p::E) zy;rw[t1];refine gm (WO _ zs.length _ ?_ fun i hi=> ?_) (aNX k3)
  ·refine aff.2 (zx.imp_of_mem fun {a c} ha hc zw e=>zw ?_);have h5:=t2 a ha;have h6:=t2 c hc;refine Prod.ext Z8 Z8
  ·obtain⟨q,hq,rfl⟩:=fa.1 hi;exact (t2 q hq).2.2
end use
namespace XS
open use fs
abbrev St:=List ByteArray×List (Int×ByteArray)
def step1 (s:St) (o:RX):Option St:=
 if o.1=1 then (if bR s.1 s.2 o.2.1 o.2.2=0 then some (s.1,s.2++[(o.2.1,o.2.2)]) else none)
 else if o.1=2∧o.2.1=0∧o.2.2=⟨#[]⟩ then some (land (fun _=>true) 0 s.1 s.2,[]) else none
def pV:St→List RX→Option St
 |s,[]=>some s
 |s,o::l=>match step1 s o with
  |none=>none
  |some t=>pV t l
theorem WQ: ∀ (l m:List RX) (s:St),pV s (l++m)=(pV s l).bind fun t=>pV t m
 |[],m,s=>rfl
 |o::l,m,s=>by
  rw[dw,pV,pV];cases step1 s o with
  |none=>rfl
  |some t=>exact WQ l m t
theorem azU {s u:St} {l:List RX} (h:pV s l=some u) {k:Nat} {o:RX} (ho:l[k]? =some o) {t:St} (ht:pV s (l.take k)=some t): ∃ t',step1 t o=some t'∧pV s (l.take (k+1))=some t':=by
 have e:l=l.take k++o::l.drop (k+1):=by
  obtain⟨h1,h2⟩:=aj.1 ho;rw[←h2, ←bh h1,gl]
 rw[e,WQ,ht] at h;dsimp only[afo] at h;rw[pV] at h;cases hs:step1 t o with
 |none=>rw[hs] at h;cases h
 |some t'=>
  refine⟨t',rfl, ?_⟩;rw[ib,ho,WQ,ht];dsimp only[afo,Option.toList_some];rw[pV,hs];rfl
theorem alL {cs:List ByteArray} {ps:List (Int×ByteArray)} {at':Int} {t:ByteArray} (hg:bA.Good cs ps) (h:bR cs ps at' t=0):bA.Good cs (ps++[(at',t)]):=by
 unfold bR at h;rw[Jf (by simp [vN hg])] at h;split at h
 ·next h1=>exact absurd h h1
 ·next h1=>
  split at h
  ·cases h
  ·next h2=>
   have:=hg.wait;refine⟨hg.n0,hg.n1,hg.cells,fun p hp=> ?_,by rw[ae,List.length_singleton];omega⟩;rcases ei.1 hp with hp|hp
   ·exact hg.agT p hp
   ·rw[eh] at hp;subst hp;exact aab.1 h1
theorem qX {s t:St} {o:RX} (hg:bA.Good s.1 s.2) (h:step1 s o=some t):bA.Good t.1 t.2:=by
 unfold step1 at h;split at h
 ·split at h
  ·next hw=>cases h;exact alL hg hw
  ·cases h
 ·split at h
  ·cases h;exact LR hg
  ·cases h
attribute [local irreducible] box own sl bL aH bJ Qt cN cM dG dL eQ
theorem aIY (a w:Option Addr) (ca cw:Nat) {cs:List ByteArray} {ps:List (Int×ByteArray)} (hg:bA.Good cs ps) {at':Int} {text:ByteArray} (h:bR cs ps at' text=0):Ct lk 101 [.agg #[.slice a cs.length ca, .slice w ps.length cw], .int .i64 at', .string text] [sl 1 (.slice a cs.length ca) (cs.map fS),sl 2 (.slice w ps.length cw) (ps.map fP)] fun v H'=> ∃ qa ca qw cw,v= .tuple #[.agg #[.slice qa cs.length ca, .slice qw (ps++[(at',text)]).length cw], .int .i64 0]∧H'=[own (.slice qa cs.length ca) 9 1 cs.length (flat fS cs),own (.slice qw (ps++[(at',text)]).length cw) 130 2 (ps++[(at',text)]).length (flat fP (ps++[(at',text)]))]:=
 bY (kJ a w ca cw cs ps at' text (by have:=hg.n1;unfold maxLen;omega) (by have:=hg.wait;unfold maxLen;omega)) fun v H' hr=>by
  rcases hr with⟨h1,_⟩|⟨_,h1⟩
  ·exact absurd h h1
  ·exact h1
theorem aIZ (a w:Option Addr) (ca cw:Nat) {cs:List ByteArray} {ps:List (Int×ByteArray)} (hg:bA.Good cs ps):Ct lk 102 [.agg #[.slice a cs.length ca, .slice w ps.length cw]] [sl 1 (.slice a cs.length ca) (cs.map fS),sl 2 (.slice w ps.length cw) (ps.map fP)] fun v H'=> ∃ qa ca,v= .tuple #[.agg #[.slice qa (land (fun _=>true) 0 cs ps).length ca, .slice none 0 0], .int .i64 0]∧H'=[own (.slice qa (land (fun _=>true) 0 cs ps).length ca) 9 1 (land (fun _=>true) 0 cs ps).length (flat fS (land (fun _=>true) 0 cs ps))]:=
 bY (ahE a w ca cw cs ps (by have:=hg.n1;unfold maxLen;omega) (by have:=hg.wait;unfold maxLen;omega)) fun v H' hr=>by
  rcases hr with⟨h1,_⟩|⟨_,h1⟩
  ·exact absurd (vN hg) h1
  ·exact h1
structure PSt where
 pk:Nat
 pa:Option Addr
 pca:Nat
 pw:Option Addr
 pcw:Nat
 yA:List ByteArray
 pps:List (Int×ByteArray)
theorem aOD (a w ql:Option Addr) (ca cw cl:Nat) (cs:List ByteArray) (ps:List (Int×ByteArray)) (l:List RX) (hg:bA.Good cs ps) (hl:l.length≤1000000) {cs2:List ByteArray} {ps2:List (Int×ByteArray)} (hp:pV (cs,ps) l=some (cs2,ps2)):
  Ct lk 36 [.agg #[.slice a cs.length ca, .slice w ps.length cw], .slice ql l.length cl] [sl 1 (.slice a cs.length ca) (cs.map fS),sl 2 (.slice w ps.length cw) (ps.map fP),sl 3 (.slice ql l.length cl) (l.map FM)] fun v H'=> ∃ qa ca qw cw,v= .tuple #[.agg #[.slice qa cs2.length ca, .slice qw ps2.length cw], .int .i64 0]∧H'=[own (.slice qa cs2.length ca) 9 1 cs2.length (flat fS cs2),own (.slice qw ps2.length cw) 130 2 ps2.length (flat fP ps2)]:=by
 have hn1:=hg.n1;have hn2:=hg.wait;have CK:=bP a w ca cw cs ps Zl Zl;rw[vN hg] at CK;have hst:pV (cs,ps) (l.take 0)=some (cs,ps):=rfl;have zu:=fun {k:Nat} {o:RX} (ho:l[k]? =some o) {t:St} (ht:pV (cs,ps) (l.take k)=some t)=>azU hp ho ht
 (refine Ye Tryz.func36 Tryz.ntmps36 ?_;intro Fr);(repeat' (first|refine Y2 ?_|(refine Wb ?_;intro b)|(refine Wq ?_;intro q)|refine Wc (CK ..) ?_|(refine Ws ?_ ?_<;>intro h)|refine Wz ?_|fail));(refine aD (Hq:=[_,_,_]) [1,2,3] [] rfl Jd Za ?_);refine dP ?_;(refine aB 2 ?_;refine cD 7 Jd ?_ ?_)
 rotate_left
 ·skip
  (refine Oc (l:=by exact gV rfl) (k:= ?_);rintro _ _ ⟨b7,rfl,rfl⟩;refine Te ?_;(try refine Da ?_));(refine aB 2 ?_;refine Oa (l:=by exact dV rfl rfl rfl Zk Zg Zc rfl Z8 Zi) (k:= ?_);rintro _ _ ⟨qa0,ca0,rfl,rfl⟩;refine Te ?_;(try refine Da ?_));(refine aB 5 ?_;refine Oa (l:=by exact dV rfl rfl rfl Zk Zg Zc rfl Z8 Zi) (k:= ?_);rintro _ _ ⟨qw0,cw0,rfl,rfl⟩;refine Te ?_;(try refine Da ?_));refine dP ?_;(refine aC (σ:=PSt) (fun s=>s.pk≤l.length∧bA.Good s.yA s.pps∧pV (cs,ps) (l.take s.pk)=some (s.yA,s.pps)) (fun s=>[(21, .int .i64 (s.pk:Int)),(6, .int .i64 0)]) (fun s=>[box b7 [.slice s.pa s.yA.length s.pca, .slice s.pw s.pps.length s.pcw] 51,own (.slice s.pa s.yA.length s.pca) 9 1 s.yA.length (flat fS s.yA),own (.slice s.pw s.pps.length s.pcw) 130 2 s.pps.length (flat fP s.pps)]) _ (fun s=>l.length-s.pk) ((⟨0,qa0,ca0,qw0,cw0,cs,ps⟩)) Z1 Ze Zb (fun⟨k,qa1,ca1,qw1,cw1,cs1,ps1⟩ ⟨hk,zx,hpl⟩=> ?_);refine Da ?_);dsimp only at hk zx hpl ⊢;rcases dW l k with⟨o,ho,hlt⟩|zt
  ·obtain⟨t',zy,zv⟩:=zu ho hpl;have zw:=qX zx zy;obtain⟨kd,at',text⟩:=o;unfold step1 at zy;dsimp only at zy;by_cases h1:kd=1
   ·subst h1;rw[Jg rfl] at zy;by_cases hw:bR cs1 ps1 at' text=0
    ·rw[Jg hw] at zy;cases zy;have W1:=aIY qa1 qw1 ca1 cw1 zx hw;dsimp only at zw;(refine bD ?_;intro b);(refine Ca (W1) ?_;rintro _ _ ⟨_,⟨qa3,ca3,qw3,cw3,rfl,rfl⟩,rfl⟩;refine Da ?_);refine aF ?_;refine Ee ((⟨k+1,qa3,ca3,qw3,cw3,cs1,ps1++[(at',text)]⟩:PSt)) ?_ ?_
     ·exact⟨hlt,zw,zv⟩
     ·dsimp only;omega
    ·rw[Jf hw] at zy;cases zy
   ·rw[Jf h1] at zy;by_cases h2:kd=2∧at'=0∧text=⟨#[]⟩
    ·rw[Jg h2] at zy;cases zy;obtain⟨rfl,rfl,rfl⟩:=h2;have S1:=aIZ qa1 qw1 ca1 cw1 zx;dsimp only at zw;(refine bD ?_;intro b);(refine Ca (S1) ?_;rintro _ _ ⟨_,⟨qa3,ca3,rfl,rfl⟩,rfl⟩;refine Da ?_);refine aF ?_;refine Ee ((⟨k+1,qa3,ca3,none,0,land (fun _=>true) 0 cs1 ps1,[]⟩:PSt)) ?_ ?_
     ·exact⟨hlt,zw,zv⟩
     ·dsimp only;omega
    ·rw[Jf h2] at zy;cases zy
  ·obtain rfl:k=l.length:=Z8
   rw[mz,hp] at hpl;cases hpl;refine aF ?_;exact Ea (x:=⟨_,_,_,_,rfl,rfl⟩)
 ·(refine Oc (l:=by exact dV rfl rfl rfl Zk Zg Zc rfl Z8 Zi) (k:= ?_);rintro _ _ ⟨qa0,ca0,rfl,rfl⟩;refine Te ?_;(try refine Da ?_));(refine aB 5 ?_;refine cD 7 Jd ?_ ?_)
  ·(refine Oc (l:=by exact dV rfl rfl rfl Zk Zg Zc rfl Z8 Zi) (k:= ?_);rintro _ _ ⟨qw0,cw0,rfl,rfl⟩;refine Te ?_;(try refine Da ?_));(refine auG ?_;intro b);revert b;intro b7;(refine aC (σ:=PSt) (fun s=>s.pk≤l.length∧bA.Good s.yA s.pps∧pV (cs,ps) (l.take s.pk)=some (s.yA,s.pps)) (fun s=>[(21, .int .i64 (s.pk:Int)),(6, .int .i64 0)]) (fun s=>[box b7 [.slice s.pa s.yA.length s.pca, .slice s.pw s.pps.length s.pcw] 51,own (.slice s.pa s.yA.length s.pca) 9 1 s.yA.length (flat fS s.yA),own (.slice s.pw s.pps.length s.pcw) 130 2 s.pps.length (flat fP s.pps)]) _ (fun s=>l.length-s.pk) ((⟨0,qa0,ca0,qw0,cw0,cs,ps⟩)) Z1 Ze Zb (fun⟨k,qa1,ca1,qw1,cw1,cs1,ps1⟩ ⟨hk,zx,hpl⟩=> ?_);refine Da ?_);dsimp only at hk zx hpl ⊢;rcases dW l k with⟨o,ho,hlt⟩|zt
   ·obtain⟨t',zy,zv⟩:=zu ho hpl;have zw:=qX zx zy;obtain⟨kd,at',text⟩:=o;unfold step1 at zy;dsimp only at zy;by_cases h1:kd=1
    ·subst h1;rw[Jg rfl] at zy;by_cases hw:bR cs1 ps1 at' text=0
     ·rw[Jg hw] at zy;cases zy;have W1:=aIY qa1 qw1 ca1 cw1 zx hw;dsimp only at zw;(refine bD ?_;intro b);(refine Ca (W1) ?_;rintro _ _ ⟨_,⟨qa3,ca3,qw3,cw3,rfl,rfl⟩,rfl⟩;refine Da ?_);refine aF ?_;refine Ee ((⟨k+1,qa3,ca3,qw3,cw3,cs1,ps1++[(at',text)]⟩:PSt)) ?_ ?_
      ·exact⟨hlt,zw,zv⟩
      ·dsimp only;omega
     ·rw[Jf hw] at zy;cases zy
    ·rw[Jf h1] at zy;by_cases h2:kd=2∧at'=0∧text=⟨#[]⟩
     ·rw[Jg h2] at zy;cases zy;obtain⟨rfl,rfl,rfl⟩:=h2;have S1:=aIZ qa1 qw1 ca1 cw1 zx;dsimp only at zw;(refine bD ?_;intro b);(refine Ca (S1) ?_;rintro _ _ ⟨_,⟨qa3,ca3,rfl,rfl⟩,rfl⟩;refine Da ?_);refine aF ?_;refine Ee ((⟨k+1,qa3,ca3,none,0,land (fun _=>true) 0 cs1 ps1,[]⟩:PSt)) ?_ ?_
      ·exact⟨hlt,zw,zv⟩
      ·dsimp only;omega
     ·rw[Jf h2] at zy;cases zy
   ·obtain rfl:k=l.length:=Z8
    rw[mz,hp] at hpl;cases hpl;refine aF ?_;exact Ea (x:=⟨_,_,_,_,rfl,rfl⟩)
  ·(refine Oc (l:=by exact gV rfl) (k:= ?_);rintro _ _ ⟨b7,rfl,rfl⟩;refine Te ?_;(try refine Da ?_));(refine aB 5 ?_;refine Oa (l:=by exact dV rfl rfl rfl Zk Zg Zc rfl Z8 Zi) (k:= ?_);rintro _ _ ⟨qw0,cw0,rfl,rfl⟩;refine Te ?_;(try refine Da ?_));refine dP ?_;(refine aC (σ:=PSt) (fun s=>s.pk≤l.length∧bA.Good s.yA s.pps∧pV (cs,ps) (l.take s.pk)=some (s.yA,s.pps)) (fun s=>[(21, .int .i64 (s.pk:Int)),(6, .int .i64 0)]) (fun s=>[box b7 [.slice s.pa s.yA.length s.pca, .slice s.pw s.pps.length s.pcw] 51,own (.slice s.pa s.yA.length s.pca) 9 1 s.yA.length (flat fS s.yA),own (.slice s.pw s.pps.length s.pcw) 130 2 s.pps.length (flat fP s.pps)]) _ (fun s=>l.length-s.pk) ((⟨0,qa0,ca0,qw0,cw0,cs,ps⟩)) Z1 Ze Zb (fun⟨k,qa1,ca1,qw1,cw1,cs1,ps1⟩ ⟨hk,zx,hpl⟩=> ?_);refine Da ?_);dsimp only at hk zx hpl ⊢;rcases dW l k with⟨o,ho,hlt⟩|zt
   ·obtain⟨t',zy,zv⟩:=zu ho hpl;have zw:=qX zx zy;obtain⟨kd,at',text⟩:=o;unfold step1 at zy;dsimp only at zy;by_cases h1:kd=1
    ·subst h1;rw[Jg rfl] at zy;by_cases hw:bR cs1 ps1 at' text=0
     ·rw[Jg hw] at zy;cases zy;have W1:=aIY qa1 qw1 ca1 cw1 zx hw;dsimp only at zw;(refine bD ?_;intro b);(refine Ca (W1) ?_;rintro _ _ ⟨_,⟨qa3,ca3,qw3,cw3,rfl,rfl⟩,rfl⟩;refine Da ?_);refine aF ?_;refine Ee ((⟨k+1,qa3,ca3,qw3,cw3,cs1,ps1++[(at',text)]⟩:PSt)) ?_ ?_
      ·exact⟨hlt,zw,zv⟩
      ·dsimp only;omega
     ·rw[Jf hw] at zy;cases zy
    ·rw[Jf h1] at zy;by_cases h2:kd=2∧at'=0∧text=⟨#[]⟩
     ·rw[Jg h2] at zy;cases zy;obtain⟨rfl,rfl,rfl⟩:=h2;have S1:=aIZ qa1 qw1 ca1 cw1 zx;dsimp only at zw;(refine bD ?_;intro b);(refine Ca (S1) ?_;rintro _ _ ⟨_,⟨qa3,ca3,rfl,rfl⟩,rfl⟩;refine Da ?_);refine aF ?_;refine Ee ((⟨k+1,qa3,ca3,none,0,land (fun _=>true) 0 cs1 ps1,[]⟩:PSt)) ?_ ?_
      ·exact⟨hlt,zw,zv⟩
      ·dsimp only;omega
     ·rw[Jf h2] at zy;cases zy
   ·obtain rfl:k=l.length:=Z8
    rw[mz,hp] at hpl;cases hpl;refine aF ?_;exact Ea (x:=⟨_,_,_,_,rfl,rfl⟩)
end XS
namespace fs
open use cK
theorem OP {P:Program} {n:Nat} {F:eE} {H R:List Ent} {o:Oper} {x y:Operand} {u z':Value} {t e e' sz by' m:Nat} {agg:Bool} [ht:pD P t e] [hs:Ty P e agg sz by' z'] {α:Type} {f:α→List Value} {ys:List α} (ho:o.op= .call { callee:= .builtin .append,args:= #[x,y],argTypes:= #[t,t] }) (hx:ev F x=some (.slice none 0 0)) (hy:ev F y=some u)
  (q:bQ (own u e' sz m (flat f ys)) H R) (hm:m=ys.length) (hf: ∀ y,(f y).length=sz) (hf1: ∀ y, ∀ u∈f y,u.oneCell'=true) (hsz:Nat.blt 0 sz=true) (hb:ys.length*by'≤140737488355328) (h63:ys.length≤maxLen):
  cN P n o F H fun r H'=> ∃ q' cap',r= .slice q' ys.length cap'∧H'=own (.slice q' ys.length cap') e sz ys.length (flat f ys)::H:=fun Q a w next ha hw hn=>by
 have zy:=aS H e sz w hw;have hq:bX w sz u (ys.map f):=(View.own q hf hm).holds w hw;obtain⟨v',w',hr,g1,g2,g3⟩:=EG (vH ht hs hsz) o.type f hf hf1 (.slice none 0 0) u 0 [] ys zy.head hq (by rw[dj];exact hb) (by rw[dj];exact h63);rw[dj,dz] at g1;obtain⟨q',cap',rfl⟩:=qQ g1;unfold Oper.wp;simp only[execOp,ho,resolve,invoke,builtin,List.map_toArray,gd,gu,ha.eval hx,ha.eval hy,Sem.run_bind,Sem.run_pure,Result.andThen_ok,hr,Oper.upon];exact hn _ _ _ ⟨q',cap',rfl,rfl⟩ (tU zy g2 g1 g3)
attribute [local irreducible] box own sl bL aH bJ Qt cN cM dG dL eQ
theorem atE (b:Nat) (d:FD) (s t o:Value) (qf:Option Addr) (m cf:Nat):Ct lk 16 [aH b 0] [bC b d s t (.slice qf m cf) o] fun v H'=>v= .int .i64 (m:Int)∧H'=[bC b d s t (.slice qf m cf) o]:=by
 unfold bC at*;(refine Ye Tryz.func16 Tryz.ntmps16 ?_;intro Fr);refine aF ?_;exact Ea (x:=⟨rfl,rfl⟩)
theorem atF (b:Nat) (d:FD) (s t f o:Value) (hc:d.cs.length≤1000000) (hp:d.ps.length≤1000000):Ct lk 23 [aH b 0] (bC b d s t f o::aX d) fun v H'=> ∃ qa ca qw cw,v= .agg #[.slice qa d.cs.length ca, .slice qw d.ps.length cw]∧H'=[bC b d s t f o,own (.slice qa d.cs.length ca) 9 1 d.cs.length (flat fS d.cs),own (.slice qw d.ps.length cw) 130 2 d.ps.length (flat fP d.ps)]:=by
 obtain⟨a,ca,cs,w,cw,wl,m,cm,at1,qg,cg,aA⟩:=d;unfold bC aX at*;dsimp only[dw,dz] at*;(refine Ye Tryz.func23 Tryz.ntmps23 ?_;intro Fr);(refine bD ?_;intro b);(refine aD (Hq:=[_,_,_]) [1,2,3] [] rfl Jd Za ?_);refine dP ?_;(refine aB 6 ?_;refine Oa (l:=by exact dV rfl rfl rfl Zk Zg Zc rfl Z8 Zi) (k:= ?_);rintro _ _ ⟨qa',ca',rfl,rfl⟩;refine Te ?_;(try refine Da ?_));refine dP ?_;(refine aB 13 ?_;refine Oa (l:=by exact dV rfl rfl rfl Zk Zg Zc rfl Z8 Zi) (k:= ?_);rintro _ _ ⟨qb',cb',rfl,rfl⟩;refine Te ?_;(try refine Da ?_));refine aF ?_;exact Ea (x:=⟨_,_,_,_,rfl,rfl⟩)
theorem aSN (b:Nat) (d:FD) (s t f:Value) (L:List RX) (qo:Option Addr) (co:Nat) (hL:L.length≤1000000):Ct lk 27 [aH b 0] [bC b d s t f (.slice qo L.length co),own (.slice qo L.length co) 87 3 L.length (flat FM L)] fun v H'=> ∃ q c,v= .slice q L.length c∧H'=[bC b d s t f (.slice qo L.length co),own (.slice qo L.length co) 87 3 L.length (flat FM L),own (.slice q L.length c) 87 3 L.length (flat FM L)]:=by
 have zy: ∀ y, ∀ u∈FM y,u.oneCell'=true:=by simp [FM,Value.oneCell']
 unfold bC at*;(refine Ye Tryz.func27 Tryz.ntmps27 ?_;intro Fr);refine aF ?_;(refine aL wt Jb (OP rfl rfl rfl aU rfl Zg zy rfl Z8 Zi) ?_;rintro _ _ ⟨q1,c1,rfl,rfl⟩);refine aF ?_;exact Ea (x:=⟨_,_,rfl,rfl⟩)
end fs
