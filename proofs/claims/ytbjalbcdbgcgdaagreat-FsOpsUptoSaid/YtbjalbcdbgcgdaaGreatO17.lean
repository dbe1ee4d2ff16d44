/- FsOps, packed. -/
import Derived.Test.YtbjalbcdbgcgdaaGreatOQ
import Derived.Test.YtbjalbcdbgcgdaaGreatO15
import Derived.Test.YtbjalbcdbgcgdaaGreatO16
import Derived.Test.YtbjalbcdbgcgdaaGreatO07
import Derived.Test.YtbjalbcdbgcgdaaGreatO08
import Derived.Test.YtbjalbcdbgcgdaaGreatO14
import Derived.Test.YtbjalbcdbgcgdaaGreatO00
open Go.Proofs.Tryz renaming prog->lk
open List renaming append_assoc->fu,append_nil->ke,cons_append->dw,drop_eq_getElem_cons->bh,flatMap_cons->abw,flatMap_nil->afq,getElem?_eq_getElem->ak,getElem?_eq_some_iff->aj,getElem_of_mem->afa,length_append->ae,length_cons->dv,length_eq_zero_iff->afp,length_nil->gr,length_singleton->gk,map_cons->gd,map_nil->gu,mem_append->ei,mem_cons->al,mem_cons_of_mem->a8,mem_cons_self->bu,mem_of_getElem?->jg,mem_singleton->eh,nil_append->dz,nodup_cons->afe,nodup_nil->afh,not_mem_nil->ck,perm_append_comm->afs,take_append_drop->gl
open Nat renaming zero_le->fe
open Int renaming toNat_natCast->dc
open Prod renaming fst->afr,snd->adr
open Decidable renaming not_not->aab
open Bool renaming false_eq_true->fm
open Classical renaming em->afn,not_forall->aft,not_imp->afu
set_option linter.unusedVariables false
set_option maxRecDepth 100000
set_option maxHeartbeats 8000000
namespace Go.Proofs.YtbjalbcdbgcgdaaGreat
open Go.RowKit bA bO cK cO dZ file sl use
namespace fs
open dir uU
theorem akA {t u:List UInt8} (ht:t.length≤512) (h:mI.tL t u):u.length≤600:=by
 have:=(mI.abH h).2;have:=dZ.RF t.length;omega
theorem VE {d:FD} {n:Nat} {x:Nd} {l:List UInt8} (h:eN d n x l) (hk:x.kind=1∨x.kind=2) {z:Nat} {news:List (List UInt8)} {ps:List tF} (ho:pR (pI l) x.parts news ps) (hg:gA z news) (nq:Option Addr) (nl nc:Nat) (q:Option Addr) (c:Nat):UZ d ⟨(n:Int),kI l,gI l,(z:Int),nq,nl,nc,ps,q,c,false⟩ n ⟨x.kind,x.gen,z,news⟩∧lW ⟨(n:Int),kI l,gI l,(z:Int),nq,nl,nc,ps,q,c,false⟩:=by
 obtain⟨g1,g2,g3⟩:=hg;obtain⟨p0,g0,e1,e2,e3,e4⟩:=h.told.ex;have zw:=(mF e4).2.2.2.2.1;have hlt:=h.told.lt;refine⟨⟨rfl,hlt,by dsimp only;rw[zw];exact e2,h.kind,h.gen,rfl,hk,g1,ho.len.trans g2,g2,fun i p t hp ht=> ?_⟩,⟨by dsimp only;omega,by dsimp only;omega⟩,by dsimp only;rw[ho.len,g2];unfold aQ;omega,fun p hp hf=> ?_⟩
 ·dsimp only at hp ht ⊢;rcases ho.one i t p ht hp with⟨rfl,rfl⟩|⟨zy,hold,q0,zx,rfl⟩|⟨zy,_,u,hu,rfl⟩
  ·exact .inr ⟨rfl, .inl ⟨rfl,rfl⟩,Z9, .inl rfl⟩
  ·have hlen:=g3 i t ht zy;refine .inr ⟨rfl, ?_,xM (mF e4).2.2.2.1 _ (jg zx), .inr ⟨n,p0,g0,l,e1,e2,e3,e4, .inr ⟨q0,jg zx,rfl⟩⟩⟩;rcases h.data.2.2 i q0 t zx hold with⟨_,h0⟩|⟨h0,_,u,hu,hr⟩
   ·exact absurd h0 zy
   ·exact .inr ⟨h0,hlen,u,hu,hr⟩
  ·exact .inl ⟨rfl,g3 i t ht zy,hu⟩
 ·obtain⟨i,hi,rfl⟩:=afa hp;dsimp only at hi hf ⊢;have zv:i<news.length:=by rw[←ho.len];exact hi
  have ht:news[i]? =some news[i]:=ak zv;rcases ho.one i _ _ ht (ak hi) with⟨_,e⟩|⟨_,_,q0,_,e⟩|⟨zy,_,u,hu,e⟩
  ·rw[e] at hf;cases hf
  ·rw[e] at hf;cases hf
  ·rw[e];exact akA (by rw[g3 i _ ht zy];exact jX z i) hu
def DJ (g:Int) (E:List bH):Nd:=⟨2,g,(gG E).length,AJ (gG E)⟩
theorem ayG {T:List UInt8} (h:T.length≤512):gA T.length (AJ T):=by
 unfold AJ;split
 ·next e=>subst e;exact⟨Z9,rfl,fun i s hs=>by simp at hs⟩
 ·next e=>
  have:=List.length_pos_iff.2 e;refine⟨Z8,by unfold aQ;rw[gk];omega,fun i s hs hne=> ?_⟩;have hi:i=0:=by have:=(aj.1 hs).1;rw[gk] at this;omega
  subst hi;cases hs;unfold cX;omega
theorem aoT {T:List UInt8} (h:T.length≤512):lN T.length (AJ T)=T:=by
 unfold lN UR AJ;refine uS Ja fun j hj=> ?_
 rw[List.length_map,List.length_range] at hj;rw[kM _ hj];have hT:T≠[]:=by rintro rfl;simp at hj
 rw[Jf hT,show j/512=0 from by omega,show j%512=j from by omega];rfl
theorem nG {g:Int} {E:List bH} (h:kY E):iY (DJ g E).bytes=some E∧(DJ g E).aP=E:=by
 have h1:iY (DJ g E).bytes=some E:=by
  obtain⟨e1,e2⟩:=VC h;show iY (lN (gG E).length (AJ (gG E)))=some E;rw[aoT Z8, ←e1];exact lJ ((eI E).2 h)
 exact⟨h1,sY h1⟩
theorem sC {d:FD} {n:Nat} {x:Nd} {l:List UInt8} (h:eN d n x l) (hk:x.kind=2) {E:List bH} (hE:kY E) {ps:List tF} (ho:pR (pI l) x.parts (AJ (gG E)) ps) (nq:Option Addr) (nl nc:Nat) (q:Option Addr) (c:Nat):UZ d ⟨(n:Int),kI l,gI l,((gG E).length:Int),nq,nl,nc,ps,q,c,false⟩ n (DJ x.gen E)∧lW ⟨(n:Int),kI l,gI l,((gG E).length:Int),nq,nl,nc,ps,q,c,false⟩∧ps.length≤1:=by
 have h2:=(VC hE).2;obtain⟨h3,h4⟩:=VE h (.inr hk) ho (ayG Z8) nq nl nc q c;rw[hk] at h3;refine⟨h3,h4, ?_⟩;rw[ho.len];unfold AJ;split
 ·exact fe _
 ·exact Nat.le_refl _
theorem VF {E:List bH} {s:List UInt8} {p:bH} (h:p∈jO E s):p∈E:=by
 unfold jO at h;rcases ei.1 h with h|h
 ·exact List.mem_of_mem_take h
 ·exact List.mem_of_mem_drop h
def mJ (tab:cT) (n:Nat) (y:Option Nd):cT:=fun m=>if m=n then y else tab m
theorem iN (tab:cT) (n:Nat) (y:Option Nd):mJ tab n y n=y:=Jg rfl
theorem eJ {tab:cT} {n m:Nat} {y:Option Nd} (h:m≠n):mJ tab n y m=tab m:=Jf h
theorem VG {x:iV} {tab:cT} (hI:Inv x tab) {n:Nat} (h:BB x.d.at' x.d.aA n):tab n=none:=by
 cases hy:tab n with
 |none=>rfl
 |some y=>
  obtain⟨l,p,g,_,h1,_,h3,_⟩:=PO hI.pM hy;obtain⟨p',g',e1,_,e3,_⟩:=h;rw[e1] at h1;cases h1;exact absurd e3 h3
def pS (ino:Nat) (kind g:Int):kQ:=⟨(ino:Int),kind,g,0,none,0,0,[],none,0,false⟩
def kE (tab:cT) (n:Nat) (nx:Nd) (nm:List UInt8) (ino:Nat) (kind g:Int):cT:=
 mJ (mJ tab n (some (DJ nx.gen (mT nx.aP (nm,(ino:Int)))))) ino (some ⟨kind,g,0,[]⟩)
theorem akB {nx:Nd} {E:List bH} (hE:iY nx.bytes=some E) {nm:List UInt8} (zy:gU nm) (hf:cS E nm≠0) (h24:E.length≠24) {ino:Nat} (hino:ino<48):tM E (nm,(ino:Int))=0:=by
 have hg:=mU hE;refine aeB hg (HU ⟨zy,by dsimp only;omega,by dsimp only;omega⟩) ?_ h24;cases h:tO E nm with
 |false=>rfl
 |true=>
  exfalso;apply hf;unfold cS;rw[Jf ZJ,Jf (by simp [zy]),Jg h]
theorem aGN {x:iV} {tab:cT} (hI:Inv x tab) {n:Nat} {nx:Nd} {lx:List UInt8} (hx:tab n=some nx) (zm:eN x.d n nx lx) (hk:nx.kind=2) (hE:iY nx.bytes=some nx.aP) {nm:List UInt8} {ino:Nat} (zt:tM nx.aP (nm,(ino:Int))=0) (zq:BB x.d.at' x.d.aA ino) (zv:ino<48) {g:Int} (hg:x.d.aA[ino]? =some g) {kind:Int} (zw:kind=1∨kind=2) {ps:List tF} (ho:pR (pI lx) nx.parts (AJ (gG (mT nx.aP (nm,(ino:Int))))) ps) (nq:Option Addr) (nl nc:Nat) (q:Option Addr) (c:Nat):oP x.d tab [pS ino kind g,⟨(n:Int),kI lx,gI lx,((gG (mT nx.aP (nm,(ino:Int)))).length:Int),nq,nl,nc,ps,q,c,false⟩] (kE tab n nx nm ino kind g)∧(∀ y∈[pS ino kind g,⟨(n:Int),kI lx,gI lx,((gG (mT nx.aP (nm,(ino:Int)))).length:Int),nq,nl,nc,ps,q,c,false⟩],lW y)∧Shut (kE tab n nx nm ino kind g)∧(aW [pS ino kind g,⟨(n:Int),kI lx,gI lx,((gG (mT nx.aP (nm,(ino:Int)))).length:Int),nq,nl,nc,ps,q,c,false⟩]).length≤3:=by
 have zn:=kN zt;obtain⟨c1,c2,c3⟩:=sC zm hk zn ho nq nl nc q c;have zy:=VG hI zq;have zl:ino≠n:=by rintro rfl;rw[hx] at zy;cases zy
 have hn48:=aeD hI.pM hx;have hgb:0≤g∧g≤2147483647:=by
  obtain⟨p,g',e1,e2,_⟩:=zq;rw[hg] at e2;cases e2;exact (hI.pM.map.2.2 ino zv p g e1 hg).2
 have cn:UZ x.d (pS ino kind g) ino ⟨kind,g,0,[]⟩:=⟨rfl,zv,hg,rfl,rfl,rfl,zw,fe _,by unfold pS aQ;dsimp only[gr],by unfold aQ;dsimp only[gr],fun i p t hp=>by simp [pS] at hp⟩;have mt1:kE tab n nx nm ino kind g ino=some ⟨kind,g,0,[]⟩:=iN _ _ _;have mt2:kE tab n nx nm ino kind g n=some (DJ nx.gen (mT nx.aP (nm,(ino:Int)))):=by
  unfold kE;rw[eJ (fun e=>zl e.symm),iN]
 have mt3: ∀ m,m≠ino→m≠n→kE tab n nx nm ino kind g m=tab m:=fun m h1 h2=>by
  unfold kE;rw[eJ h1,eJ h2]
 refine⟨⟨?_,fun y hy hg=> ?_,fun y hy hg=> ?_,fun m hm=> ?_⟩,fun y hy=> ?_,⟨fun m y hy=> ?_,fun m y hy zk=> ?_, ?_⟩, ?_⟩
 ·simp only[gd,gu,pS,afe,eh,ck,not_false_eq_true,afh,and_true];omega
 ·simp only[al,ck,or_false] at hy;rcases hy with rfl|rfl<;>cases hg
 ·simp only[al,ck,or_false] at hy;rcases hy with rfl|rfl
  ·exact⟨ino,_,cn,mt1⟩
  ·exact⟨n,_,c1,mt2⟩
 ·exact mt3 m (fun e=>hm _ bu Z4) (fun e=>hm _ (a8 _ bu) (by rw[e]))
 ·simp only[al,ck,or_false] at hy;rcases hy with rfl|rfl
  ·exact⟨⟨by show (0:Int)≤(ino:Int);omega,by show (ino:Int)<48;omega⟩,fe _,fun p hp=>by simp [pS] at hp⟩
  ·exact c2
 ·by_cases e1:m=ino
  ·rw[e1,mt1] at hy;cases hy;exact zw
  ·by_cases e2:m=n
   ·rw[e2,mt2] at hy;cases hy;exact .inr rfl
   ·rw[mt3 m e1 e2] at hy;exact hI.shut.kinds m y hy
 ·have zx: ∀ k:Nat,(∃ z,tab k=some z)→ ∃ z,kE tab n nx nm ino kind g k=some z:=fun k ⟨z,hz⟩=>by
   by_cases e1:k=ino
   ·exact⟨_,by rw[e1];exact mt1⟩
   ·by_cases e2:k=n
    ·exact⟨_,by rw[e2];exact mt2⟩
    ·exact⟨z,by rw[mt3 k e1 e2];exact hz⟩
  by_cases e1:m=ino
  ·rw[e1,mt1] at hy;cases hy;exact⟨[],rfl,fun p hp=>absurd hp ck⟩
  ·by_cases e2:m=n
   ·rw[e2,mt2] at hy;cases hy;refine⟨_,(nG zn).1,fun p hp=> ?_⟩;rcases pN.1 hp with rfl|hp
    ·exact⟨_,by rw[dc];exact mt1⟩
    ·obtain⟨E0,zu,zr⟩:=hI.shut.aP n nx hx hk;rw[hE] at zu;cases zu;exact zx _ (zr p hp)
   ·rw[mt3 m e1 e2] at hy;obtain⟨E0,zu,zr⟩:=hI.shut.aP m y hy zk;exact⟨E0,zu,fun p hp=>zx _ (zr p hp)⟩
 ·obtain⟨y,hy,zj⟩:=hI.shut.root;by_cases e1:0=ino
  ·rw[←e1,hy] at zy;cases zy
  ·by_cases e2:0=n
   ·exact⟨_,by rw[e2];exact mt2,rfl⟩
   ·exact⟨y,by rw[mt3 0 e1 e2];exact hy,zj⟩
 ·have hf:=KE ps;simp only[aW,abw,afq,ke,ae,nB,pS,fm,if_false];show pY []+1+(pY ps+1)≤3;rw[show pY []=0 from rfl];omega
end fs
namespace fs
open dir uU
structure VH (tab:cT):Prop where
 one: ∀ n m x y p q,tab n=some x→tab m=some y→x.kind=2→y.kind=2→p∈x.aP→q∈y.aP→p.2=q.2→n=m∧p=q
 zero: ∀ n x p,tab n=some x→x.kind=2→p∈x.aP→1≤p.2∧p.2<48
theorem VI {tab:cT} {s:List UInt8} {m:Nat}: ∀ (A:List (List UInt8)) (n:Nat),aJ tab n (A++[s])=(0,m)→ ∃ p x,aJ tab n A=(0,p)∧tab p=some x∧x.kind=2∧cS x.aP s=0∧m=(jN x.aP s).toNat
 |[],n,h=>by
  rw[dz,aJ] at h;cases hx:tab n with
  |none=>rw[hx] at h;cases h
  |some x=>
   rw[hx] at h;dsimp only at h;split at h
   ·cases h
   ·next hk=>
    split at h
    ·next he=>exact absurd (congrArg afr h) he
    ·next he=>
     rw[aJ] at h;exact⟨n,x,rfl,hx,aab.1 hk,aab.1 he,(congrArg adr h).symm⟩
 |a::A,n,h=>by
  rw[dw,aJ] at h;cases hx:tab n with
  |none=>rw[hx] at h;cases h
  |some x=>
   rw[hx] at h;dsimp only at h;split at h
   ·cases h
   ·next hk=>
    split at h
    ·next he=>exact absurd (congrArg afr h) he
    ·next he=>
     obtain⟨p,y,h1,h2⟩:=VI A _ h;refine⟨p,y, ?_,h2⟩;rw[aJ,hx];dsimp only;rw[Jf hk,Jf he];exact h1
theorem lS {E:List bH} {s:List UInt8} (h:kY E):kY (jO E s):=by
 obtain⟨h1,h2,h3⟩:=h;have hs:(jO E s).Sublist E:=by
  unfold jO;have:=List.Sublist.append (List.Sublist.refl (E.take (gP E s))) (List.drop_sublist_drop_left E (Nat.le_succ (gP E s)));rwa [gl] at this
 exact⟨Nat.le_trans hs.length_le h1,fun p hp=>h2 p (hs.subset hp),h3.sublist hs⟩
theorem VJ {E:List bH} {s:List UInt8} (h:kY E) {p:bH}:p∈jO E s→p∈E∧(tO E s=true→p.1≠s):=fun hp=>by
 refine⟨VF hp,fun hd e=> ?_⟩;obtain⟨q,hq,zx⟩:=aeH hd;have zw:=LH h.2.2 (VF hp) (jg hq) (by rw[e,zx]);subst zw;have hlt:=(aj.1 hq).1;have heq:=(aj.1 hq).2;have zy:=h.2.2;rw[←gl (gP E s) E,bh hlt,heq] at zy;have h5:=List.pairwise_append.1 zy;have h6:=(List.pairwise_cons.1 h5.2.1).1;have irr: ∀ t:List UInt8,blt t t=true→False:=fun t ht=>by
  have:=h.2.1 p (jg hq);exact absurd ht (by simp [wI])
 unfold jO at hp;rcases ei.1 hp with hp|hp
 ·exact irr _ (h5.2.2 p hp p bu)
 ·exact irr _ (h6 p hp)
def VK (ino:Nat):kQ:=⟨(ino:Int),0,0,0,none,0,0,[],none,0,true⟩
def dU (tab:cT) (n:Nat) (nx:Nd) (nm:List UInt8) (ino:Nat):cT:=mJ (mJ tab n (some (DJ nx.gen (jO nx.aP nm)))) ino none
theorem asQ {E:List bH} {s:List UInt8} (h:cS E s=0): ∃ p∈E,p.1=s∧jN E s=p.2:=by
 obtain⟨h1,h2,h3⟩:=iJ h;obtain⟨q,hq,zy⟩:=aeH h3;refine⟨q,jg hq,zy, ?_⟩;unfold jN;rw[Jg h,hq]
theorem aGO {x:iV} {tab:cT} (hI:Inv x tab) (hO:VH tab) {n:Nat} {nx:Nd} {lx:List UInt8} (hx:tab n=some nx) (zh:eN x.d n nx lx) (hk:nx.kind=2) {nm:List UInt8} (hf:cS nx.aP nm=0) {ino:Nat} (zt:ino=(jN nx.aP nm).toNat) {z:Nd} (hz:tab ino=some z) (zr:z.gen<2147483647) (zx:z.kind=2→z.aP=[]) {ps:List tF} (ho:pR (pI lx) nx.parts (AJ (gG (jO nx.aP nm))) ps) (nq:Option Addr) (nl nc:Nat) (q:Option Addr) (c:Nat):oP x.d tab [VK ino,⟨(n:Int),kI lx,gI lx,((gG (jO nx.aP nm)).length:Int),nq,nl,nc,ps,q,c,false⟩] (dU tab n nx nm ino)∧(∀ y∈[VK ino,⟨(n:Int),kI lx,gI lx,((gG (jO nx.aP nm)).length:Int),nq,nl,nc,ps,q,c,false⟩],lW y)∧Shut (dU tab n nx nm ino)∧(aW [VK ino,⟨(n:Int),kI lx,gI lx,((gG (jO nx.aP nm)).length:Int),nq,nl,nc,ps,q,c,false⟩]).length≤3:=by
 obtain⟨g1,g2,g3⟩:=iJ hf;have zk:=lS (s:=nm) g1;obtain⟨p0,zw,zq,zn⟩:=asQ hf;have hp0b:=hO.zero n nx p0 hx hk zw;rw[zn] at zt;have hip:p0.2=(ino:Int):=Z8
 obtain⟨c1,c2,c3⟩:=sC zh hk zk ho nq nl nc q c;have zg:ino≠n:=by
  rintro rfl;rw[hx] at hz;cases hz;rw[zx hk] at zw;exact absurd zw ck
 have hi48:=aeD hI.pM hz;have mt1:dU tab n nx nm ino ino=none:=iN _ _ _;have mt2:dU tab n nx nm ino n=some (DJ nx.gen (jO nx.aP nm)):=by
  unfold dU;rw[eJ (fun e=>zg e.symm),iN]
 have mt3: ∀ m,m≠ino→m≠n→dU tab n nx nm ino m=tab m:=fun m h1 h2=>by
  unfold dU;rw[eJ h1,eJ h2]
 refine⟨⟨?_,fun y hy hg=> ?_,fun y hy hg=> ?_,fun m hm=> ?_⟩,fun y hy=> ?_,⟨fun m y hy=> ?_,fun m y hy zm=> ?_, ?_⟩, ?_⟩
 ·simp only[gd,gu,VK,afe,eh,ck,not_false_eq_true,afh,and_true];omega
 ·simp only[al,ck,or_false] at hy;rcases hy with rfl|rfl
  ·exact⟨ino,z,rfl,hz,zr,mt1⟩
  ·cases hg
 ·simp only[al,ck,or_false] at hy;rcases hy with rfl|rfl
  ·cases hg
  ·exact⟨n,_,c1,mt2⟩
 ·exact mt3 m (fun e=>hm _ bu Z4) (fun e=>hm _ (a8 _ bu) (by rw[e]))
 ·simp only[al,ck,or_false] at hy;rcases hy with rfl|rfl
  ·exact⟨⟨by show (0:Int)≤(ino:Int);omega,by show (ino:Int)<48;omega⟩,fe _,fun p hp=>by simp [VK] at hp⟩
  ·exact c2
 ·by_cases e1:m=ino
  ·rw[e1,mt1] at hy;cases hy
  ·by_cases e2:m=n
   ·rw[e2,mt2] at hy;cases hy;exact .inr rfl
   ·rw[mt3 m e1 e2] at hy;exact hI.shut.kinds m y hy
 ·have zy: ∀ k:Nat,k≠ino→(∃ w,tab k=some w)→ ∃ w,dU tab n nx nm ino k=some w:=fun k e1 ⟨w,hw⟩=>by
   by_cases e2:k=n
   ·exact⟨_,by rw[e2];exact mt2⟩
   ·exact⟨w,by rw[mt3 k e1 e2];exact hw⟩
  by_cases e1:m=ino
  ·rw[e1,mt1] at hy;cases hy
  ·by_cases e2:m=n
   ·rw[e2,mt2] at hy;cases hy;refine⟨_,(nG zk).1,fun p hp=> ?_⟩;obtain⟨zl,zj⟩:=VJ g1 hp;obtain⟨E0,zv,zu⟩:=hI.shut.aP n nx hx hk;rw[←sY zv] at zu;have zf:=hO.zero n nx p hx hk zl;refine zy _ (fun e=> ?_) (zu p zl);have:=(hO.one n n nx nx p p0 hx hx hk hk zl zw Z8).2;rw[this] at zj;exact zj g3 zq
   ·rw[mt3 m e1 e2] at hy;obtain⟨E0,zv,zu⟩:=hI.shut.aP m y hy zm;have ze:=sY zv;refine⟨E0,zv,fun p hp=>zy _ (fun e=> ?_) (zu p hp)⟩;rw[←ze] at hp;have zf:=hO.zero m y p hy zm hp;exact e2 (hO.one m n y nx p p0 hy hx zm hk hp zw Z8).1
 ·obtain⟨y,hy,zb⟩:=hI.shut.root;by_cases e1:0=ino
  ·omega
  ·by_cases e2:0=n
   ·exact⟨_,by rw[e2];exact mt2,rfl⟩
   ·exact⟨y,by rw[mt3 0 e1 e2];exact hy,zb⟩
 ·have hf:=KE ps;simp only[aW,abw,afq,ke,ae,nB,VK,if_true,fm,if_false];show 1+(pY ps+1)≤3;omega
end fs
namespace fs
open dir uU
theorem bS {P:Program} {ops:Array Oper} {Q:fW} {n:Nat} {Hq:List Ent} {nk:List Nat} {r i m:Nat} {Lk:Array Bool} {F:eE} {H H':List Ent} (hs:HSub H H') (h:dM P ops Q n Hq nk r i m Lk F H'):dM P ops Q n Hq nk r i m Lk F H:=fun a w ha hw=>h a w ha (hs w hw)
theorem kO {H:List Ent} {sz:Nat}:HSub H (many sz []::H):=fun w hw=>aG.shared hw rfl (fun p hp=>absurd hp ck) fun k ⟨p,hp,_⟩=>absurd hp ck
theorem kF {H R S : List Ent} {sz : Nat} {v : Value} {rows : List (List Value)} {l : auZ} (p : bQ (many sz l) H R) (q : bQ (sl sz v rows) H S) : HSub H (many sz ((v, rows) :: l) :: H) := fun w hw => aG.shared hw rfl (fun x hx => by
  rcases al.1 hx with rfl|hx
  ·exact hw.1 _ q.mem
  ·exact hw.1 _ p.mem x hx) fun k ⟨x, hx, hk⟩ => by
  rcases al.1 hx with rfl|hx
  ·exact⟨_,q.mem,rfl,hk⟩
  ·exact⟨_,p.mem,rfl,x,hx,hk⟩
def tA (tab:cT) (full:Prop) [Decidable full] (r:Int×Nat) (nm:List UInt8):Int:=
 if r.1≠0 then r.1 else match tab r.2 with
 |none=>18
 |some y=>if y.kind≠2 then 15 else if cS y.aP nm=0 then 13 else if y.aP.length=24 then 10 else if full then 10 else 0
def BC (b:Nat) (x:iV) (tab:cT) (r:Int×Nat) (nm:List UInt8) (ino:Nat) (kind g:Int) (v:Value) (H':List Ent):Prop:=
 (∃ e:Int,e≠0∧tA tab (ino=0) r nm=e∧v= .int .i64 e∧H'=bI b x)∨
 (∃ y,tA tab (ino=0) r nm=0∧tab r.2=some y∧hU b x (kE tab r.2 y nm ino kind g) x.d.aA 3 4 v H')
attribute [local irreducible] box own sl bL aH bJ Qt cN cM dG dL eQ
theorem SO (b:Nat) (x:iV) {tab:cT} (hI:Inv x tab) (zr:x.ops.length≤1000) (qL:Option Addr) (cL:Nat) (L:List (List UInt8)) (hl1:L.length≤1000) (zm: ∀ s∈L,gU s) {nm:List UInt8} {k:Nat} (hk:L.length=k+1) (zl:L[k]? =some nm) {kind:Int} (zw:kind=1∨kind=2) {ino:Nat} (hT:VD x.d.at' x.d.aA ino) {g:Int} (hg:x.d.aA[ino]? =some g):
  Ct lk 62 [aH b 0, .slice qL L.length cL, .int .i64 kind] (bI b x++[sl 1 (.slice qL L.length cL) (L.map fT)]) (BC b x tab (aJ tab 0 (L.take k)) nm ino kind g):=by
 have zv:=zm nm (jg zl);have hlen: ∀ s∈L,s.length≤1000000:=fun s hs=>by have:=(zm s hs).2.2.2.1;omega
 have A0:=qZ b x.d (.int .i64 x.gJ) (.int .i64 x.turn) (.slice x.qf x.fr.length x.cf) (.slice x.qo x.ops.length x.co) tab hI.pM hI.shut qL cL L Z8 hlen hk zl;have TK:=aMW x.d.m x.d.g x.d.cm x.d.cg (FQ hI.pM.map) hI.pM.map;have LO:=fun n y l (h:eN x.d n y l) E (hE:kY E) q c qe ce=>uX b x.d (.int .i64 x.gJ) (.int .i64 x.turn) (.slice x.qf x.fr.length x.cf) (.slice x.qo x.ops.length x.co) n y l h (E:=E) hE q c qe ce
 have CI:=fun tab' l (hl:l.length≤100) hC hS zf q0 c0 hN ze=>oQ b x hI zr (tab':=tab') (l:=l) hl hC hS zf q0 c0 4 Z8 (N:=3) hN (G:=x.d.aA) ze
 have MC:=fun n nx lx (hx:tab n=some nx) zb za hE zy z8 zq ps ho nq nl nc q c=>aGN hI (n:=n) (nx:=nx) (lx:=lx) hx zb za hE (nm:=nm) (ino:=ino) zy z8 zq hg zw (ps:=ps) ho nq nl nc q c
 obtain⟨R,hR⟩: ∃ R,aJ tab 0 (L.take k)=R:=⟨_,rfl⟩;rw[hR] at A0 ⊢;clear hR;obtain⟨re,rn⟩:=R;have hgn:ino<x.d.aA.length:=(aj.1 hg).1;have BAD: ∀ e:Int,e≠0→tA tab (ino=0) (re,rn) nm=e→BC b x tab (re,rn) nm ino kind g (.int .i64 e) (bI b x):=fun e he h=> .inl ⟨e,he,h,rfl,rfl⟩
 have YES: ∀ y v H',tA tab (ino=0) (re,rn) nm=0→tab rn=some y→hU b x (kE tab rn y nm ino kind g) x.d.aA 3 4 v H'→BC b x tab (re,rn) nm ino kind g v H':=fun y v H' h1 h2 h3=> .inr ⟨y,h1,h2,h3⟩
 refine gH (R:=BC b x tab (re,rn) nm ino kind g) ?_ fun _ _ h=>h
 generalize BC b x tab (re,rn) nm ino kind g=RR at*;have hg0:=hg;obtain⟨d,s,tn,qf,cf,F,qo,co,Lo⟩:=x;obtain⟨a,ca,cs,w,cw,wl,m,cm,at1,qg,cg,aA⟩:=d;unfold yG at A0;unfold bI bC aX at*;dsimp only[dw,dz] at*;(refine Ye Tryz.func62 Tryz.ntmps62 ?_;intro Fr);refine kB ?_;(refine Ca (A0) ?_;rintro _ _ ⟨_,hr,rfl⟩;(try refine Da ?_));rcases hr with⟨h0,rfl,rfl⟩|⟨y,l,q,c,⟨rfl,hy,zn,zt⟩,rfl,rfl⟩|⟨y,l,q,c,qe,ce,⟨rfl,hy,zn,zt,hE⟩,rfl,rfl⟩
 ·refine Da ?_;have hb:=BAD re h0 (by unfold tA;rw[Jg h0]);(refine bF ?_;intro b);exact Ea (x:=hb)
 ·refine Da ?_;have hb:=BAD 15 Z9 (by unfold tA;rw[Jf Ja,hy];dsimp only;rw[Jg zt]);(refine bF ?_;intro b);exact Ea (x:=hb)
 ·refine Da ?_;have zk:=mU hE;have FN:=fun q c=>dir.yC q c y.aP nm (by have:=zk.1;omega) (fun p hp=>by have:=(cQ (zk.2.1 p hp)).1.2.2.2.1;omega) (by have:=zv.2.2.2.1;omega)
  have zx:tA tab (ino=0) (0,rn) nm=if cS y.aP nm=0 then 13 else if y.aP.length=24 then 10 else if ino=0 then 10 else 0:=by unfold tA;rw[Jf Ja,hy];dsimp only;rw[Jf (by simp [zt])]
  by_cases hf:cS y.aP nm=0
  ·have hb:=BAD 13 Z9 (by rw[zx,Jg hf]);rw[hf] at FN;(repeat' (first|refine Y3 ?_|(refine Wb ?_;intro b)|refine Wc (FN ..) ?_|fail));exact Ea (x:=hb)
  ·rw[Jf hf] at zx;by_cases h24:y.aP.length=24
   ·have hb:=BAD 10 Z9 (by rw[zx,Jg h24]);(repeat' (first|refine Y3 ?_|(refine Wb ?_;intro b)|refine Wc (FN ..) ?_|fail));exact Ea (x:=hb)
   ·rw[Jf h24] at zx;(repeat' (first|refine Y4 ?_|(refine Wb ?_;intro b)|refine Wc (FN ..) ?_|fail));(refine Ca (TK) ?_;rintro _ _ ⟨_,⟨ino',zj,rfl,rfl⟩,rfl⟩;refine Da ?_);obtain rfl:=take_one _ _ _ _ hT zj;by_cases zu:ino=0
    ·have hb:=BAD 10 Z9 (by rw[zx,Jg zu]);rw[Jg zu];refine bM ?_;exact Ea (x:=hb)
    ·rw[Jf zu] at zx;rw[Jf zu];rcases hT with⟨t1,t2,t3,_⟩|⟨t1,_⟩
     ·have zy:=akB hE zv hf h24 t2;have AD:=fun q c=>dir.aoN q c y.aP (nm,(ino:Int)) zy
      have z7:=kN zy;have zh:=IE y.aP (nm,(ino:Int));rw[←zh] at AD;have LO1:=LO rn y l zn _ z7;have MC1:=MC rn y l hy zn zt hE zy t3 t2;clear LO MC TK FN A0 BAD zy zh zj;generalize mT y.aP (nm,(ino:Int))=E2 at*;refine kB ?_;(refine Ca (AD _ _) ?_;rintro _ _ ⟨_,⟨q6,c6,rfl,rfl⟩,rfl⟩;refine Da ?_);refine kB ?_;(refine Ca (LO1 _ _ _ _) ?_;rintro _ _ ⟨_,⟨ps,q7,c7,zg,rfl,rfl⟩,rfl⟩;refine Da ?_);(refine iB ?_;intro b);obtain⟨m1,m2,m3,m4⟩:=MC1 ps zg q (pI l).length c q7 c7;have C1:=fun q9=>CI _ _ Ja m1 m2 m3 q9 2 m4 rfl
      dsimp only[dv,gr,Nat.reduceAdd] at C1;clear m1 m2 m3 m4 MC1 CI LO1 AD zg;(refine aD (Hq:=[_,_]) [0,10] [19] rfl Jd Za ?_);refine jV ?_;(refine aB 17 ?_;refine Oa (l:=by exact aT rfl rfl rfl Zp rfl rfl Z9 rfl) (k:= ?_);rintro _ _ ⟨q9,rfl,rfl⟩;refine Te ?_;(try refine Da ?_));refine bS (bB (v:= .slice q9 2 2) (e:=237) (m:=2) (f:=mQ) (ys:=[pS ino kind g,⟨(rn:Int),kI l,gI l,((gG E2).length:Int),q,(pI l).length,c,ps,q7,c7,false⟩]) aU (fun _=>rfl) rfl) ?_;refine bS (bB (v:= .slice q7 ps.length c7) (e:=289) (m:=ps.length) (f:=eX) (ys:=ps) aU (fun _=>rfl) rfl) ?_;refine bS (aS _ 289 4) ?_;refine bS (bB (v:= .slice none 0 0) (e:=289) (m:=0) (f:=eX) (ys:=[]) aU (fun _=>rfl) rfl) ?_;refine bS (kO (sz:=4)) ?_;refine bS (kF (v:= .slice q7 ps.length c7) (rows:=ps.map eX) aU aU) ?_;refine bS (kF (v:= .slice none 0 0) (rows:=([]:List tF).map eX) aU aU) ?_;(refine Ce 18 (C1 _) ?_;rintro _ _ ⟨_,hc,rfl⟩;refine Tf ?_;(try refine Da ?_));(refine aB 19 ?_;refine Oa (l:=by exact (iA (EA rfl rfl))) (k:= ?_);rintro _ _ ⟨rfl,rfl⟩;refine Te ?_;(try refine Da ?_));refine sO ?_;exact Ed (x:=YES y _ _ zx hy hc)
     ·exact absurd t1 zu
end fs
namespace fs
def eS (e:Int):Value:= .agg #[.int .i64 e, .string (str []), .int .i64 0, .int .i64 0, .slice none 0 0]
def VL (b:Nat) (x:iV) (tab':cT) (G:List Int) (N keep:Nat) (v:Value) (H':List Ent):Prop:= ∃ e:Int,v=eS e∧hU b x tab' G N keep (.int .i64 e) H'
theorem gK {b:Nat} {x:iV} {tab':cT} {G:List Int} {N keep:Nat} {v:Value} {H':List Ent} (h:hU b x tab' G N keep v H'): ∃ e:Int,v= .int .i64 e:=by
 rcases h with⟨_,h,_⟩|⟨_,_,_,_,h,_⟩
 ·exact⟨_,h⟩
 ·exact⟨_,h⟩
theorem asR {x:iV} {tab:cT} (hI:Inv x tab) {n:Nat} {y z:Nd} (hy:tab n=some y) (hk:y.kind=1) {c:kQ} (hc:UZ x.d c n z) (hg:c.gone=false) (hs:lW c) (hz:z.kind=1):oP x.d tab [c] (mJ tab n (some z))∧(∀ y∈[c],lW y)∧Shut (mJ tab n (some z))∧(aW [c]).length≤9:=by
 have zy: ∀ k:Nat,(∃ w,tab k=some w)→ ∃ w,mJ tab n (some z) k=some w:=fun k ⟨w,hw⟩=>by
  by_cases e:k=n
  ·exact⟨z,by rw[e,iN]⟩
  ·exact⟨w,by rw[eJ e];exact hw⟩
 refine⟨⟨Ja,fun y hy zx=> ?_,fun y hy _=> ?_,fun m hm=> ?_⟩,fun y hy=> ?_,⟨fun m w hw=> ?_,fun m w hw zw=> ?_, ?_⟩, ?_⟩
 ·rw[eh] at hy;subst hy;rw[hg] at zx;cases zx
 ·rw[eh] at hy;subst hy;exact⟨n,z,hc,iN _ _ _⟩
 ·exact eJ fun e=>hm c bu (by rw[hc.ino,e])
 ·rw[eh] at hy;subst hy;exact hs
 ·by_cases e:m=n
  ·rw[e,iN] at hw;cases hw;exact .inl hz
  ·rw[eJ e] at hw;exact hI.shut.kinds m w hw
 ·by_cases e:m=n
  ·rw[e,iN] at hw;cases hw;omega
  ·rw[eJ e] at hw;obtain⟨E,hE,zv⟩:=hI.shut.aP m w hw zw;exact⟨E,hE,fun p hp=>zy _ (zv p hp)⟩
 ·obtain⟨w,hw,zu⟩:=hI.shut.root;by_cases e:0=n
  ·rw[←e,hw] at hy;cases hy;omega
  ·exact⟨w,by rw[eJ e];exact hw,zu⟩
 ·have h1:=nB c;rw[Jf (by simp [hg])] at h1;have h2:=KE c.parts;have h3:=hs.2.1;simp only[aW,abw,afq,ke];omega
def wrE (at':Int) (text:List UInt8):Int:=if at'<0 then 1 else if text=[] then 0 else if 4096<(text.length:Int) then 2 else if 4096-(text.length:Int)<at' then 2 else 0
theorem aGP {n:Nat} {ps:List (List UInt8)} (h:gA n ps) (at':Int) (text:List UInt8):file.bR (n:Int) ps at' text=wrE at' text:=by
 unfold file.bR wrE;rw[Jf (by simp [jQ h])]
theorem aGQ {at':Int} {text:List UInt8} (h:wrE at' text=0):0≤at'∧(text=[]∨at'+text.length≤4096):=by
 unfold wrE at h;split at h
 ·cases h
 ·split at h
  ·next h1 h2=>exact⟨Z8, .inl h2⟩
  ·split at h
   ·cases h
   ·split at h
    ·cases h
    ·exact⟨Z8, .inr Z8⟩
theorem aoV {n at':Nat} {text:List UInt8} {ps:List (List UInt8)} (hg:gA n ps) (h:text=[]∨at'+text.length≤4096):gA (kX n at' text) (oG n at' text ps):=by
 have h1:=hg.1;have hsz:kX n at' text≤4096:=by
  unfold kX;split
  ·exact h1
  ·next zy=>have:=h.resolve_left zy;omega
 exact vS (DD ps hsz)
end fs
namespace fs
open dir uU
theorem pC {α:Type} (l:List α):l=[]∨ ∃ a s,l=a++[s]:=by
 by_cases h:l=[]
 ·exact .inl h
 ·exact .inr ⟨l.dropLast,l.getLast h,(List.dropLast_concat_getLast h).symm⟩
theorem VM {α:Type} {a b:List α} {s t:α} (h:a++[s]=b++[t]):a=b∧s=t:=by
 have:=List.append_inj' h rfl;exact⟨this.1,by simpa using this.2⟩
def Edge (tab:cT) (m:Nat) (s:List UInt8) (k:Nat):Prop:= ∃ x,tab m=some x∧x.kind=2∧(s,(k:Int))∈x.aP
theorem cI {tab:cT} (hS:Shut tab) {n:Nat} {x:Nd} (hx:tab n=some x) (hk:x.kind=2):kY x.aP∧iY x.bytes=some x.aP:=by
 obtain⟨E,hE,_⟩:=hS.aP n x hx hk;rw[sY hE];exact⟨mU hE,hE⟩
theorem dS {tab:cT} {n m:Nat}:aJ tab n []=(0,m)↔m=n:=by
 rw[aJ];exact⟨fun h=>(congrArg adr h).symm,fun h=>by rw[h]⟩
theorem iL {tab:cT} (hS:Shut tab) {n m:Nat} {s:List UInt8} {r:List (List UInt8)}:aJ tab n (s::r)=(0,m)↔ ∃ k,Edge tab n s k∧aJ tab k r=(0,m):=by
 constructor
 ·intro h;rw[aJ] at h;cases hx:tab n with
  |none=>rw[hx] at h;cases h
  |some x=>
   rw[hx] at h;dsimp only at h;split at h
   ·cases h
   ·next hk=>
    split at h
    ·next he=>exact absurd (congrArg afr h) he
    ·next he=>
     have zy:x.kind=2:=aab.1 hk;obtain⟨p,hp,h1,h2⟩:=asQ (aab.1 he);have:=(cQ ((cI hS hx zy).1.2.1 p hp)).2.1;refine⟨(jN x.aP s).toNat,⟨x,hx,zy, ?_⟩,h⟩;rw[h2,show ((p.2.toNat:Nat):Int)=p.2 from by omega, ←h1];exact hp
 ·rintro⟨k,⟨x,hx,hk,hp⟩,h⟩;have hg:=(cI hS hx hk).1;have hf:=uY hg (cQ (hg.2.1 _ hp)).1 hp;dsimp only at hf;rw[aJ,hx];dsimp only;rw[Jf (by simp [hk]),Jf (by simp [hf.1]),hf.2,dc];exact h
theorem zX {tab:cT} (hS:Shut tab): ∀ (A B:List (List UInt8)) {n m:Nat},aJ tab n (A++B)=(0,m)↔ ∃ k,aJ tab n A=(0,k)∧aJ tab k B=(0,m)
 |[],B,n,m=>by
  rw[dz];exact⟨fun h=>⟨n,dS.2 rfl,h⟩,fun⟨k,h1,h2⟩=>by rw[dS.1 h1] at h2;exact h2⟩
 |a::A,B,n,m=>by
  rw[dw,iL hS];constructor
  ·rintro⟨k,h1,h2⟩;obtain⟨j,h3,h4⟩:=(zX hS A B).1 h2;exact⟨j,(iL hS).2 ⟨k,h1,h3⟩,h4⟩
  ·rintro⟨j,h1,h2⟩;obtain⟨k,h3,h4⟩:=(iL hS).1 h1;exact⟨k,h3,(zX hS A B).2 ⟨j,h4,h2⟩⟩
theorem dK {tab:cT} (hS:Shut tab) {A:List (List UInt8)} {s:List UInt8} {n m:Nat}:aJ tab n (A++[s])=(0,m)↔ ∃ k,aJ tab n A=(0,k)∧Edge tab k s m:=by
 rw[zX hS];constructor
 ·rintro⟨k,h1,h2⟩;obtain⟨j,h3,h4⟩:=(iL hS).1 h2;rw[dS.1 h4];exact⟨k,h1,h3⟩
 ·rintro⟨k,h1,h2⟩;exact⟨k,h1,(iL hS).2 ⟨m,h2,dS.2 rfl⟩⟩
theorem uZ {tab:cT} (hO:VH tab) {m m' k:Nat} {s s':List UInt8} (h:Edge tab m s k) (h':Edge tab m' s' k):m=m'∧s=s':=by
 obtain⟨x,hx,hk,hp⟩:=h;obtain⟨y,hy,zy,hq⟩:=h';obtain⟨h1,h2⟩:=hO.one m m' x y _ _ hx hy hk zy hp hq rfl;exact⟨h1,congrArg afr h2⟩
theorem nW {tab:cT} (hO:VH tab) {m k:Nat} {s:List UInt8} (h:Edge tab m s k):1≤k∧k<48:=by
 obtain⟨x,hx,hk,hp⟩:=h;have:=hO.zero m x _ hx hk hp;dsimp only at this;omega
theorem oS {tab:cT} (hS:Shut tab) {m k:Nat} {s:List UInt8} (h:Edge tab m s k): ∃ y,tab k=some y:=by
 obtain⟨x,hx,hk,hp⟩:=h;obtain⟨E,hE,zy⟩:=hS.aP m x hx hk;rw[←sY hE] at zy;have:=zy _ hp;dsimp only at this;rwa [dc] at this
theorem akC {tab:cT} (hS:Shut tab) {m k k':Nat} {s:List UInt8} (h:Edge tab m s k) (h':Edge tab m s k'):k=k':=by
 obtain⟨x,hx,hk,hp⟩:=h;obtain⟨y,hy,_,hq⟩:=h';rw[hx] at hy;cases hy;have:=congrArg adr (LH (cI hS hx hk).1.2.2 hp hq rfl);dsimp only at this;omega
theorem vA {tab:cT} (hS:Shut tab) {L:List (List UInt8)} {n:Nat} (h:aJ tab 0 L=(0,n)): ∃ x,tab n=some x:=by
 rcases pC L with rfl|⟨A,s,rfl⟩
 ·rw[dS.1 h];obtain⟨x,hx,_⟩:=hS.root;exact⟨x,hx⟩
 ·obtain⟨k,_,h2⟩:=(dK hS).1 h;exact oS hS h2
theorem asS {tab:cT} (hS:Shut tab) (hO:VH tab): ∀ (k:Nat) {A B:List (List UInt8)} {n:Nat},A.length=k→aJ tab 0 A=(0,n)→aJ tab 0 B=(0,n)→A=B
 |0,A,B,n,hk,hA,hB=>by
  have h0:A=[]:=afp.1 hk;subst h0;rw[dS.1 hA] at hB;rcases pC B with h|⟨B',s,rfl⟩
  ·exact h.symm
  ·obtain⟨j,_,h2⟩:=(dK hS).1 hB;have:=nW hO h2;omega
 |k+1,A,B,n,hk,hA,hB=>by
  rcases pC A with rfl|⟨A',s,rfl⟩
  ·simp at hk
  obtain⟨j,h1,h2⟩:=(dK hS).1 hA;rcases pC B with rfl|⟨B',t,rfl⟩
  ·rw[dS.1 hB] at h2;have:=nW hO h2;omega
  ·obtain⟨j',h3,h4⟩:=(dK hS).1 hB;obtain⟨rfl,rfl⟩:=uZ hO h2 h4;rw[asS hS hO k (by simpa using hk) h1 h3]
structure LI (tab:cT):Prop where
 shut:Shut tab
 once:VH tab
 steps: ∀ L n,aJ tab 0 L=(0,n)→L.length≤8
 reach: ∀ n x,tab n=some x→ ∃ L,aJ tab 0 L=(0,n)
theorem LI.one {tab:cT} (h:LI tab) {A B:List (List UInt8)} {n:Nat} (hA:aJ tab 0 A=(0,n)) (hB:aJ tab 0 B=(0,n)):A=B:=asS h.shut h.once _ rfl hA hB
theorem PS {tab:cT} (hS:Shut tab) (h1: ∀ m m' s s' k,Edge tab m s k→Edge tab m' s' k→m=m'∧s=s') (h2: ∀ m s k,Edge tab m s k→1≤k):VH tab:=by
 have hp: ∀ n x p,tab n=some x→x.kind=2→p∈x.aP→(0≤p.2∧p.2<48)∧Edge tab n p.1 p.2.toNat:=fun n x p hx hk hp=>by
  have:=(cQ ((cI hS hx hk).1.2.1 p hp)).2;exact⟨this,x,hx,hk,by rw[show ((p.2.toNat:Nat):Int)=p.2 from by omega];exact hp⟩
 refine⟨fun n m x y p q hx hy hk zx zy zw he=> ?_,fun n x p hx hk zy=> ?_⟩
 ·obtain⟨a1,a2⟩:=hp n x p hx hk zy;obtain⟨b1,b2⟩:=hp m y q hy zx zw;rw[←he] at b2;obtain⟨h3,h4⟩:=h1 _ _ _ _ _ a2 b2;exact⟨h3,Prod.ext h4 he⟩
 ·obtain⟨a1,a2⟩:=hp n x p hx hk zy;have:=h2 _ _ _ a2;omega
section
variable {tab:cT} {rn ino:Nat} {y:Nd} {nm:List UInt8} {kind g:Int}
theorem aRX (tab:cT) (rn:Nat) (y:Nd) (nm:List UInt8) (ino:Nat) (kind g:Int):kE tab rn y nm ino kind g ino=some ⟨kind,g,0,[]⟩:=iN _ _ _
theorem aMZ (h:ino≠rn):kE tab rn y nm ino kind g rn=some (DJ y.gen (mT y.aP (nm,(ino:Int)))):=by
 unfold kE;rw[eJ (fun e=>h e.symm),iN]
theorem aGR {m:Nat} (h1:m≠ino) (h2:m≠rn):kE tab rn y nm ino kind g m=tab m:=by
 unfold kE;rw[eJ h1,eJ h2]
theorem abP (hy:tab rn=some y) (hk:y.kind=2) (zy:tM y.aP (nm,(ino:Int))=0) (zx:tab ino=none) {m k:Nat} {s:List UInt8}:Edge (kE tab rn y nm ino kind g) m s k↔Edge tab m s k∨(m=rn∧s=nm∧k=ino):=by
 have zw:ino≠rn:=by rintro rfl;rw[zx] at hy;cases hy
 unfold Edge;by_cases e1:m=ino
 ·subst e1;rw[aRX,zx];constructor
  ·rintro⟨x,hx,_,hp⟩;cases hx;exact absurd hp (by show ¬ _∈([]:List bH);exact ck)
  ·rintro (⟨x,hx,_⟩|⟨h,_⟩)
   ·cases hx
   ·exact absurd h zw
 ·by_cases e2:m=rn
  ·subst e2;rw[aMZ zw];have hg:=nG (g:=y.gen) (kN zy);constructor
   ·rintro⟨x,hx,_,hp⟩;cases hx;rw[hg.2] at hp;rcases pN.1 hp with h|h
    ·exact .inr ⟨rfl,congrArg afr h,by have:=congrArg adr h;dsimp only at this;omega⟩
    ·exact .inl ⟨y,hy,hk,h⟩
   ·rintro (⟨x,hx,_,hp⟩|⟨_,rfl,rfl⟩)
    ·rw[hy] at hx;cases hx;exact⟨_,rfl,rfl,by rw[hg.2];exact pN.2 (.inr hp)⟩
    ·exact⟨_,rfl,rfl,by rw[hg.2];exact pN.2 (.inl rfl)⟩
  ·rw[aGR e1 e2];exact⟨fun h=> .inl h,fun h=>h.resolve_right fun h=>e2 h.1⟩
theorem aGS (hT:LI tab) (zy:Shut (kE tab rn y nm ino kind g)) (hy:tab rn=some y) (hk:y.kind=2) (zx:tM y.aP (nm,(ino:Int))=0) (zw:tab ino=none) {A:List (List UInt8)} (hA:aJ tab 0 A=(0,rn)) {L:List (List UInt8)} {n:Nat}:aJ (kE tab rn y nm ino kind g) 0 L=(0,n)↔aJ tab 0 L=(0,n)∨(L=A++[nm]∧n=ino):=by
 have zu:ino≠rn:=by rintro rfl;rw[zw] at hy;cases hy
 have hE:=fun {m k:Nat} {s:List UInt8}=>abP (kind:=kind) (g:=g) hy hk zx zw (m:=m) (k:=k) (s:=s)
 have zv: ∀ (L:List (List UInt8)) (a n:Nat),aJ tab a L=(0,n)→aJ (kE tab rn y nm ino kind g) a L=(0,n):=by
  intro L;induction L with
  |nil=>intro a n h;rw[dS] at h ⊢;exact h
  |cons s L ih=>
   intro a n h;obtain⟨k,h1,h2⟩:=(iL hT.shut).1 h;exact (iL zy).2 ⟨k,hE.2 (.inl h1),ih k n h2⟩
 constructor
 ·have: ∀ (j:Nat) (L:List (List UInt8)) (n:Nat),L.length=j→aJ (kE tab rn y nm ino kind g) 0 L=(0,n)→aJ tab 0 L=(0,n)∨(L=A++[nm]∧n=ino):=by
   intro j;induction j with
   |zero=>
    intro L n hl h;have h0:L=[]:=afp.1 hl;subst h0;rw[dS] at h;exact .inl (dS.2 h)
   |succ j ih=>
    intro L n hl h;rcases pC L with rfl|⟨L',s,rfl⟩
    ·simp at hl
    obtain⟨p,h1,h2⟩:=(dK zy).1 h;rcases ih L' p ZO h1 with h3|⟨_,rfl⟩
    ·rcases hE.1 h2 with h4|⟨rfl,rfl,rfl⟩
     ·exact .inl ((dK hT.shut).2 ⟨p,h3,h4⟩)
     ·exact .inr ⟨by rw[hT.one h3 hA],rfl⟩
    ·rcases hE.1 h2 with⟨x,hx,_⟩|⟨h4,_⟩
     ·rw[zw] at hx;cases hx
     ·exact absurd h4 zu
  exact this _ L n rfl
 ·rintro (h|⟨rfl,rfl⟩)
  ·exact zv _ _ _ h
  ·exact (dK zy).2 ⟨rn,zv _ _ _ hA,hE.2 (.inr ⟨rfl,rfl,rfl⟩)⟩
theorem aGT (hT:LI tab) (zx:Shut (kE tab rn y nm ino kind g)) (hy:tab rn=some y) (hk:y.kind=2) (zy:tM y.aP (nm,(ino:Int))=0) (zw:tab ino=none) (h1:1≤ino) {A:List (List UInt8)} (hA:aJ tab 0 A=(0,rn)) (h8:A.length≤7):LI (kE tab rn y nm ino kind g):=by
 have hE:=fun {m k:Nat} {s:List UInt8}=>abP (kind:=kind) (g:=g) hy hk zy zw (m:=m) (k:=k) (s:=s)
 have hW:=fun {L:List (List UInt8)} {n:Nat}=>aGS (kind:=kind) (g:=g) hT zx hy hk zy zw hA (L:=L) (n:=n)
 have hn: ∀ m s, ¬ Edge tab m s ino:=fun m s h=>by
  obtain⟨z,hz⟩:=oS hT.shut h;rw[zw] at hz;cases hz
 refine⟨zx,PS zx (fun m m' s s' k h h'=> ?_) (fun m s k h=> ?_),fun L n h=> ?_,fun n x hx=> ?_⟩
 ·rcases hE.1 h with h3|⟨a1,a2,a3⟩<;>rcases hE.1 h' with h4|⟨b1,b2,b3⟩
  ·exact uZ hT.once h3 h4
  ·rw[b3] at h3;exact absurd h3 (hn _ _)
  ·rw[a3] at h4;exact absurd h4 (hn _ _)
  ·exact⟨a1.trans b1.symm,a2.trans b2.symm⟩
 ·rcases hE.1 h with h3|⟨_,_,a3⟩
  ·exact (nW hT.once h3).1
  ·omega
 ·rcases hW.1 h with h3|⟨rfl,_⟩
  ·exact hT.steps L n h3
  ·rw[ae,gk];omega
 ·by_cases e1:n=ino
  ·exact⟨_,hW.2 (.inr ⟨rfl,e1⟩)⟩
  ·have: ∃ z,tab n=some z:=by
    by_cases e2:n=rn
    ·exact⟨y,by rw[e2];exact hy⟩
    ·rw[aGR e1 e2] at hx;exact⟨x,hx⟩
   obtain⟨z,hz⟩:=this;obtain⟨L,hL⟩:=hT.reach n z hz;exact⟨L,hW.2 (.inl hL)⟩
end
section
variable {tab:cT} {rn ino:Nat} {y z:Nd} {nm:List UInt8}
theorem yI {E:List bH} (h:kY E) (hd:tO E nm=true) {p:bH}:p∈jO E nm↔p∈E∧p.1≠nm:=by
 refine⟨fun hp=>⟨(VJ h hp).1,(VJ h hp).2 hd⟩,fun⟨h1,h2⟩=> ?_⟩;obtain⟨q,hq,zy⟩:=aeH hd;have hlt:=(aj.1 hq).1;have heq:=(aj.1 hq).2;rw[←gl (gP E nm) E,bh hlt,heq] at h1;unfold jO;rcases ei.1 h1 with h1|h1
 ·exact ei.2 (.inl h1)
 ·rcases al.1 h1 with rfl|h1
  ·exact absurd zy h2
  ·exact ei.2 (.inr h1)
theorem aGU (tab:cT) (rn:Nat) (y:Nd) (nm:List UInt8) (ino:Nat):dU tab rn y nm ino ino=none:=iN _ _ _
theorem aNA (h:ino≠rn):dU tab rn y nm ino rn=some (DJ y.gen (jO y.aP nm)):=by
 unfold dU;rw[eJ (fun e=>h e.symm),iN]
theorem aGV {m:Nat} (h1:m≠ino) (h2:m≠rn):dU tab rn y nm ino m=tab m:=by
 unfold dU;rw[eJ h1,eJ h2]
theorem abQ (hS:Shut tab) (hy:tab rn=some y) (hk:y.kind=2) (hd:tO y.aP nm=true) (hz:tab ino=some z) (zy:z.kind=2→z.aP=[]) (zw:ino≠rn) {m k:Nat} {s:List UInt8}:Edge (dU tab rn y nm ino) m s k↔Edge tab m s k∧ ¬ (m=rn∧s=nm):=by
 have zx:=(cI hS hy hk).1;unfold Edge;by_cases e1:m=ino
 ·subst e1;rw[aGU,hz];constructor
  ·rintro⟨x,hx,_⟩;cases hx
  ·rintro⟨⟨x,hx,zv,hp⟩,_⟩;cases hx;rw[zy zv] at hp;exact absurd hp ck
 ·by_cases e2:m=rn
  ·subst e2;rw[aNA zw];have hg:=nG (g:=y.gen) (lS (s:=nm) zx);constructor
   ·rintro⟨x,hx,_,hp⟩;cases hx;rw[hg.2,yI zx hd] at hp;exact⟨⟨y,hy,hk,hp.1⟩,fun h=>hp.2 h.2⟩
   ·rintro⟨⟨x,hx,_,hp⟩,h⟩;rw[hy] at hx;cases hx;exact⟨_,rfl,rfl,by rw[hg.2,yI zx hd];exact⟨hp,fun e=>h ⟨rfl,e⟩⟩⟩
  ·rw[aGV e1 e2];exact⟨fun h=>⟨h,fun h=>e2 h.1⟩,fun h=>h.1⟩
theorem aNB (hz:tab ino=some z) (zy:z.kind=2→z.aP=[]) {s:List UInt8} {k:Nat}: ¬ Edge tab ino s k:=fun⟨x,hx,hk,hp⟩=>by
 rw[hz] at hx;cases hx;rw[zy hk] at hp;exact absurd hp ck
theorem aGW (hT:LI tab) (zw:Shut (dU tab rn y nm ino)) (hy:tab rn=some y) (hk:y.kind=2) (hd:tO y.aP nm=true) (hz:tab ino=some z) (zy:z.kind=2→z.aP=[]) (zv:Edge tab rn nm ino) (zu:ino≠rn) {A:List (List UInt8)} (hA:aJ tab 0 A=(0,rn)) {L:List (List UInt8)} {n:Nat}:aJ (dU tab rn y nm ino) 0 L=(0,n)↔aJ tab 0 L=(0,n)∧L≠A++[nm]:=by
 have hE:=fun {m k:Nat} {s:List UInt8}=>abQ hT.shut hy hk hd hz zy zu (m:=m) (k:=k) (s:=s)
 have zx: ∀ (j:Nat) (L:List (List UInt8)) (n:Nat),L.length=j→(aJ (dU tab rn y nm ino) 0 L=(0,n)↔aJ tab 0 L=(0,n)∧L≠A++[nm]):=by
  intro j;induction j with
  |zero=>
   intro L n hl;have h0:L=[]:=afp.1 hl;subst h0;rw[dS,dS];exact⟨fun h=>⟨h,Ja⟩,fun h=>h.1⟩
  |succ j ih=>
   intro L n hl;rcases pC L with rfl|⟨L',s,rfl⟩
   ·simp at hl
   rw[dK zw,dK hT.shut];have hj:L'.length=j:=by simpa using hl
   constructor
   ·rintro⟨p,h1,h2⟩;obtain⟨h3,h4⟩:=hE.1 h2;obtain⟨h5,h6⟩:=(ih L' p hj).1 h1;refine⟨⟨p,h5,h3⟩,fun e=> ?_⟩;obtain⟨rfl,rfl⟩:=VM e;rw[hA] at h5;exact h4 ⟨(congrArg adr h5).symm,rfl⟩
   ·rintro⟨⟨p,h1,h2⟩,h3⟩;refine⟨p,(ih L' p hj).2 ⟨h1,fun e=> ?_⟩,hE.2 ⟨h2,fun e=> ?_⟩⟩
    ·subst e;obtain⟨q,h4,h5⟩:=(dK hT.shut).1 h1;rw[hA] at h4;cases h4;rw[akC hT.shut h5 zv] at h2;exact aNB hz zy h2
    ·obtain⟨rfl,rfl⟩:=e;exact h3 (by rw[hT.one h1 hA])
 exact zx _ L n rfl
theorem aGX (hT:LI tab) (zx:Shut (dU tab rn y nm ino)) (hy:tab rn=some y) (hk:y.kind=2) (hd:tO y.aP nm=true) (hz:tab ino=some z) (zy:z.kind=2→z.aP=[]) (zw:Edge tab rn nm ino) (zv:ino≠rn) {A:List (List UInt8)} (hA:aJ tab 0 A=(0,rn)):LI (dU tab rn y nm ino):=by
 have hE:=fun {m k:Nat} {s:List UInt8}=>abQ hT.shut hy hk hd hz zy zv (m:=m) (k:=k) (s:=s)
 have hW:=fun {L:List (List UInt8)} {n:Nat}=>aGW hT zx hy hk hd hz zy zw zv hA (L:=L) (n:=n)
 refine⟨zx,PS zx (fun m m' s s' k h h'=>uZ hT.once (hE.1 h).1 (hE.1 h').1) (fun m s k h=>(nW hT.once (hE.1 h).1).1),fun L n h=>hT.steps L n (hW.1 h).1,fun n x hx=> ?_⟩;have hn:n≠ino:=by rintro rfl;rw[aGU] at hx;cases hx
 have: ∃ w,tab n=some w:=by
  by_cases e2:n=rn
  ·exact⟨y,by rw[e2];exact hy⟩
  ·rw[aGV hn e2] at hx;exact⟨x,hx⟩
 obtain⟨w,hw⟩:=this;obtain⟨L,hL⟩:=hT.reach n w hw;refine⟨L,hW.2 ⟨hL,fun e=>hn ?_⟩⟩;subst e;obtain⟨q,h4,h5⟩:=(dK hT.shut).1 hL;rw[hA] at h4;cases h4;exact akC hT.shut h5 zw
end
section
variable {tab:cT} {n:Nat} {y z:Nd}
theorem yJ (hy:tab n=some y) (hk:y.kind=1) (hz:z.kind=1) {m k:Nat} {s:List UInt8}:Edge (mJ tab n (some z)) m s k↔Edge tab m s k:=by
 unfold Edge;by_cases e:m=n
 ·subst e;rw[iN,hy];constructor
  ·rintro⟨x,hx,zy,_⟩;cases hx;omega
  ·rintro⟨x,hx,zy,_⟩;cases hx;omega
 ·rw[eJ e]
theorem PU (hS:Shut tab) (zy:Shut (mJ tab n (some z))) (hy:tab n=some y) (hk:y.kind=1) (hz:z.kind=1): ∀ (L:List (List UInt8)) {a m:Nat},aJ (mJ tab n (some z)) a L=(0,m)↔aJ tab a L=(0,m)
 |[],a,m=>by rw[dS,dS]
 |s::L,a,m=>by
  rw[iL hS,iL zy];constructor
  ·rintro⟨k,h1,h2⟩;exact⟨k,(yJ hy hk hz).1 h1,(PU hS zy hy hk hz L).1 h2⟩
  ·rintro⟨k,h1,h2⟩;exact⟨k,(yJ hy hk hz).2 h1,(PU hS zy hy hk hz L).2 h2⟩
theorem asT (hT:LI tab) (zy:Shut (mJ tab n (some z))) (hy:tab n=some y) (hk:y.kind=1) (hz:z.kind=1):LI (mJ tab n (some z)):=by
 refine⟨zy,PS zy (fun m m' s s' k h h'=>uZ hT.once ((yJ hy hk hz).1 h) ((yJ hy hk hz).1 h')) (fun m s k h=>(nW hT.once ((yJ hy hk hz).1 h)).1),fun L m h=>hT.steps L m ((PU hT.shut zy hy hk hz L).1 h),fun m x hx=> ?_⟩;have: ∃ w,tab m=some w:=by
  by_cases e:m=n
  ·exact⟨y,by rw[e];exact hy⟩
  ·rw[eJ e] at hx;exact⟨x,hx⟩
 obtain⟨w,hw⟩:=this;obtain⟨L,hL⟩:=hT.reach m w hw;exact⟨L,(PU hT.shut zy hy hk hz L).2 hL⟩
end
theorem asU {tab:cT} (hS:Shut tab): ∀ (k n:Nat),(∃ x,tab n=some x)→Deep tab k n∨ ∃ L m,L.length=k∧aJ tab n L=(0,m)
 |0,n,_=> .inr ⟨[],n,rfl,dS.2 rfl⟩
 |k+1,n,⟨x,hx⟩=>by
  by_cases hk:x.kind=2
  ·rcases afn (∀ p∈x.aP,Deep tab k p.2.toNat) with h|h
   ·exact .inl ⟨x,hx,fun _=>h⟩
   ·obtain⟨p,h⟩:=aft.1 h;obtain⟨hp,hd⟩:=afu.1 h;have hg:=(cQ ((cI hS hx hk).1.2.1 p hp)).2.1;have he:Edge tab n p.1 p.2.toNat:=⟨x,hx,hk,by rw[show ((p.2.toNat:Nat):Int)=p.2 from by omega];exact hp⟩;rcases asU hS k p.2.toNat (oS hS he) with h|⟨L,m,h1,h2⟩
    ·exact absurd h hd
    ·exact .inr ⟨p.1::L,m,by rw[dv,h1],(iL hS).2 ⟨_,he,h2⟩⟩
  ·exact .inl ⟨x,hx,fun e=>absurd e hk⟩
theorem LI.aGY {tab:cT} (h:LI tab) {A:List (List UInt8)} {n:Nat} (hA:aJ tab 0 A=(0,n)):Deep tab 9 n:=by
 rcases asU h.shut 9 n (vA h.shut hA) with h1|⟨L,m,h1,h2⟩
 ·exact h1
 ·have:=h.steps (A++L) m ((zX h.shut A L).2 ⟨n,hA,h2⟩);rw[ae] at this;omega
end fs
namespace fs
open dir uU
def lO (pm pn:Nat) (x:Nd) (bL:List UInt8):List bH:=if pm=pn then jO x.aP bL else x.aP
def eO (tab:cT) (pm:Nat) (y:Nd) (bL:List UInt8) (pn:Nat) (x:Nd) (name:List UInt8) (ino:Nat):cT:=
 if pm=pn then mJ tab pn (some (DJ x.gen (mT (lO pm pn x bL) (name,(ino:Int)))))
 else mJ (mJ tab pn (some (DJ x.gen (mT (lO pm pn x bL) (name,(ino:Int)))))) pm (some (DJ y.gen (jO y.aP bL)))
section
variable {tab:cT} {pm pn ino:Nat} {x y:Nd} {bL name:List UInt8}
theorem DK:eO tab pm y bL pn x name ino pn=some (DJ x.gen (mT (lO pm pn x bL) (name,(ino:Int)))):=by
 unfold eO;split
 ·exact iN _ _ _
 ·next h=>rw[eJ (fun e=>h e.symm),iN]
theorem vC (h:pm≠pn):eO tab pm y bL pn x name ino pm=some (DJ y.gen (jO y.aP bL)):=by
 unfold eO;rw[Jf h,iN]
theorem DL {m:Nat} (h1:m≠pm) (h2:m≠pn):eO tab pm y bL pn x name ino m=tab m:=by
 unfold eO;split
 ·rw[eJ h2]
 ·rw[eJ h1,eJ h2]
theorem ayI (hS:Shut tab) (hy:tab pm=some y) (xW:y.kind=2) (hx:tab pn=some x) (hxk:x.kind=2) (hd:tO y.aP bL=true) (zx:tM (lO pm pn x bL) (name,(ino:Int))=0) {m k:Nat} {s:List UInt8}:Edge (eO tab pm y bL pn x name ino) m s k↔(Edge tab m s k∧ ¬ (m=pm∧s=bL))∨(m=pn∧s=name∧k=ino):=by
 have zy:=(cI hS hy xW).1;have zw:=nG (g:=x.gen) (kN zx);have zv:=nG (g:=y.gen) (lS (s:=bL) zy);have hold: ∀ p,p∈lO pm pn x bL↔p∈x.aP∧ ¬ (pn=pm∧p.1=bL):=fun p=>by
  unfold lO;split
  ·next e=>
   subst e;rw[hy] at hx;cases hx;rw[yI zy hd];exact⟨fun h=>⟨h.1,fun e=>h.2 e.2⟩,fun h=>⟨h.1,fun e=>h.2 ⟨rfl,e⟩⟩⟩
  ·next e=>exact⟨fun h=>⟨h,fun h=>e h.1.symm⟩,fun h=>h.1⟩
 unfold Edge;by_cases e2:m=pn
 ·subst e2;rw[DK];constructor
  ·rintro⟨z,hz,_,hp⟩;cases hz;rw[zw.2] at hp;rcases pN.1 hp with h|h
   ·exact .inr ⟨rfl,congrArg afr h,by have:=congrArg adr h;dsimp only at this;omega⟩
   ·have:=(hold _).1 h;exact .inl ⟨⟨x,hx,hxk,this.1⟩,this.2⟩
  ·rintro (⟨⟨z,hz,_,hp⟩,h⟩|⟨_,rfl,rfl⟩)
   ·rw[hx] at hz;cases hz;exact⟨_,rfl,rfl,by rw[zw.2];exact pN.2 (.inr ((hold _).2 ⟨hp,h⟩))⟩
   ·exact⟨_,rfl,rfl,by rw[zw.2];exact pN.2 (.inl rfl)⟩
 ·by_cases e1:m=pm
  ·subst e1;rw[vC e2];constructor
   ·rintro⟨z,hz,_,hp⟩;cases hz;rw[zv.2,yI zy hd] at hp;exact .inl ⟨⟨y,hy,xW,hp.1⟩,fun h=>hp.2 h.2⟩
   ·rintro (⟨⟨z,hz,_,hp⟩,h⟩|⟨h,_⟩)
    ·rw[hy] at hz;cases hz;exact⟨_,rfl,rfl,by rw[zv.2,yI zy hd];exact⟨hp,fun e=>h ⟨rfl,e⟩⟩⟩
    ·exact absurd h e2
  ·rw[DL e1 e2];exact⟨fun h=> .inl ⟨h,fun h=>e1 h.1⟩,fun h=>(h.resolve_right fun h=>e2 h.1).1⟩
structure jD (tab:cT) (A:List (List UInt8)) (pm:Nat) (y:Nd) (bL:List UInt8) (B:List (List UInt8)) (pn:Nat) (x:Nd) (name:List UInt8) (ino:Nat):Prop where
 ok:LI tab
 wa:aJ tab 0 A=(0,pm)
 hy:tab pm=some y
 xW:y.kind=2
 ed:Edge tab pm bL ino
 wb:aJ tab 0 B=(0,pn)
 hx:tab pn=some x
 hxk:x.kind=2
 un: ¬ (A++[bL])<+:(B++[name])
 add:tM (lO pm pn x bL) (name,(ino:Int))=0
theorem aGZ {α:Type} {a l:List α} {s:α} (h:a<+:l++[s]):a<+:l∨a=l++[s]:=by
 obtain⟨t,ht⟩:=h;rcases pC t with rfl|⟨t',u,rfl⟩
 ·rw[ke] at ht;exact .inr ht
 ·rw[←fu] at ht;exact .inl ⟨t',(VM ht).1⟩
variable {A B:List (List UInt8)}
theorem jD.isd (h:jD tab A pm y bL B pn x name ino):tO y.aP bL=true:=by
 obtain⟨z,hz,hk,hp⟩:=h.ed;rw[h.hy] at hz;cases hz;exact (sX (cI h.ok.shut h.hy h.xW).1.2.2).2 ⟨_,hp,rfl⟩
theorem jD.aRY (h:jD tab A pm y bL B pn x name ino) {m k:Nat} {s:List UInt8}:Edge (eO tab pm y bL pn x name ino) m s k↔(Edge tab m s k∧ ¬ (m=pm∧s=bL))∨(m=pn∧s=name∧k=ino):=
 ayI h.ok.shut h.hy h.xW h.hx h.hxk h.isd h.add
theorem jD.there (h:jD tab A pm y bL B pn x name ino) {n:Nat}:(∃ z,eO tab pm y bL pn x name ino n=some z)↔ ∃ z,tab n=some z:=by
 by_cases e2:n=pn
 ·subst e2;rw[DK];exact⟨fun _=>⟨x,h.hx⟩,fun _=>⟨_,rfl⟩⟩
 ·by_cases e1:n=pm
  ·subst e1;rw[vC e2];exact⟨fun _=>⟨y,h.hy⟩,fun _=>⟨_,rfl⟩⟩
  ·rw[DL e1 e2]
theorem jD.shut (h:jD tab A pm y bL B pn x name ino):Shut (eO tab pm y bL pn x name ino):=by
 have zx:=nG (g:=x.gen) (kN h.add);have zw:=nG (g:=y.gen) (lS (s:=bL) (cI h.ok.shut h.hy h.xW).1);have zy: ∀ n z,eO tab pm y bL pn x name ino n=some z→z.kind=2→kY z.aP∧iY z.bytes=some z.aP:=fun n z hz hk=>by
  by_cases e2:n=pn
  ·subst e2;rw[DK] at hz;cases hz;rw[zx.2];exact⟨kN h.add,zx.1⟩
  ·by_cases e1:n=pm
   ·subst e1;rw[vC e2] at hz;cases hz;rw[zw.2];exact⟨lS (cI h.ok.shut h.hy h.xW).1,zw.1⟩
   ·rw[DL e1 e2] at hz;exact cI h.ok.shut hz hk
 refine⟨fun n z hz=> ?_,fun n z hz hk=> ?_, ?_⟩
 ·by_cases e2:n=pn
  ·subst e2;rw[DK] at hz;cases hz;exact .inr rfl
  ·by_cases e1:n=pm
   ·subst e1;rw[vC e2] at hz;cases hz;exact .inr rfl
   ·rw[DL e1 e2] at hz;exact h.ok.shut.kinds n z hz
 ·obtain⟨h1,h2⟩:=zy n z hz hk;refine⟨_,h2,fun p hp=> ?_⟩;have hg:=(cQ (h1.2.1 p hp)).2.1;have he:Edge (eO tab pm y bL pn x name ino) n p.1 p.2.toNat:=⟨z,hz,hk,by rw[show ((p.2.toNat:Nat):Int)=p.2 from by omega];exact hp⟩;refine h.there.2 ?_;rcases h.aRY.1 he with h3|⟨_,_,h3⟩
  ·exact oS h.ok.shut h3.1
  ·rw[h3];exact oS h.ok.shut h.ed
 ·obtain⟨z,hz,hk⟩:=h.ok.shut.root;obtain⟨w,hw⟩:=h.there.2 ⟨z,hz⟩;refine⟨w,hw, ?_⟩;by_cases e2:0=pn
  ·rw[e2,DK] at hw;cases hw;rfl
  ·by_cases e1:0=pm
   ·rw[e1,vC (fun e=>e2 (e1.trans e))] at hw;cases hw;rfl
   ·rw[DL e1 e2,hz] at hw;cases hw;exact hk
theorem jD.nH (h:jD tab A pm y bL B pn x name ino) {L:List (List UInt8)} {n:Nat}:aJ (eO tab pm y bL pn x name ino) 0 L=(0,n)↔(aJ tab 0 L=(0,n)∧ ¬ (A++[bL])<+:L)∨ ∃ r,L=(B++[name])++r∧aJ tab 0 ((A++[bL])++r)=(0,n):=by
 have hS:=h.ok.shut;have zy:=h.shut;have hE:=fun {m k:Nat} {s:List UInt8}=>h.aRY (m:=m) (k:=k) (s:=s)
 have ha:aJ tab 0 (A++[bL])=(0,ino):=(dK hS).2 ⟨pm,h.wa,h.ed⟩;have hB: ¬ (A++[bL])<+:B:=fun⟨t,ht⟩=>h.un ⟨t++[name],by rw[←fu,ht]⟩
 have keep: ∀ (j:Nat) (L:List (List UInt8)) (n:Nat),L.length=j→aJ tab 0 L=(0,n)→ ¬ (A++[bL])<+:L→aJ (eO tab pm y bL pn x name ino) 0 L=(0,n):=by
  intro j;induction j with
  |zero=>
   intro L n hl h1 _;have h0:L=[]:=afp.1 hl;subst h0;rw[dS] at h1 ⊢;exact h1
  |succ j ih=>
   intro L n hl h1 h2;rcases pC L with rfl|⟨L',s,rfl⟩
   ·simp at hl
   obtain⟨p,h3,h4⟩:=(dK hS).1 h1;refine (dK zy).2 ⟨p,ih L' p ZO h3 (fun⟨t,ht⟩=>h2 ⟨t++[s],by rw[←fu,ht]⟩),hE.2 (.inl ⟨h4,fun e=>h2 ?_⟩)⟩;obtain⟨rfl,rfl⟩:=e;rw[h.ok.one h3 h.wa];exact List.prefix_refl _
 have carry: ∀ (j:Nat) (r:List (List UInt8)) (n:Nat),r.length=j→aJ tab 0 ((A++[bL])++r)=(0,n)→aJ (eO tab pm y bL pn x name ino) 0 ((B++[name])++r)=(0,n):=by
  intro j;induction j with
  |zero=>
   intro r n hl h1;have h0:r=[]:=afp.1 hl;subst h0;rw[ke] at h1 ⊢;rw[ha] at h1;cases h1;exact (dK zy).2 ⟨pn,keep _ B pn rfl h.wb hB,hE.2 (.inr ⟨rfl,rfl,rfl⟩)⟩
  |succ j ih=>
   intro r n hl h1;rcases pC r with rfl|⟨r',s,rfl⟩
   ·simp at hl
   rw[←fu] at h1 ⊢;obtain⟨p,h3,h4⟩:=(dK hS).1 h1;refine (dK zy).2 ⟨p,ih r' p ZO h3,hE.2 (.inl ⟨h4,fun e=> ?_⟩)⟩;obtain⟨rfl,rfl⟩:=e;have:=congrArg List.length (h.ok.one h3 h.wa);rw[ae,ae,gk] at this;omega
 constructor
 ·have: ∀ (j:Nat) (L:List (List UInt8)) (n:Nat),L.length=j→aJ (eO tab pm y bL pn x name ino) 0 L=(0,n)→(aJ tab 0 L=(0,n)∧ ¬ (A++[bL])<+:L)∨ ∃ r,L=(B++[name])++r∧aJ tab 0 ((A++[bL])++r)=(0,n):=by
   intro j;induction j with
   |zero=>
    intro L n hl h1;have h0:L=[]:=afp.1 hl;subst h0;rw[dS] at h1;exact .inl ⟨dS.2 h1,fun h=>by have:=h.length_le;simp at this⟩
   |succ j ih=>
    intro L n hl h1;rcases pC L with rfl|⟨L',s,rfl⟩
    ·simp at hl
    obtain⟨p,h3,h4⟩:=(dK zy).1 h1;rcases ih L' p ZO h3 with⟨h5,h6⟩|⟨r,rfl,h5⟩
    ·rcases hE.1 h4 with⟨h7,h8⟩|⟨rfl,rfl,rfl⟩
     ·refine .inl ⟨(dK hS).2 ⟨p,h5,h7⟩,fun hp=> ?_⟩;rcases aGZ hp with h9|h9
      ·exact h6 h9
      ·obtain⟨rfl,rfl⟩:=VM h9;rw[h.wa] at h5;exact h8 ⟨(congrArg adr h5).symm,rfl⟩
     ·rw[h.ok.one h5 h.wb];exact .inr ⟨[],by rw[ke],by rw[ke];exact ha⟩
    ·rcases hE.1 h4 with⟨h7,h8⟩|⟨rfl,rfl,rfl⟩
     ·exact .inr ⟨r++[s],by rw[fu],by rw[←fu];exact (dK hS).2 ⟨p,h5,h7⟩⟩
     ·exact absurd ⟨r,h.ok.one h5 h.wb⟩ hB
  exact this _ L n rfl
 ·rintro (⟨h1,h2⟩|⟨r,rfl,h1⟩)
  ·exact keep _ L n rfl h1 h2
  ·exact carry _ r n rfl h1
theorem jD.okT (h:jD tab A pm y bL B pn x name ino) (h8: ∀ r n,aJ tab 0 ((A++[bL])++r)=(0,n)→(B++[name]).length+r.length≤8):LI (eO tab pm y bL pn x name ino):=by
 have hE:=fun {m k:Nat} {s:List UInt8}=>h.aRY (m:=m) (k:=k) (s:=s)
 have hp:=nW h.ok.once h.ed;have zx: ∀ m s,Edge tab m s ino→m=pm∧s=bL:=fun m s he=>uZ h.ok.once he h.ed
 refine⟨h.shut,PS h.shut (fun m m' s s' k h1 h2=> ?_) (fun m s k h1=> ?_),fun L n h1=> ?_,fun n z hz=> ?_⟩
 ·rcases hE.1 h1 with⟨h3,h4⟩|⟨a1,a2,a3⟩<;>rcases hE.1 h2 with⟨h5,h6⟩|⟨b1,b2,b3⟩
  ·exact uZ h.ok.once h3 h5
  ·rw[b3] at h3;exact absurd (zx _ _ h3) h4
  ·rw[a3] at h5;exact absurd (zx _ _ h5) h6
  ·exact⟨a1.trans b1.symm,a2.trans b2.symm⟩
 ·rcases hE.1 h1 with⟨h3,_⟩|⟨_,_,a3⟩
  ·exact (nW h.ok.once h3).1
  ·omega
 ·rcases h.nH.1 h1 with⟨h2,_⟩|⟨r,rfl,h2⟩
  ·exact h.ok.steps L n h2
  ·rw[ae];exact h8 r n h2
 ·obtain⟨w,hw⟩:=h.there.1 ⟨z,hz⟩;obtain⟨L,hL⟩:=h.ok.reach n w hw;by_cases zy:(A++[bL])<+:L
  ·obtain⟨r,rfl⟩:=zy;exact⟨(B++[name])++r,h.nH.2 (.inr ⟨r,rfl,hL⟩)⟩
  ·exact⟨L,h.nH.2 (.inl ⟨hL,zy⟩)⟩
end
end fs
namespace fs
open dir uU
theorem IM: ∀ (l out:List (List UInt8)),((∀ s∈out,gU s)∧out.length≤8)→(∀ s∈(nH.LM out l).1,gU s)∧(nH.LM out l).1.length≤8
 |[],out,h=>h
 |n::l,out,h=>by
  rw[nH.LM];split
  ·exact IM l out h
  ·split
   ·exact IM l _ ⟨fun s hs=>h.1 s ((List.dropLast_sublist out).subset hs),by rw[List.length_dropLast];omega⟩
   ·split
    ·exact⟨fun s hs=>absurd hs ck,fe _⟩
    ·next hg=>
     split
     ·exact⟨fun s hs=>absurd hs ck,fe _⟩
     ·refine IM l _ ⟨fun s hs=> ?_,by rw[ae,gk];omega⟩;rcases ei.1 hs with hs|hs
      ·exact h.1 s hs
      ·rw[eh] at hs;subst hs;exact aab.1 hg
theorem cW {s:List UInt8} {L:List (List UInt8)} {e:Int} (h:nH.aV s=(L,e)):(∀ t∈L,gU t)∧L.length≤8:=by
 have h1:(nH.aV s).1=L:=by rw[h]
 rw[←h1];unfold nH.aV;split
 ·exact⟨fun s hs=>absurd hs ck,fe _⟩
 ·split
  ·exact IM _ [] ⟨fun s hs=>absurd hs ck,fe _⟩
  ·exact⟨fun s hs=>absurd hs ck,fe _⟩
def aE (x:iV):iV:=⟨x.d,x.gJ,x.turn,x.qf,x.cf,x.fr,none,0,[]⟩
theorem qN {x:iV} {tab:cT} (h:Inv x tab):Inv (aE x) tab:=⟨h.pM,h.shut,h.room,h.gJ,h.ayF,h.turn,h.two⟩
theorem fF {s:List UInt8} (hs:s.length≤1000000000000000) {L:List (List UInt8)} {e:Int} (h:nH.aV s=(L,e)):Ct lk 61 [.string (str s)] [] fun v H'=> ∃ q c,v= .tuple #[.slice q L.length c, .int .i64 e]∧H'=[own (.slice q L.length c) 9 1 L.length (flat fT L)]:=
 bY (nH.uG s Zl) fun v H' h2=>by
  obtain⟨q,c,h3,h4⟩:=h2;rw[h] at h3 h4;exact⟨q,c,h3,h4⟩
def jG (k:Int) (s:List UInt8) (s2:ByteArray) (at' N:Int) (text:List UInt8):Value:= .agg #[.int .i64 k, .string (str s), .string s2, .int .i64 at', .int .i64 N, .string (str text)]
attribute [local irreducible] box own sl bL aH bJ Qt cN cM dG dL eQ
theorem gX (e:Int):Ct lk 57 [.int .i64 e] [] fun v H'=>v=eS e∧H'=[]:=by
 unfold eS;(refine Ye Tryz.func57 Tryz.ntmps57 ?_;intro Fr);(refine bF ?_;intro b);exact Ea (x:=⟨rfl,rfl⟩)
theorem ayZ (b:Nat) (q:Option Addr) (c:Nat) (k:Int):Ct lk 62 [aH b 0, .slice q 0 c, .int .i64 k] [] fun v H'=>v= .int .i64 13∧H'=[]:=by
 (refine Ye Tryz.func62 Tryz.ntmps62 ?_;intro Fr);refine bM ?_;exact Ea (x:=⟨rfl,rfl⟩)
theorem azA {b:Nat} {x:iV} {tab:cT} {r:Int×Nat} {nm:List UInt8} {ino:Nat} {kind g:Int} {v:Value} {H':List Ent} (h:BC b x tab r nm ino kind g v H'): ∃ e:Int,v= .int .i64 e:=by
 rcases h with⟨e,_,_,h,_⟩|⟨y,_,_,h⟩
 ·exact⟨e,h⟩
 ·exact gK h
end fs
namespace fs
open dir uU
attribute [local irreducible] box own sl bL aH bJ Qt cN cM dG dL eQ
theorem aSA (b:Nat) (x:iV) (k:Int) (hk:k<1∨12<k) (s:List UInt8) (s2:ByteArray) (at' N:Int) (text:List UInt8):
  Ct lk 15 [aH b 0,jG k s s2 at' N text] (bI b x) fun v H'=>v=eS 1∧H'=bI b (aE x):=by
 have FA:=gX;unfold eS at FA ⊢;unfold aE jG;obtain⟨d,s0,tn,qf,cf,F,qo,co,Lo⟩:=x;obtain⟨a,ca,cs,w,cw,wl,m,cm,at1,qg,cg,aA⟩:=d;unfold bI bC aX at*;dsimp only[dw,dz] at*;(refine Ye Tryz.func15 Tryz.ntmps15 ?_;intro Fr);refine aO (aS _ 87 3) ?_;(repeat' (first|refine Y1 ?_|(refine Wb ?_;intro b)|(refine Wq ?_;intro q)|refine Wc (FA ..) ?_|(refine Ws ?_ ?_<;>intro h)|refine Wz ?_|fail));exact Ea (x:=⟨rfl,rfl⟩)
def aHT (k:Int):Prop:=k=1∨k=2∨k=3∨k=4∨k=5∨k=6∨k=7∨k=9∨k=10
def aHU (k:Int):Prop:=k=3∨k=4∨k=5∨k=6∨k=7∨k=9∨k=10
theorem aeM (b:Nat) (x:iV) (k:Int) (hk:aHT k) (s:List UInt8) (hs:s.length≤1000000000000000) {L:List (List UInt8)} {e:Int} (h:nH.aV s=(L,e)) (he:e≠0) (s2:ByteArray) (at' N:Int) (text:List UInt8):
  Ct lk 15 [aH b 0,jG k s s2 at' N text] (bI b x) fun v H'=>v=eS e∧H'=bI b (aE x):=by
 have S0:=fF hs h;have FA:=gX;unfold eS at FA ⊢;unfold aE jG;obtain⟨d,s0,tn,qf,cf,F,qo,co,Lo⟩:=x;obtain⟨a,ca,cs,w,cw,wl,m,cm,at1,qg,cg,aA⟩:=d;unfold bI bC aX at*;dsimp only[dw,dz] at*;rcases hk with rfl|rfl|rfl|rfl|rfl|rfl|rfl|rfl|rfl;all_goals
  (refine Ye Tryz.func15 Tryz.ntmps15 ?_;intro Fr);refine aO (aS _ 87 3) ?_;(repeat' (first|refine Y2 ?_|(refine Wb ?_;intro b)|(refine Wq ?_;intro q)|(refine Ws ?_ ?_<;>intro h)|refine Wz ?_|fail));(refine Ca (S0) ?_;rintro _ _ ⟨_,⟨q1,c1,rfl,rfl⟩,rfl⟩;refine Da ?_);refine lG ?_;exact Ea (x:=⟨rfl,rfl⟩)
theorem akR (b:Nat) (x:iV) {tab:cT} (hI:Inv x tab) (k:Int) (hk:aHU k) (s:List UInt8) (hs:s.length≤1000000000000000) {L:List (List UInt8)} (h:nH.aV s=(L,0)) {e:Int} {n:Nat} (hw:aJ tab 0 L=(e,n)) (he:e≠0) (s2:ByteArray) (at' N:Int) (text:List UInt8):
  Ct lk 15 [aH b 0,jG k s s2 at' N text] (bI b x) fun v H'=>v=eS e∧H'=bI b (aE x):=by
 have S0:=fF hs h;obtain⟨zy,hl8⟩:=cW h;have FA:=gX;have W0:=fun qL cL=>iK b (aE x).d (.int .i64 (aE x).gJ) (.int .i64 (aE x).turn) (.slice (aE x).qf (aE x).fr.length (aE x).cf) (.slice (aE x).qo (aE x).ops.length (aE x).co) tab hI.pM hI.shut qL cL L Z8 (fun s hs=>by have:=(zy s hs).2.2.2.1;omega)
 rw[hw] at W0;have W1: ∀ qL cL,Ct lk 63 [aH b 0, .slice qL L.length cL] (bC b (aE x).d (.int .i64 (aE x).gJ) (.int .i64 (aE x).turn) (.slice (aE x).qf (aE x).fr.length (aE x).cf) (.slice (aE x).qo (aE x).ops.length (aE x).co)::sl 1 (.slice qL L.length cL) (L.map fT)::aX (aE x).d) fun v H'=>v= .tuple #[.int .i64 0, .agg #[.int .i64 0, .int .i64 0, .int .i64 0, .slice none 0 0], .int .i64 e]∧H'=[bC b (aE x).d (.int .i64 (aE x).gJ) (.int .i64 (aE x).turn) (.slice (aE x).qf (aE x).fr.length (aE x).cf) (.slice (aE x).qo (aE x).ops.length (aE x).co)]:=fun qL cL=>bY (W0 qL cL) fun v H' h2=>by
  rcases h2 with⟨_,h3,h4⟩|⟨_,_,_,_,⟨h3,_⟩,_⟩
  ·exact⟨h3,h4⟩
  ·exact absurd h3 he
 clear W0;unfold eS at FA ⊢;unfold aE at*;unfold jG;obtain⟨d,s0,tn,qf,cf,F,qo,co,Lo⟩:=x;obtain⟨a,ca,cs,w,cw,wl,m,cm,at1,qg,cg,aA⟩:=d;unfold bI bC aX at*;dsimp only[dw,dz] at*;rcases hk with rfl|rfl|rfl|rfl|rfl|rfl|rfl;all_goals
  (refine Ye Tryz.func15 Tryz.ntmps15 ?_;intro Fr);refine aO (aS _ 87 3) ?_;(repeat' (first|refine Y2 ?_|(refine Wb ?_;intro b)|(refine Wq ?_;intro q)|(refine Ws ?_ ?_<;>intro h)|refine Wz ?_|fail));(refine Ca (S0) ?_;rintro _ _ ⟨_,⟨q1,c1,rfl,rfl⟩,rfl⟩;refine Da ?_);refine aM ?_;(refine Ca (W1 _ _) ?_;rintro _ _ ⟨_,⟨rfl,rfl⟩,rfl⟩;refine Da ?_);(refine YR ?_;intro b);exact Ea (x:=⟨rfl,rfl⟩)
theorem aeN (b:Nat) (x:iV) (k:Int) (hk:k=1∨k=2) (s:List UInt8) (hs:s.length≤1000000000000000) (h:nH.aV s=([],0)) (s2:ByteArray) (at' N:Int) (text:List UInt8):
  Ct lk 15 [aH b 0,jG k s s2 at' N text] (bI b x) fun v H'=>v=eS 13∧H'=bI b (aE x):=by
 have S0:=fF hs h;have FA:=gX;have MK:=ayZ b;unfold eS at FA ⊢;unfold aE jG;obtain⟨d,s0,tn,qf,cf,F,qo,co,Lo⟩:=x;obtain⟨a,ca,cs,w,cw,wl,m,cm,at1,qg,cg,aA⟩:=d;unfold bI bC aX at*;dsimp only[dw,dz] at*;rcases hk with rfl|rfl;all_goals
  (refine Ye Tryz.func15 Tryz.ntmps15 ?_;intro Fr);refine aO (aS _ 87 3) ?_;(repeat' (first|refine Y2 ?_|(refine Wb ?_;intro b)|(refine Wq ?_;intro q)|(refine Ws ?_ ?_<;>intro h)|refine Wz ?_|fail));(refine Ca (S0) ?_;rintro _ _ ⟨_,⟨q1,c1,rfl,rfl⟩,rfl⟩;refine Da ?_);(repeat' (first|refine Y1 ?_|(refine Wb ?_;intro b)|(refine Wq ?_;intro q)|refine Wc (MK _ _ _) ?_|refine Wc (FA ..) ?_|(refine Ws ?_ ?_<;>intro h)|refine Wz ?_|fail));exact Ea (x:=⟨rfl,rfl⟩)
theorem aNH (b:Nat) (x:iV) {tab:cT} (hI:Inv x tab) (kd:Int) (zx:kd=1∨kd=2) (s:List UInt8) (hs:s.length≤1000000000000000) {L:List (List UInt8)} (h:nH.aV s=(L,0)) {nm:List UInt8} {k:Nat} (hk:L.length=k+1) (zw:L[k]? =some nm) {ino:Nat} (hT:VD x.d.at' x.d.aA ino) {g:Int} (hg:x.d.aA[ino]? =some g) (s2:ByteArray) (at' N:Int) (text:List UInt8):
  Ct lk 15 [aH b 0,jG kd s s2 at' N text] (bI b x) fun v H'=> ∃ e:Int,v=eS e∧BC b (aE x) tab (aJ tab 0 (L.take k)) nm ino kd g (.int .i64 e) H':=by
 have S0:=fF hs h;obtain⟨zy,hl8⟩:=cW h;have FA:=gX;have MA:=fun qL cL=>SO b (aE x) (qN hI) (fe _) qL cL L Z8 zy hk zw (kind:=kd) zx hT hg
 unfold eS at FA ⊢;have YES: ∀ (e:Int) H',BC b (aE x) tab (aJ tab 0 (L.take k)) nm ino kd g (.int .i64 e) H'→ ∃ e':Int,(.agg #[.int .i64 e, .string (str []), .int .i64 0, .int .i64 0, .slice none 0 0]:Value)= .agg #[.int .i64 e', .string (str []), .int .i64 0, .int .i64 0, .slice none 0 0]∧BC b (aE x) tab (aJ tab 0 (L.take k)) nm ino kd g (.int .i64 e') H':=fun e H' h=>⟨e,rfl,h⟩
 have hint:=fun v H'=>azA (b:=b) (x:=aE x) (tab:=tab) (r:=aJ tab 0 (L.take k)) (nm:=nm) (ino:=ino) (kind:=kd) (g:=g) (v:=v) (H':=H')
 generalize BC b (aE x) tab (aJ tab 0 (L.take k)) nm ino kd g=MR at*;clear hg hT;unfold aE at MA;unfold jG;obtain⟨d,s0,tn,qf,cf,F,qo,co,Lo⟩:=x;obtain⟨a,ca,cs,w,cw,wl,m,cm,at1,qg,cg,aA⟩:=d;unfold bI bC aX at*;dsimp only[dw,dz] at*;rcases zx with rfl|rfl;all_goals
  (refine Ye Tryz.func15 Tryz.ntmps15 ?_;intro Fr);refine aO (aS _ 87 3) ?_;(repeat' (first|refine Y2 ?_|(refine Wb ?_;intro b)|(refine Wq ?_;intro q)|(refine Ws ?_ ?_<;>intro h)|refine Wz ?_|fail));(refine Ca (S0) ?_;rintro _ _ ⟨_,⟨q1,c1,rfl,rfl⟩,rfl⟩;refine Da ?_);refine aM ?_;refine aN (bB (v:= .slice q1 L.length c1) (e:=9) (m:=L.length) (f:=fT) (ys:=L) aU (fun _=>rfl) rfl) ?_;refine Cb (MA _ _) ?_;rintro _ _ ⟨_,hm,rfl⟩;obtain⟨e2,rfl⟩:=hint _ _ hm;refine aN (cA afs) ?_;refine Da ?_;refine lG ?_;exact Ec (x:=YES e2 _ hm)
end fs
namespace fs
open dir uU
attribute [local irreducible] box own sl bL aH bJ Qt cN cM dG dL eQ
theorem azB (b:Nat) (H:List Ent) (n g z:Int) (q:Option Addr) (m c:Nat):Ct lk 65 [aH b 0, .int .i64 n, .agg #[.int .i64 1, .int .i64 g, .int .i64 z, .slice q m c]] [] fun v H'=>v= .agg #[.int .i64 0, .string (str []), .int .i64 1, .int .i64 z, .slice none 0 0]∧H'=[]:=by
 (refine Ye Tryz.func65 Tryz.ntmps65 ?_;intro Fr);(repeat' (first|refine Y3 ?_|(refine Wb ?_;intro b)|fail));exact Ea (x:=⟨rfl,rfl⟩)
theorem aNI (b:Nat) (x:iV) {tab:cT} (hI:Inv x tab) (s:List UInt8) (hs:s.length≤1000000000000000) {L:List (List UInt8)} (h:nH.aV s=(L,0)) {ino:Nat} (zv:aJ tab 0 L=(0,ino)) {z:Nd} (hz:tab ino=some z) (zu:z.kind=1) (s2:ByteArray) (at' N:Int) (text:List UInt8):
  Ct lk 15 [aH b 0,jG 10 s s2 at' N text] (bI b x) fun v H'=>v= .agg #[.int .i64 0, .string (str []), .int .i64 1, .int .i64 (z.size:Int), .slice none 0 0]∧H'=bI b (aE x):=by
 have S0:=fF hs h;obtain⟨zy,hl8⟩:=cW h;have ST:=azB b [];have W0:=fun qL cL=>iK b (aE x).d (.int .i64 (aE x).gJ) (.int .i64 (aE x).turn) (.slice (aE x).qf (aE x).fr.length (aE x).cf) (.slice (aE x).qo (aE x).ops.length (aE x).co) tab hI.pM hI.shut qL cL L Z8 (fun s hs=>by have:=(zy s hs).2.2.2.1;omega)
 rw[zv] at W0;unfold nV at W0;unfold aE at*;unfold jG;obtain⟨d,s0,tn,qf,cf,F,qo,co,Lo⟩:=x;obtain⟨a,ca,cs,w,cw,wl,m,cm,at1,qg,cg,aA⟩:=d;unfold bI bC aX at*;dsimp only[dw,dz] at*;(refine Ye Tryz.func15 Tryz.ntmps15 ?_;intro Fr);(repeat' (first|refine Y4 ?_|(refine Wb ?_;intro b)|fail));refine aN (aS _ 87 3) ?_;(refine Ca (S0) ?_;rintro _ _ ⟨_,⟨q1,c1,rfl,rfl⟩,rfl⟩;refine Da ?_);refine kB ?_;(refine Ca (W0 _ _) ?_;rintro _ _ ⟨_,hr,rfl⟩;(try refine Da ?_));rcases hr with⟨h0,rfl,rfl⟩|⟨y',l,q,c,⟨_,zx,zw⟩,rfl,rfl⟩
 ·exact absurd rfl h0
 ·rw[hz] at zx;cases zx;have zt:kI l=1:=by rw[zw.kind];exact zu
  have zr:zI l=(z.size:Int):=zw.size;rw[zt,zr];refine Da ?_;(repeat' (first|refine Y3 ?_|(refine Wb ?_;intro b)|refine Wc (ST _ _ _ _ _ _) ?_|fail));exact Ea (x:=⟨rfl,rfl⟩)
end fs
namespace fs
open dir uU
attribute [local irreducible] box own sl bL aH bJ Qt cN cM dG dL eQ
theorem akS (b:Nat) (x:iV) {tab:cT} (hI:Inv x tab) (hO:VH tab) (zw:x.ops.length≤1000) (qL:Option Addr) (cL:Nat) (L:List (List UInt8)) (hl1:L.length≤1000) (zr: ∀ s∈L,gU s) {nm:List UInt8} {k:Nat} (hk:L.length=k+1) (zq:L[k]? =some nm) {rn:Nat} {y:Nd} (hw:aJ tab 0 (L.take k)=(0,rn)) (hy:tab rn=some y) (zn:y.kind=2) (hf:cS y.aP nm=0) {ino:Nat} (zv:ino=(jN y.aP nm).toNat) {z:Nd} (hz:tab ino=some z) (zu:z.gen<2147483647) (zy:z.kind=2→z.aP=[]):
  Ct lk 66 [aH b 0, .slice qL L.length cL, .int .i64 (ino:Int)] (bI b x++[sl 1 (.slice qL L.length cL) (L.map fT)]) (hU b x (dU tab rn y nm ino) (x.d.aA.set ino (x.d.aA[ino]?.getD 0+1)) 3 4):=by
 have hnm1:=zr nm (jg zq);have hlen: ∀ s∈L,s.length≤1000000:=fun s hs=>by have:=(zr s hs).2.2.2.1;omega
 have A0:=qZ b x.d (.int .i64 x.gJ) (.int .i64 x.turn) (.slice x.qf x.fr.length x.cf) (.slice x.qo x.ops.length x.co) tab hI.pM hI.shut qL cL L Z8 hlen hk zq;rw[hw] at A0;have zm:=lS (s:=nm) (iJ hf).1;have LO:=fun l (h:eN x.d rn y l) q c qe ce=>uX b x.d (.int .i64 x.gJ) (.int .i64 x.turn) (.slice x.qf x.fr.length x.cf) (.slice x.qo x.ops.length x.co) rn y l h zm q c qe ce
 have CI:=fun l (hl:l.length≤100) hC hS zj q0 c0 hN zh=>oQ b x hI zw (tab':=dU tab rn y nm ino) (l:=l) hl hC hS zj q0 c0 4 Z8 (N:=3) hN (G:=x.d.aA.set ino (x.d.aA[ino]?.getD 0+1)) zh
 have MC:=fun lx zg ps ho nq nl nc q c=>aGO hI hO (n:=rn) (nx:=y) (lx:=lx) hy zg zn hf zv hz zu zy (ps:=ps) ho nq nl nc q c
 have CU:=fun q c=>dir.xQ q c y.aP nm hf
 have zl:=yF (DG (iJ hf).2.2);rw[←zl] at CU;clear zl zm;refine gH (R:=hU b x (dU tab rn y nm ino) (x.d.aA.set ino (x.d.aA[ino]?.getD 0+1)) 3 4) ?_ fun _ _ h=>h
 generalize hU b x (dU tab rn y nm ino) (x.d.aA.set ino (x.d.aA[ino]?.getD 0+1)) 3 4=RR at*;generalize jO y.aP nm=E2 at*;obtain⟨d,s,tn,qf,cf,F,qo,co,Lo⟩:=x;obtain⟨a,ca,cs,w,cw,wl,m,cm,at1,qg,cg,aA⟩:=d;unfold yG at A0;unfold bI bC aX at*;dsimp only[dw,dz] at*;(refine Ye Tryz.func66 Tryz.ntmps66 ?_;intro Fr);refine kB ?_;(refine Ca (A0) ?_;rintro _ _ ⟨_,hr,rfl⟩;(try refine Da ?_));rcases hr with⟨h0,rfl,rfl⟩|⟨y',l,q,c,⟨_,zx,zt,zf⟩,rfl,rfl⟩|⟨y',l,q,c,qe,ce,⟨_,zx,zt,_,hE⟩,rfl,rfl⟩
 ·exact absurd rfl h0
 ·rw[hy] at zx;cases zx;exact absurd zn zf
 ·rw[hy] at zx;cases zx;refine Da ?_;have LO1:=LO l zt;have MC1:=MC l zt;clear LO MC A0;(refine iB ?_;intro b);(refine Ca (CU _ _) ?_;rintro _ _ ⟨_,⟨q6,c6,rfl,rfl⟩,rfl⟩;refine Da ?_);refine kB ?_;(refine Ca (LO1 _ _ _ _) ?_;rintro _ _ ⟨_,⟨ps,q7,c7,zk,rfl,rfl⟩,rfl⟩;refine Da ?_);(refine iB ?_;intro b);obtain⟨m1,m2,m3,m4⟩:=MC1 ps zk q (pI l).length c q7 c7;have C1:=fun q9=>CI _ Ja m1 m2 m3 q9 2 m4 rfl
  dsimp only[dv,gr,Nat.reduceAdd] at C1;clear m1 m2 m3 m4 MC1 CI LO1 CU zk;(refine aD (Hq:=[_]) [0] [8] rfl Jd Za ?_);refine jV ?_;(refine aB 6 ?_;refine Oa (l:=by exact aT rfl rfl rfl Zp rfl rfl Z9 rfl) (k:= ?_);rintro _ _ ⟨q9,rfl,rfl⟩;refine Te ?_;(try refine Da ?_));refine bS (bB (v:= .slice q9 2 2) (e:=237) (m:=2) (f:=mQ) (ys:=[VK ino,⟨(rn:Int),kI l,gI l,((gG E2).length:Int),q,(pI l).length,c,ps,q7,c7,false⟩]) aU (fun _=>rfl) rfl) ?_;refine bS (bB (v:= .slice q7 ps.length c7) (e:=289) (m:=ps.length) (f:=eX) (ys:=ps) aU (fun _=>rfl) rfl) ?_;refine bS (aS _ 289 4) ?_;refine bS (bB (v:= .slice none 0 0) (e:=289) (m:=0) (f:=eX) (ys:=[]) aU (fun _=>rfl) rfl) ?_;refine bS (kO (sz:=4)) ?_;refine bS (kF (v:= .slice q7 ps.length c7) (rows:=ps.map eX) aU aU) ?_;refine bS (kF (v:= .slice none 0 0) (rows:=([]:List tF).map eX) aU aU) ?_;(refine Ce 7 (C1 _) ?_;rintro _ _ ⟨_,hc,rfl⟩;refine Tf ?_;(try refine Da ?_));(refine aB 8 ?_;refine Oa (l:=by exact (iA (EA rfl rfl))) (k:= ?_);rintro _ _ ⟨rfl,rfl⟩;refine Te ?_;(try refine Da ?_));refine sO ?_;exact Ed (x:=hc)
end fs
namespace fs
open uU
theorem zY {P:Program} {ops:Array Oper} {Q:fW} {n:Nat} {Hq:List Ent} {nk:List Nat} {r i m:Nat} {Lk:Array Bool} {F:eE} {A B:List Ent} (h:dM P ops Q n Hq nk r i m Lk F (B++A)):dM P ops Q n Hq nk r i m Lk F (A++B):=bS (cA afs) h
attribute [local irreducible] box own sl bL aH bJ Qt cN cM dG dL eQ
theorem akT (e:Int):Ct lk 57 [.int .i64 e] [] fun v H'=>v=eS e∧H'=[]:=by
 unfold eS;(refine Ye Tryz.func57 Tryz.ntmps57 ?_;intro Fr);(refine bF ?_;intro b);exact Ea (x:=⟨rfl,rfl⟩)
def WrR (b:Nat) (x:iV) (tab:cT) (n:Nat) (y:Nd) (at':Int) (text:List UInt8) (v:Value) (H':List Ent):Prop:=
 ((wrE at' text≠0∨text=[])∧v=eS (wrE at' text)∧H'=bI b x)∨
 ((wrE at' text=0∧text≠[])∧VL b x (mJ tab n (some ⟨1,y.gen,kX y.size at'.toNat text,oG y.size at'.toNat text y.parts⟩)) x.d.aA 9 4 v H')
theorem akU (b:Nat) (x:iV) {tab:cT} (hI:Inv x tab) (zt:x.ops.length≤1000) {n:Nat} {y:Nd} (hy:tab n=some y) (hk:y.kind=1) {l:List UInt8} (hl:eN x.d n y l) (s1 s2:ByteArray) (at' N:Int) (text:List UInt8) (ht:text.length≤1000000000000000) (q:Option Addr) (c:Nat):
  Ct lk 68 [aH b 0, .agg #[.int .i64 3, .string s1, .string s2, .int .i64 at', .int .i64 N, .string (str text)], .int .i64 (n:Int), .agg #[.int .i64 (kI l), .int .i64 (gI l), .int .i64 (zI l), .slice q (pI l).length c]] (bI b x++[sl 2 (.slice q (pI l).length c) ((pI l).map jP)]) (WrR b x tab n y at' text):=by
 have zx:=uV hl.data hl.small;have D0:=IB b x.d (.int .i64 x.gJ) (.int .i64 x.turn) (.slice x.qf x.fr.length x.cf) (.slice x.qo x.ops.length x.co) n y.size (kI l) (gI l) q c (pI l) y.parts hl.told.mM hl.small hl.data;rw[←hl.size] at D0;have zm:(pI l).length=y.parts.length:=hl.data.2.1.symm;have hp8:y.parts.length≤8:=by have:=hl.data.1;have:=hl.small;unfold aQ at*;omega
 have FA:=akT;unfold eS at FA;have BAD:wrE at' text≠0∨text=[]→WrR b x tab n y at' text (eS (wrE at' text)) (bI b x):=fun h=> .inl ⟨h,rfl,rfl⟩
 have YES:wrE at' text=0→text≠[]→ ∀ e H',hU b x (mJ tab n (some ⟨1,y.gen,kX y.size at'.toNat text,oG y.size at'.toNat text y.parts⟩)) x.d.aA 9 4 (.int .i64 e) H'→WrR b x tab n y at' text (eS e) H':=fun h1 h2 e H' h3=> .inr ⟨⟨h1,h2⟩,e,rfl,h3⟩
 unfold eS at BAD YES;have CI:=fun tab' l (hl:l.length≤100) hC hS zl q0 c0 hN zk=>oQ b x hI zt (tab':=tab') (l:=l) hl hC hS zl q0 c0 4 Z8 (N:=9) hN (G:=x.d.aA) zk
 refine gH (R:=WrR b x tab n y at' text) ?_ fun _ _ h=>h
 generalize WrR b x tab n y at' text=RR at*;by_cases hw:wrE at' text=0
 ·obtain⟨ha0,zj⟩:=aGQ hw;obtain⟨a0,rfl⟩: ∃ a0:Nat,at'=(a0:Int):=⟨at'.toNat,Z8⟩;rw[dc] at YES;have zw:text=[]∨a0+text.length≤4096:=by rcases zj with h|h;exact .inl h;exact .inr Z8
  have W0:=fun q c=>axL q c y.size y.parts a0 text zx zw
  rw[←hl.size] at W0;by_cases zu:text=[]
  ·have hb:=BAD (.inr zu);rw[hw] at hb;have e0:(text==[])=true:=by rw[zu];rfl
   clear CI YES BAD hw;generalize kX y.size a0 text=z2 at*;generalize oG y.size a0 text y.parts=P2 at*;obtain⟨d,s,tn,qf,cf,F,qo,co,Lo⟩:=x;obtain⟨a,ca,cs,w,cw,wl,m,cm,at1,qg,cg,aA⟩:=d;unfold bI bC aX at*;dsimp only[dw,dz] at*;(refine Ye Tryz.func68 Tryz.ntmps68 ?_;intro Fr);(repeat' (first|refine Y4 ?_|(refine Wb ?_;intro b)|fail));(refine aD (Hq:=[_]) [1] [] rfl Jd Za ?_);refine jV ?_;(refine aB 5 ?_;refine cD 9 Jd ?_ ?_)
   ·(refine Cd 5 (D0) ?_;rintro _ _ ⟨_,⟨q5,c5,rfl,rfl⟩,rfl⟩;refine Te ?_;(try refine Da ?_));(repeat' (first|refine Y2 ?_|(refine Wb ?_;intro b)|fail));(refine Ca (W0 _ _) ?_;rintro _ _ ⟨_,⟨q6,rfl,rfl⟩,rfl⟩;refine Da ?_);refine agF ?_;exact Ea (x:=hb)
   ·(refine Oc (l:=by exact gV rfl) (k:= ?_);rintro _ _ ⟨b5,rfl,rfl⟩;refine Te ?_;(try refine Da ?_));refine jV ?_;(refine Cc 5 (D0) ?_;rintro _ _ ⟨_,⟨q5,c5,rfl,rfl⟩,rfl⟩;refine Te ?_;(try refine Da ?_));(refine YT ?_;intro b);(refine Ca (W0 _ _) ?_;rintro _ _ ⟨_,⟨q6,rfl,rfl⟩,rfl⟩;refine Da ?_);refine agF ?_;exact Ea (x:=hb)
  ·have e0:(text==[])=false:=by simpa using zu
   have zv:=aoV (text:=text) zx zw;have zq:=YES hw zu;have zh:(oG y.size a0 text y.parts).length≤1000:=by have:=zv.2.1;have:=zv.1;unfold aQ at*;omega
   have zy: ∀ t∈oG y.size a0 text y.parts,t.length≤512:=fun t ht=>by
    obtain⟨i,hi,rfl⟩:=afa ht;by_cases h0:(oG y.size a0 text y.parts)[i]=[]
    ·rw[h0];simp
    ·rw[zv.2.2 i _ (ak hi) h0];exact jX _ _
   have TC:=fun ps ho nq nl nc q c=>VE hl (.inl hk) (news:=oG y.size a0 text y.parts) (ps:=ps) ho zv nq nl nc q c
   have PC:=fun c hc hg hs=>asR hI hy hk (z:=⟨1,y.gen,kX y.size a0 text,oG y.size a0 text y.parts⟩) (c:=c) hc hg hs rfl
   rw[hk] at TC;have CI1:=CI (mJ tab n (some ⟨1,y.gen,kX y.size a0 text,oG y.size a0 text y.parts⟩));have zn:=axK y.size a0 text y.parts;rw[←zn] at W0;have TN:=fun qo co qn cn=>wL (n:Int) (kI l) (gI l) (zI l) (zI l) ((kX y.size a0 text:Nat):Int) q c (pI l) qo co y.parts qn cn (oG y.size a0 text y.parts) zm zh zy Z8
   clear CI YES BAD zv hw zn zy;generalize kX y.size a0 text=z2 at*;generalize oG y.size a0 text y.parts=P2 at*;generalize mJ tab n (some ⟨1,y.gen,z2,P2⟩)=T2 at*;obtain⟨d,s,tn,qf,cf,F,qo,co,Lo⟩:=x;obtain⟨a,ca,cs,w,cw,wl,m,cm,at1,qg,cg,aA⟩:=d;unfold bI bC aX at*;dsimp only[dw,dz] at*;(refine Ye Tryz.func68 Tryz.ntmps68 ?_;intro Fr);(repeat' (first|refine Y4 ?_|(refine Wb ?_;intro b)|fail));(refine aD (Hq:=[_]) [1] [] rfl Jd Za ?_);refine jV ?_;(refine aB 5 ?_;refine cD 9 Jd ?_ ?_)
   ·(refine Cd 5 (D0) ?_;rintro _ _ ⟨_,⟨q5,c5,rfl,rfl⟩,rfl⟩;refine Te ?_;(try refine Da ?_));(repeat' (first|refine Y2 ?_|(refine Wb ?_;intro b)|fail));(refine Ca (W0 _ _) ?_;rintro _ _ ⟨_,⟨q6,rfl,rfl⟩,rfl⟩;refine Da ?_);refine kB ?_;(refine aD (Hq:=[_,_,_]) [0,2,6] [11] rfl Jd Za ?_);refine jV ?_;(refine Cc 7 (TN _ _ _ _) ?_;rintro _ _ ⟨_,⟨ps,q7,c7,zr,rfl,rfl⟩,rfl⟩;refine Te ?_;(try refine Da ?_));(refine aB 8 ?_;refine Oa (l:=by exact aT rfl rfl rfl Zp rfl rfl Z9 rfl) (k:= ?_);rintro _ _ ⟨q9,rfl,rfl⟩;refine Te ?_;(try refine Da ?_));obtain⟨t1,t2⟩:=TC ps zr q (pI l).length c q7 c7;obtain⟨m1,m2,m3,m4⟩:=PC _ t1 rfl t2;have C1:=CI1 _ Ja m1 m2 m3 q9 1 m4 rfl;dsimp only[dv,gr,Nat.reduceAdd] at C1;clear t1 t2 m1 m2 m3 m4 CI1 TC PC TN D0 W0;refine bS (bB (v:= .slice q9 1 1) (e:=237) (m:=1) (f:=mQ) (ys:=[⟨(n:Int),kI l,gI l,(z2:Int),q,(pI l).length,c,ps,q7,c7,false⟩]) aU (fun _=>rfl) rfl) ?_;refine bS (bB (v:= .slice q7 ps.length c7) (e:=289) (m:=ps.length) (f:=eX) (ys:=ps) aU (fun _=>rfl) rfl) ?_;refine bS (kO (sz:=4)) ?_;refine bS (kF (v:= .slice q7 ps.length c7) (rows:=ps.map eX) aU aU) ?_;(refine Ce 9 (C1) ?_;rintro _ _ ⟨_,hc,rfl⟩;refine Tf ?_;(try refine Da ?_));obtain⟨e2,rfl⟩:=gK hc;refine zY ?_;refine Da ?_;(refine Cc 10 (FA _) ?_;rintro _ _ ⟨_,⟨rfl,rfl⟩,rfl⟩;refine Te ?_;(try refine Da ?_));(refine aB 11 ?_;refine Ob (l:=by exact Zj) (k:= ?_);rintro _ _ ⟨rfl,rfl⟩;refine Te ?_;(try refine Da ?_));refine sO ?_;exact Ec (x:=zq e2 _ hc)
   ·(refine Oc (l:=by exact gV rfl) (k:= ?_);rintro _ _ ⟨b5,rfl,rfl⟩;refine Te ?_;(try refine Da ?_));refine jV ?_;(refine Cc 5 (D0) ?_;rintro _ _ ⟨_,⟨q5,c5,rfl,rfl⟩,rfl⟩;refine Te ?_;(try refine Da ?_));(refine YT ?_;intro b);(refine Ca (W0 _ _) ?_;rintro _ _ ⟨_,⟨q6,rfl,rfl⟩,rfl⟩;refine Da ?_);refine kB ?_;(refine aD (Hq:=[_,_,_]) [0,2,6] [11] rfl Jd Za ?_);refine jV ?_;(refine Cc 7 (TN _ _ _ _) ?_;rintro _ _ ⟨_,⟨ps,q7,c7,zr,rfl,rfl⟩,rfl⟩;refine Te ?_;(try refine Da ?_));(refine aB 8 ?_;refine Oa (l:=by exact aT rfl rfl rfl Zp rfl rfl Z9 rfl) (k:= ?_);rintro _ _ ⟨q9,rfl,rfl⟩;refine Te ?_;(try refine Da ?_));obtain⟨t1,t2⟩:=TC ps zr q (pI l).length c q7 c7;obtain⟨m1,m2,m3,m4⟩:=PC _ t1 rfl t2;have C1:=CI1 _ Ja m1 m2 m3 q9 1 m4 rfl;dsimp only[dv,gr,Nat.reduceAdd] at C1;clear t1 t2 m1 m2 m3 m4 CI1 TC PC TN D0 W0;refine bS (bB (v:= .slice q9 1 1) (e:=237) (m:=1) (f:=mQ) (ys:=[⟨(n:Int),kI l,gI l,(z2:Int),q,(pI l).length,c,ps,q7,c7,false⟩]) aU (fun _=>rfl) rfl) ?_;refine bS (bB (v:= .slice q7 ps.length c7) (e:=289) (m:=ps.length) (f:=eX) (ys:=ps) aU (fun _=>rfl) rfl) ?_;refine bS (kO (sz:=4)) ?_;refine bS (kF (v:= .slice q7 ps.length c7) (rows:=ps.map eX) aU aU) ?_;(refine Ce 9 (C1) ?_;rintro _ _ ⟨_,hc,rfl⟩;refine Tf ?_;(try refine Da ?_));obtain⟨e2,rfl⟩:=gK hc;refine zY ?_;refine Da ?_;(refine Cc 10 (FA _) ?_;rintro _ _ ⟨_,⟨rfl,rfl⟩,rfl⟩;refine Te ?_;(try refine Da ?_));(refine aB 11 ?_;refine Ob (l:=by exact Zj) (k:= ?_);rintro _ _ ⟨rfl,rfl⟩;refine Te ?_;(try refine Da ?_));refine sO ?_;exact Ec (x:=zq e2 _ hc)
 ·have W0 := fun q c => axJ q c (y.size : Int) y.parts at' text Z8 (fun s hs => by
   obtain⟨i,hi,rfl⟩:=afa hs;by_cases h0:y.parts[i]=[]
   ·rw[h0];simp
   ·rw [zx.2.2 i _ (ak hi) h0];have := jX y.size i;omega) Z8 (by rw [aGP zx]; exact hw)
  rw[aGP zx, ←hl.size] at W0;have hb:=BAD (.inl hw);clear YES BAD CI;generalize wrE at' text=e at*;obtain⟨d,s,tn,qf,cf,F,qo,co,Lo⟩:=x;obtain⟨a,ca,cs,w,cw,wl,m,cm,at1,qg,cg,aA⟩:=d;unfold bI bC aX at*;dsimp only[dw,dz] at*;(refine Ye Tryz.func68 Tryz.ntmps68 ?_;intro Fr);(repeat' (first|refine Y4 ?_|(refine Wb ?_;intro b)|fail));(refine aD (Hq:=[_]) [1] [] rfl Jd Za ?_);refine jV ?_;(refine aB 5 ?_;refine cD 9 Jd ?_ ?_)
  ·(refine Cd 5 (D0) ?_;rintro _ _ ⟨_,⟨q5,c5,rfl,rfl⟩,rfl⟩;refine Te ?_;(try refine Da ?_));(repeat' (first|refine Y1 ?_|(refine Wb ?_;intro b)|refine Wc (W0 _ _) ?_|refine Wc (FA ..) ?_|fail));exact Ea (x:=hb)
  ·(refine Oc (l:=by exact gV rfl) (k:= ?_);rintro _ _ ⟨b5,rfl,rfl⟩;refine Te ?_;(try refine Da ?_));refine jV ?_;(refine Cc 5 (D0) ?_;rintro _ _ ⟨_,⟨q5,c5,rfl,rfl⟩,rfl⟩;refine Te ?_;(try refine Da ?_));(repeat' (first|refine Y1 ?_|(refine Wb ?_;intro b)|refine Wc (W0 _ _) ?_|refine Wc (FA ..) ?_|fail));exact Ea (x:=hb)
end fs
