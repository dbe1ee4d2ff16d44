/- Law HandStale: its texts, packed. -/
import Derived.Test.YtbjalbcdbgcgdaaGreatK41
import Derived.Test.YtbjalbcdbgcgdaaGreatK35
import Derived.Test.YtbjalbcdbgcgdaaGreatK07
open List renaming append_nil->jc,flatMap_cons->kv,flatMap_nil->qj,getElem?_eq_getElem->aj,getElem?_eq_some_iff->ah,length_nil->lk,length_singleton->df,length_take->b9,mem_cons->aw,mem_cons_self->bc,mem_of_getElem?->jm,mem_of_mem_take->kt,mem_singleton->fk,not_mem_nil->fj
open Nat renaming le_refl->aq,zero_le->fg
open Classical renaming em->qh
set_option linter.unusedVariables false
set_option maxRecDepth 100000
set_option maxHeartbeats 8000000
namespace Go.Proofs.YtbjalbcdbgcgdaaGreat.fs
open Go.RowKit bG sl aX use dO fV dE file dir yQ
theorem acB {t u:List UInt8} (ht:t.length≤512) (h:kG.pY t u):u.length≤600:=by
 have:=(kG.SH h).2;have:=fV.KI t.length;omega
theorem acC {d:FD} {n:Nat} {x:Nd} {l:List UInt8} (h:jO d n x l) (hk:x.kind=1∨x.kind=2) {z:Nat} {news:List (List UInt8)} {ps:List tD} (ho:sR (pI l) x.parts news ps) (hg:eT z news) (nq:Option Addr) (nl nc:Nat) (q:Option Addr) (c:Nat):TE d ⟨(n:Int),kI l,gI l,(z:Int),nq,nl,nc,ps,q,c,false⟩ n ⟨x.kind,x.gen,z,news⟩∧oX ⟨(n:Int),kI l,gI l,(z:Int),nq,nl,nc,ps,q,c,false⟩:=by
 obtain⟨g1,g2,g3⟩:=hg;obtain⟨p0,g0,e1,e2,e3,e4⟩:=h.told.ex;have hgn:=(uC e4).2.2.2.2.1;have hlt:=h.told.lt;refine⟨⟨rfl,hlt,by dsimp only;rw[hgn];exact e2,h.kind,h.gen,rfl,hk,g1,ho.len.trans g2,g2,fun i p t hp ht=> ?_⟩,⟨by dsimp only;omega,by dsimp only;omega⟩,by dsimp only;rw[ho.len,g2];unfold aJ;omega,fun p hp hf=> ?_⟩
 ·dsimp only at hp ht ⊢;rcases ho.one i t p ht hp with⟨rfl,rfl⟩|⟨hne,hold,q0,hq0,rfl⟩|⟨hne,_,u,hu,rfl⟩
  ·exact .inr ⟨rfl, .inl ⟨rfl,rfl⟩,by decide, .inl rfl⟩
  ·have hlen:=g3 i t ht hne;refine .inr ⟨rfl, ?_,YT (uC e4).2.2.2.1 _ (jm hq0), .inr ⟨n,p0,g0,l,e1,e2,e3,e4, .inr ⟨q0,jm hq0,rfl⟩⟩⟩;rcases h.data.2.2 i q0 t hq0 hold with⟨_,h0⟩|⟨h0,_,u,hu,hr⟩
   ·exact absurd h0 hne
   ·exact .inr ⟨h0,hlen,u,hu,hr⟩
  ·exact .inl ⟨rfl,g3 i t ht hne,hu⟩
 ·obtain⟨i,hi,rfl⟩:=List.getElem_of_mem hp;dsimp only at hi hf ⊢;have hin:i<news.length:=by rw[←ho.len];exact hi
  have ht:news[i]? =some news[i]:=aj hin;rcases ho.one i _ _ ht (aj hi) with⟨_,e⟩|⟨_,_,q0,_,e⟩|⟨hne,_,u,hu,e⟩
  ·rw[e] at hf;cases hf
  ·rw[e] at hf;cases hf
  ·rw[e];exact acB (by rw[g3 i _ ht hne];exact kK z i) hu
def qD (g:Int) (E:List bA):Nd:=⟨2,g,(gT E).length,EM (gT E)⟩
theorem apB {T:List UInt8} (h:T.length≤512):eT T.length (EM T):=by
 unfold EM;split
 ·next e=>subst e;exact⟨by decide,rfl,fun i s hs=>by simp at hs⟩
 ·next e=>
  have:=List.length_pos_iff.2 e;refine⟨by omega,by unfold aJ;rw[df];omega,fun i s hs hne=> ?_⟩;have hi:i=0:=by have:=(ah.1 hs).1;rw[df] at this;omega
  subst hi;cases hs;unfold bZ;omega
theorem agF {T:List UInt8} (h:T.length≤512):jM T.length (EM T)=T:=by
 unfold jM NA EM;refine rC (by simp) fun j hj=> ?_
 rw[List.length_map,List.length_range] at hj;rw[iR _ hj];have hT:T≠[]:=by rintro rfl;simp at hj
 rw[if_neg hT,show j/512=0 from by omega,show j%512=j from by omega];rfl
theorem rJ {g:Int} {E:List bA} (h:kZ E):jN (qD g E).bytes=some E∧(qD g E).cC=E:=by
 have h1:jN (qD g E).bytes=some E:=by
  obtain⟨e1,e2⟩:=OH h;show jN (jM (gT E).length (EM (gT E)))=some E;rw[agF (by omega), ←e1];exact jH ((cW E).2 h)
 exact⟨h1,vW h1⟩
theorem OJ {d:FD} {n:Nat} {x:Nd} {l:List UInt8} (h:jO d n x l) (hk:x.kind=2) {E:List bA} (hE:kZ E) {ps:List tD} (ho:sR (pI l) x.parts (EM (gT E)) ps) (nq:Option Addr) (nl nc:Nat) (q:Option Addr) (c:Nat):TE d ⟨(n:Int),kI l,gI l,((gT E).length:Int),nq,nl,nc,ps,q,c,false⟩ n (qD x.gen E)∧oX ⟨(n:Int),kI l,gI l,((gT E).length:Int),nq,nl,nc,ps,q,c,false⟩∧ps.length≤1:=by
 have h2:=(OH hE).2;obtain⟨h3,h4⟩:=acC h (.inr hk) ho (apB (by omega)) nq nl nc q c;rw[hk] at h3;refine⟨h3,h4, ?_⟩;rw[ho.len];unfold EM;split
 ·exact fg _
 ·exact aq _
theorem acD {E:List bA} {s:List UInt8} {p:bA} (h:p∈rE E s):p∈E:=by
 unfold rE at h;rcases List.mem_append.1 h with h|h
 ·exact kt h
 ·exact List.mem_of_mem_drop h
def mZ (tab:jQ) (n:Nat) (y:Option Nd):jQ:=fun m=>if m=n then y else tab m
theorem eY (tab:jQ) (n:Nat) (y:Option Nd):mZ tab n y n=y:=if_pos rfl
theorem eH {tab:jQ} {n m:Nat} {y:Option Nd} (h:m≠n):mZ tab n y m=tab m:=if_neg h
theorem agG {x:tG} {tab:jQ} (hI:Inv x tab) {n:Nat} (h:tB x.d.at' x.d.aE n):tab n=none:=by
 cases hy:tab n with
 |none=>rfl
 |some y=>
  obtain⟨l,p,g,_,h1,_,h3,_⟩:=JB hI.BZ hy;obtain⟨p',g',e1,_,e3,_⟩:=h;rw[e1] at h1;cases h1;exact absurd e3 h3
def nC (ino:Nat) (kind g:Int):lS:=⟨(ino:Int),kind,g,0,none,0,0,[],none,0,false⟩
def kH (tab:jQ) (n:Nat) (nx:Nd) (nm:List UInt8) (ino:Nat) (kind g:Int):jQ:=
 mZ (mZ tab n (some (qD nx.gen (yD nx.cC (nm,(ino:Int)))))) ino (some ⟨kind,g,0,[]⟩)
theorem OK {nx:Nd} {E:List bA} (hE:jN nx.bytes=some E) {nm:List UInt8} (hnm:iN nm) (hf:dY E nm≠0) (h24:E.length≠24) {ino:Nat} (hino:ino<48):abE E (nm,(ino:Int))=0:=by
 have hg:=sM hE;refine aAZ hg (VU ⟨hnm,by dsimp only;omega,by dsimp only;omega⟩) ?_ h24;cases h:BV E nm with
 |false=>rfl
 |true=>
  exfalso;apply hf;unfold dY;rw[if_neg (by simp [(cW E).2 hg]),if_neg (by simp [hnm]),if_pos h]
theorem awM {x:tG} {tab:jQ} (hI:Inv x tab) {n:Nat} {nx:Nd} {lx:List UInt8} (hx:tab n=some nx) (hlx:jO x.d n nx lx) (hk:nx.kind=2) (hE:jN nx.bytes=some nx.cC) {nm:List UInt8} {ino:Nat} (hadd:abE nx.cC (nm,(ino:Int))=0) (hfr:tB x.d.at' x.d.aE ino) (hino:ino<48) {g:Int} (hg:x.d.aE[ino]? =some g) {kind:Int} (hkind:kind=1∨kind=2) {ps:List tD} (ho:sR (pI lx) nx.parts (EM (gT (yD nx.cC (nm,(ino:Int))))) ps) (nq:Option Addr) (nl nc:Nat) (q:Option Addr) (c:Nat):sP x.d tab [nC ino kind g,⟨(n:Int),kI lx,gI lx,((gT (yD nx.cC (nm,(ino:Int)))).length:Int),nq,nl,nc,ps,q,c,false⟩] (kH tab n nx nm ino kind g)∧(∀ y∈[nC ino kind g,⟨(n:Int),kI lx,gI lx,((gT (yD nx.cC (nm,(ino:Int)))).length:Int),nq,nl,nc,ps,q,c,false⟩],oX y)∧Shut (kH tab n nx nm ino kind g)∧(aQ [nC ino kind g,⟨(n:Int),kI lx,gI lx,((gT (yD nx.cC (nm,(ino:Int)))).length:Int),nq,nl,nc,ps,q,c,false⟩]).length≤3:=by
 have hgd:=wA hadd;obtain⟨c1,c2,c3⟩:=OJ hlx hk hgd ho nq nl nc q c;have hnone:=agG hI hfr;have hne:ino≠n:=by rintro rfl;rw[hx] at hnone;cases hnone
 have hn48:=NK hI.BZ hx;have hgb:0≤g∧g≤2147483647:=by
  obtain⟨p,g',e1,e2,_⟩:=hfr;rw[hg] at e2;cases e2;exact (hI.BZ.map.2.2 ino hino p g e1 hg).2
 have cn:TE x.d (nC ino kind g) ino ⟨kind,g,0,[]⟩:=⟨rfl,hino,hg,rfl,rfl,rfl,hkind,fg _,by unfold nC aJ;dsimp only[lk],by unfold aJ;dsimp only[lk],fun i p t hp=>by simp [nC] at hp⟩;have mt1:kH tab n nx nm ino kind g ino=some ⟨kind,g,0,[]⟩:=eY _ _ _;have mt2:kH tab n nx nm ino kind g n=some (qD nx.gen (yD nx.cC (nm,(ino:Int)))):=by
  unfold kH;rw[eH (fun e=>hne e.symm),eY]
 have mt3: ∀ m,m≠ino→m≠n→kH tab n nx nm ino kind g m=tab m:=fun m h1 h2=>by
  unfold kH;rw[eH h1,eH h2]
 refine⟨⟨?_,fun y hy hg=> ?_,fun y hy hg=> ?_,fun m hm=> ?_⟩,fun y hy=> ?_,⟨fun m y hy=> ?_,fun m y hy hk2=> ?_, ?_⟩, ?_⟩
 ·simp only[List.map_cons,List.map_nil,nC,List.nodup_cons,fk,fj,not_false_eq_true,List.nodup_nil,and_true];omega
 ·simp only[aw,fj,or_false] at hy;rcases hy with rfl|rfl<;>cases hg
 ·simp only[aw,fj,or_false] at hy;rcases hy with rfl|rfl
  ·exact⟨ino,_,cn,mt1⟩
  ·exact⟨n,_,c1,mt2⟩
 ·exact mt3 m (fun e=>hm _ bc (by rw[e];rfl)) (fun e=>hm _ (List.mem_cons_of_mem _ bc) (by rw[e]))
 ·simp only[aw,fj,or_false] at hy;rcases hy with rfl|rfl
  ·exact⟨⟨by show (0:Int)≤(ino:Int);omega,by show (ino:Int)<48;omega⟩,fg _,fun p hp=>by simp [nC] at hp⟩
  ·exact c2
 ·by_cases e1:m=ino
  ·rw[e1,mt1] at hy;cases hy;exact hkind
  ·by_cases e2:m=n
   ·rw[e2,mt2] at hy;cases hy;exact .inr rfl
   ·rw[mt3 m e1 e2] at hy;exact hI.shut.kinds m y hy
 ·have hthere: ∀ k:Nat,(∃ z,tab k=some z)→ ∃ z,kH tab n nx nm ino kind g k=some z:=fun k ⟨z,hz⟩=>by
   by_cases e1:k=ino
   ·exact⟨_,by rw[e1];exact mt1⟩
   ·by_cases e2:k=n
    ·exact⟨_,by rw[e2];exact mt2⟩
    ·exact⟨z,by rw[mt3 k e1 e2];exact hz⟩
  by_cases e1:m=ino
  ·rw[e1,mt1] at hy;cases hy;exact⟨[],rfl,fun p hp=>absurd hp fj⟩
  ·by_cases e2:m=n
   ·rw[e2,mt2] at hy;cases hy;refine⟨_,(rJ hgd).1,fun p hp=> ?_⟩;rcases acA.1 hp with rfl|hp
    ·exact⟨_,by rw[Int.toNat_natCast];exact mt1⟩
    ·obtain⟨E0,hE0,hin⟩:=hI.shut.cC n nx hx hk;rw[hE] at hE0;cases hE0;exact hthere _ (hin p hp)
   ·rw[mt3 m e1 e2] at hy;obtain⟨E0,hE0,hin⟩:=hI.shut.cC m y hy hk2;exact⟨E0,hE0,fun p hp=>hthere _ (hin p hp)⟩
 ·obtain⟨y,hy,hk0⟩:=hI.shut.root;by_cases e1:0=ino
  ·rw[←e1,hy] at hnone;cases hnone
  ·by_cases e2:0=n
   ·exact⟨_,by rw[e2];exact mt2,rfl⟩
   ·exact⟨y,by rw[mt3 0 e1 e2];exact hy,hk0⟩
 ·have hf:=NU ps;simp only[aQ,kv,qj,jc,List.length_append,mH,nC,Bool.false_eq_true,if_false];show nM []+1+(nM ps+1)≤3;rw[show nM []=0 from rfl];omega
end Go.Proofs.YtbjalbcdbgcgdaaGreat.fs
namespace Go.Proofs.YtbjalbcdbgcgdaaGreat.fs
open Go.RowKit bG sl aX fV dE dO use file dir yQ
def WI (b:Nat) (d:FD) (s t f o:Value) (tab:jQ) (nm:List UInt8) (r:Int×Nat) (v:Value) (H':List Ent):Prop:=
 (r.1≠0∧v= .tuple #[.int .i64 0, .agg #[.int .i64 0, .int .i64 0, .int .i64 0, .slice none 0 0], .slice none 0 0, .string (str []), .int .i64 r.1]∧H'=[bE b d s t f o])∨
 (∃ x l q c,(r.1=0∧tab r.2=some x∧jO d r.2 x l∧x.kind≠2)∧v= .tuple #[.int .i64 (r.2:Int), .agg #[.int .i64 (kI l), .int .i64 (gI l), .int .i64 (zI l), .slice q (pI l).length c], .slice none 0 0, .string (str nm), .int .i64 15]∧H'=[bE b d s t f o,own (.slice q (pI l).length c) 77 2 (pI l).length (flat jW (pI l))])∨
 (∃ x l q c qe ce,(r.1=0∧tab r.2=some x∧jO d r.2 x l∧x.kind=2∧jN x.bytes=some x.cC)∧v= .tuple #[.int .i64 (r.2:Int), .agg #[.int .i64 (kI l), .int .i64 (gI l), .int .i64 (zI l), .slice q (pI l).length c], .slice qe x.cC.length ce, .string (str nm), .int .i64 0]∧H'=[bE b d s t f o,own (.slice q (pI l).length c) 77 2 (pI l).length (flat jW (pI l)),own (.slice qe x.cC.length ce) 204 2 x.cC.length (flat fE x.cC)])
attribute [local irreducible] box own sl gH aH bC Qt cJ cG dC dG eO
theorem TM (b:Nat) (d:FD) (s t f o:Value) (tab:jQ) (hL:WO d tab) (hS:Shut tab) (qL:Option Addr) (cL:Nat) (L:List (List UInt8)) (hl1:L.length≤1000000) (hl2: ∀ s∈L,s.length≤1000000) {nm:List UInt8} {k:Nat} (hk:L.length=k+1) (hnm:L[k]? =some nm):
  Ct Tryz.prog 137 [aH b 0, .slice qL L.length cL] (bE b d s t f o::sl 1 (.slice qL L.length cL) (L.map fT)::bB d) (WI b d s t f o tab nm (dR tab 0 (L.take k))):=by
 have W0:=uP b d s t f o tab hL hS qL cL (L.take k) (by rw[b9];omega) (fun s hs=>hl2 s (kt hs));rw[show (L.take k).length=k from by rw[b9];omega] at W0;have EF:=fun n kk gn z (hk:kk≠2) q m c=>SQ b d s t f o n kk gn z hk q m c
 have EO:=fun n x l (h:jO d n x l) hk E hE q c=>VY b d s t f o n x l h hk (E:=E) hE q c
 obtain⟨R,hR⟩: ∃ R,dR tab 0 (L.take k)=R:=⟨_,rfl⟩;rw[hR] at W0 ⊢;unfold WI;obtain⟨re,rn⟩:=R;have hk1:((L.length:Int)-1)=((k:Nat):Int):=by omega
 unfold wV at W0;have XW:Xcl fun v H'=>(re≠0∧v= .tuple #[.int .i64 0, .agg #[.int .i64 0, .int .i64 0, .int .i64 0, .slice none 0 0], .int .i64 re]∧H'=[bE b d s t f o])∨
 (∃ x l q c,(re=0∧tab rn=some x∧jO d rn x l)∧v= .tuple #[.int .i64 (rn:Int), .agg #[.int .i64 (kI l), .int .i64 (gI l), .int .i64 (zI l), .slice q (pI l).length c], .int .i64 0]∧H'=[bE b d s t f o,own (.slice q (pI l).length c) 77 2 (pI l).length (flat jW (pI l))]):=by infer_instance
 obtain⟨a,ca,cs,w,cw,wl,m,cm,at',qg,cg,aE⟩:=d;unfold bE bB at*;dsimp only at W0 EF EO XW ⊢;(refine Ye Tryz.func137 Tryz.ntmps137 ?_;intro Fr);(repeat' (first|refine Wa ?_|refine aF ?_|(refine Wb ?_;intro b)|fail));rw[hk1];refine gK 12 rfl wt rfl (vG (m:=k) rfl rfl rfl aN rfl (by omega)) ?_
 skip
 (refine Ca (W0) ?_;rintro _ _ ⟨_,hr,rfl⟩;(try refine Da ?_));rcases hr with⟨h0,rfl,rfl⟩|⟨x,l,q,c,⟨rfl,hx,hlx⟩,rfl,rfl⟩
 ·refine Da ?_;(repeat' (first|refine Wa ?_|refine We ?_|(refine Wb ?_;intro b)|fail));exact Ea (x:= .inl ⟨h0,rfl,rfl⟩)
 ·refine Da ?_;by_cases hk2:x.kind=2
  ·obtain⟨E,hE,hin⟩:=hS.cC rn x hx hk2;have hxe:=vW hE;subst hxe;have E0:=fun q c=>EO rn x l hlx hk2 _ hE q c
   (repeat' (first|refine Wa ?_|refine aF ?_|(refine Wb ?_;intro b)|fail));(refine Ca (E0 _ _) ?_;rintro _ _ ⟨_,⟨qe,ce,rfl,rfl⟩,rfl⟩;refine Da ?_);refine dN ?_;(refine aB (Hq:=[_,_]) [2,5] [] rfl (by kernel_rfl) Za ?_);refine gX ?_;(refine aA 7 ?_;refine aU _ rfl rfl wt (by decide +kernel) iS rfl (jF (i:=k) rfl rfl rfl aN hk1 Zu) ?_);refine pT ?_
   skip
   exact Ea (x:= .inr (.inr ⟨x,l,q,c,qe,ce,⟨rfl,hx,hlx,hk2,hE⟩,rfl,rfl⟩))
  ·have E0:=fun q c=>EF (rn:Int) (kI l) (gI l) (zI l) (by rw[hlx.kind];exact hk2) q (pI l).length c
   (repeat' (first|refine Wa ?_|refine aF ?_|(refine Wb ?_;intro b)|fail));(refine Ca (E0 _ _) ?_;rintro _ _ ⟨_,⟨rfl,rfl⟩,rfl⟩;refine Da ?_);refine dN ?_;(refine aB (Hq:=[_,_]) [1,4] [] rfl (by kernel_rfl) Za ?_);refine gX ?_;(refine aA 7 ?_;refine aU _ rfl rfl wt (by decide +kernel) iS rfl (jF (i:=k) rfl rfl rfl aN hk1 Zu) ?_);refine pT ?_
   skip
   exact Ea (x:= .inr (.inl ⟨x,l,q,c,⟨rfl,hx,hlx,hk2⟩,rfl,rfl⟩))
end Go.Proofs.YtbjalbcdbgcgdaaGreat.fs
namespace Go.Proofs.YtbjalbcdbgcgdaaGreat.fs
open Go.RowKit bG sl aX use dO fV dE file dir yQ
theorem bV {P:Program} {ops:Array Oper} {Q:eP} {n:Nat} {Hq:List Ent} {nk:List Nat} {r i m:Nat} {Lk:Array Bool} {F:dF} {H H':List Ent} (hs:HSub H H') (h:cQ P ops Q n Hq nk r i m Lk F H'):cQ P ops Q n Hq nk r i m Lk F H:=fun a w ha hw=>h a w ha (hs w hw)
theorem rK {H:List Ent} {sz:Nat}:HSub H (many sz []::H):=fun w hw=>aD.shared hw rfl (fun p hp=>absurd hp fj) fun k ⟨p,hp,_⟩=>absurd hp fj
theorem oY {H R S : List Ent} {sz : Nat} {v : Value} {rows : List (List Value)} {l : alR} (p : bF (many sz l) H R) (q : bF (sl sz v rows) H S) : HSub H (many sz ((v, rows) :: l) :: H) := fun w hw => aD.shared hw rfl (fun x hx => by
  rcases aw.1 hx with rfl|hx
  ·exact hw.1 _ q.mem
  ·exact hw.1 _ p.mem x hx) fun k ⟨x, hx, hk⟩ => by
  rcases aw.1 hx with rfl|hx
  ·exact⟨_,q.mem,rfl,hk⟩
  ·exact⟨_,p.mem,rfl,x,hx,hk⟩
def uS (tab:jQ) (full:Prop) [Decidable full] (r:Int×Nat) (nm:List UInt8):Int:=
 if r.1≠0 then r.1 else match tab r.2 with
 |none=>18
 |some y=>if y.kind≠2 then 15 else if dY y.cC nm=0 then 13 else if y.cC.length=24 then 10 else if full then 10 else 0
def uT (b:Nat) (x:tG) (tab:jQ) (r:Int×Nat) (nm:List UInt8) (ino:Nat) (kind g:Int) (v:Value) (H':List Ent):Prop:=
 (∃ e:Int,e≠0∧uS tab (ino=0) r nm=e∧v= .int .i64 e∧H'=fU b x)∨
 (∃ y,uS tab (ino=0) r nm=0∧tab r.2=some y∧tA b x (kH tab r.2 y nm ino kind g) x.d.aE 3 4 v H')
theorem TO (ps:List (Int×Int)) (gs:List Int): ∃ n,OI ps gs n:=by
 have h: ∀ m,m≤48→(∃ n,1≤n∧n<m∧tB ps gs n∧ ∀ j,1≤j→j<n→ ¬ tB ps gs j)∨ ∀ j,1≤j→j<m→ ¬ tB ps gs j:=by
  intro m;induction m with
  |zero=>intro _;exact .inr fun j _ h=>by omega
  |succ m ih=>
   intro hm;rcases ih (by omega) with⟨n,h1,h2,h3⟩|h
   ·exact .inl ⟨n,h1,by omega,h3⟩
   ·rcases qh (1≤m∧tB ps gs m) with h2|h2
    ·exact .inl ⟨m,h2.1,by omega,h2.2,h⟩
    ·refine .inr fun j j1 j2 hj=> ?_
     rcases Nat.lt_or_ge j m with h3|h3
     ·exact h j j1 h3 hj
     ·have hjm:j=m:=by omega
      subst hjm;exact h2 ⟨j1,hj⟩
 rcases h 48 (aq _) with⟨n,h1,h2,h3,h4⟩|h
 ·exact⟨n, .inl ⟨h1,h2,h3,h4⟩⟩
 ·exact⟨0, .inr ⟨rfl,h⟩⟩
attribute [local irreducible] box own sl gH aH bC Qt cJ cG dC dG eO
theorem KY (b:Nat) (x:tG) {tab:jQ} (hI:Inv x tab) (hops:x.ops.length≤1000) (qL:Option Addr) (cL:Nat) (L:List (List UInt8)) (hl1:L.length≤1000) (hl2: ∀ s∈L,iN s) {nm:List UInt8} {k:Nat} (hk:L.length=k+1) (hnm:L[k]? =some nm) {kind:Int} (hkind:kind=1∨kind=2) {ino:Nat} (hT:OI x.d.at' x.d.aE ino) {g:Int} (hg:x.d.aE[ino]? =some g):
  Ct Tryz.prog 62 [aH b 0, .slice qL L.length cL, .int .i64 kind] (fU b x++[sl 1 (.slice qL L.length cL) (L.map fT)]) (uT b x tab (dR tab 0 (L.take k)) nm ino kind g):=by
 have hnm1:=hl2 nm (jm hnm);have hlen: ∀ s∈L,s.length≤1000000:=fun s hs=>by have:=(hl2 s hs).2.2.2.1;omega
 have A0:=TM b x.d (.int .i64 x.vZ) (.int .i64 x.turn) (.slice x.qf x.fr.length x.cf) (.slice x.qo x.ops.length x.co) tab hI.BZ hI.shut qL cL L (by omega) hlen hk hnm;have TK:=aBI x.d.m x.d.g x.d.cm x.d.cg (IY hI.BZ.map) hI.BZ.map;have LO:=fun n y l (h:jO x.d n y l) E (hE:kZ E) q c qe ce=>TJ b x.d (.int .i64 x.vZ) (.int .i64 x.turn) (.slice x.qf x.fr.length x.cf) (.slice x.qo x.ops.length x.co) n y l h (E:=E) hE q c qe ce
 have CI:=fun tab' l (hl:l.length≤100) hC hS hsh q0 c0 hN hGn=>yK b x hI hops (tab':=tab') (l:=l) hl hC hS hsh q0 c0 4 (by omega) (N:=3) hN (G:=x.d.aE) hGn
 have MC:=fun n nx lx (hx:tab n=some nx) hlx hkn hE hadd hfr hino ps ho nq nl nc q c=>awM hI (n:=n) (nx:=nx) (lx:=lx) hx hlx hkn hE (nm:=nm) (ino:=ino) hadd hfr hino hg hkind (ps:=ps) ho nq nl nc q c
 obtain⟨R,hR⟩: ∃ R,dR tab 0 (L.take k)=R:=⟨_,rfl⟩;rw[hR] at A0 ⊢;clear hR;obtain⟨re,rn⟩:=R;have hgn:ino<x.d.aE.length:=(ah.1 hg).1;have BAD: ∀ e:Int,e≠0→uS tab (ino=0) (re,rn) nm=e→uT b x tab (re,rn) nm ino kind g (.int .i64 e) (fU b x):=fun e he h=> .inl ⟨e,he,h,rfl,rfl⟩
 have YES: ∀ y v H',uS tab (ino=0) (re,rn) nm=0→tab rn=some y→tA b x (kH tab rn y nm ino kind g) x.d.aE 3 4 v H'→uT b x tab (re,rn) nm ino kind g v H':=fun y v H' h1 h2 h3=> .inr ⟨y,h1,h2,h3⟩
 refine lX (R:=uT b x tab (re,rn) nm ino kind g) ?_ fun _ _ h=>h
 generalize uT b x tab (re,rn) nm ino kind g=RR at*;have hg0:=hg;obtain⟨d,s,tn,qf,cf,F,qo,co,Lo⟩:=x;obtain⟨a,ca,cs,w,cw,wl,m,cm,at1,qg,cg,aE⟩:=d;unfold WI at A0;unfold fU bE bB at*;dsimp only[List.cons_append,List.nil_append] at*;(refine Ye Tryz.func62 Tryz.ntmps62 ?_;intro Fr);refine dN ?_;(refine Ca (A0) ?_;rintro _ _ ⟨_,hr,rfl⟩;(try refine Da ?_));rcases hr with⟨h0,rfl,rfl⟩|⟨y,l,q,c,⟨rfl,hy,hly,hk2⟩,rfl,rfl⟩|⟨y,l,q,c,qe,ce,⟨rfl,hy,hly,hk2,hE⟩,rfl,rfl⟩
 ·refine Da ?_;have hb:=BAD re h0 (by unfold uS;rw[if_pos h0]);(repeat' (first|refine Wa ?_|refine We ?_|(refine Wb ?_;intro b)|fail));exact Ea (x:=hb)
 ·refine Da ?_;have hb:=BAD 15 (by decide) (by unfold uS;rw[if_neg (by simp),hy];dsimp only;rw[if_pos hk2]);(repeat' (first|refine Wa ?_|refine We ?_|(refine Wb ?_;intro b)|fail));exact Ea (x:=hb)
 ·refine Da ?_;have hEg:=sM hE;have FN:=fun q c=>dir.AW q c y.cC nm (by have:=hEg.1;omega) (fun p hp=>by have:=(gE (hEg.2.1 p hp)).1.2.2.2.1;omega) (by have:=hnm1.2.2.2.1;omega)
  have hme:uS tab (ino=0) (0,rn) nm=if dY y.cC nm=0 then 13 else if y.cC.length=24 then 10 else if ino=0 then 10 else 0:=by unfold uS;rw[if_neg (by simp),hy];dsimp only;rw[if_neg (by simp [hk2])]
  by_cases hf:dY y.cC nm=0
  ·have hb:=BAD 13 (by decide) (by rw[hme,if_pos hf]);rw[hf] at FN;(repeat' (first|refine Wa ?_|refine We ?_|(refine Wb ?_;intro b)|refine Wc (FN ..) ?_|fail));exact Ea (x:=hb)
  ·rw[if_neg hf] at hme;by_cases h24:y.cC.length=24
   ·have hb:=BAD 10 (by decide) (by rw[hme,if_pos h24]);(repeat' (first|refine Wa ?_|refine We ?_|(refine Wb ?_;intro b)|refine Wc (FN ..) ?_|fail));exact Ea (x:=hb)
   ·rw[if_neg h24] at hme;(repeat' (first|refine Wa ?_|refine aF ?_|(refine Wb ?_;intro b)|refine Wc (FN ..) ?_|fail));(refine Ca (TK) ?_;rintro _ _ ⟨_,⟨ino',hT',rfl,rfl⟩,rfl⟩;refine Da ?_);obtain rfl:=take_one _ _ _ _ hT hT';by_cases hi0:ino=0
    ·have hb:=BAD 10 (by decide) (by rw[hme,if_pos hi0]);rw[if_pos hi0];refine aZ ?_;exact Ea (x:=hb)
    ·rw[if_neg hi0] at hme;rw[if_neg hi0];rcases hT with⟨t1,t2,t3,_⟩|⟨t1,_⟩
     ·have hadd:=OK hE hnm1 hf h24 t2;have AD:=fun q c=>dir.aEW q c y.cC (nm,(ino:Int)) hadd
      have hgd:=wA hadd;have hal:=abF y.cC (nm,(ino:Int));rw[←hal] at AD;have LO1:=LO rn y l hly _ hgd;have MC1:=MC rn y l hy hly hk2 hE hadd t3 t2;clear LO MC TK FN A0 BAD hadd hal hT';generalize yD y.cC (nm,(ino:Int))=E2 at*;refine dN ?_;(refine Ca (AD _ _) ?_;rintro _ _ ⟨_,⟨q6,c6,rfl,rfl⟩,rfl⟩;refine Da ?_);refine dN ?_;(refine Ca (LO1 _ _ _ _) ?_;rintro _ _ ⟨_,⟨ps,q7,c7,hps,rfl,rfl⟩,rfl⟩;refine Da ?_);(repeat' (first|refine Wa ?_|refine aF ?_|(refine Wb ?_;intro b)|fail));obtain⟨m1,m2,m3,m4⟩:=MC1 ps hps q (pI l).length c q7 c7;have C1:=fun q9=>CI _ _ (by simp) m1 m2 m3 q9 2 m4 rfl
      dsimp only[List.length_cons,lk,Nat.reduceAdd] at C1;clear m1 m2 m3 m4 MC1 CI LO1 AD hps;(refine aB (Hq:=[_,_]) [0,10] [19] rfl (by kernel_rfl) Za ?_);refine gX ?_;(refine aA 17 ?_;refine Oa (l:=by exact aM rfl rfl rfl (by exact lE) rfl rfl (by decide) rfl) (k:= ?_);rintro _ _ ⟨q9,rfl,rfl⟩;refine Te ?_;(try refine Da ?_));refine bV (bI (v:= .slice q9 2 2) (e:=237) (m:=2) (f:=BJ) (ys:=[nC ino kind g,⟨(rn:Int),kI l,gI l,((gT E2).length:Int),q,(pI l).length,c,ps,q7,c7,false⟩]) aN (fun _=>rfl) rfl) ?_;refine bV (bI (v:= .slice q7 ps.length c7) (e:=289) (m:=ps.length) (f:=jD) (ys:=ps) aN (fun _=>rfl) rfl) ?_;refine bV (aY _ 289 4) ?_;refine bV (bI (v:= .slice none 0 0) (e:=289) (m:=0) (f:=jD) (ys:=[]) aN (fun _=>rfl) rfl) ?_;refine bV (rK (sz:=4)) ?_;refine bV (oY (v:= .slice q7 ps.length c7) (rows:=ps.map jD) aN aN) ?_;refine bV (oY (v:= .slice none 0 0) (rows:=([]:List tD).map jD) aN aN) ?_;(refine Ce 18 (C1 _) ?_;rintro _ _ ⟨_,hc,rfl⟩;refine Tf ?_;(try refine Da ?_));(refine aA 19 ?_;refine Oa (l:=by exact (gV (yU rfl rfl))) (k:= ?_);rintro _ _ ⟨rfl,rfl⟩;refine Te ?_;(try refine Da ?_));refine pT ?_;exact Ed (x:=YES y _ _ hme hy hc)
     ·exact absurd t1 hi0
end Go.Proofs.YtbjalbcdbgcgdaaGreat.fs
namespace Go.Proofs.YtbjalbcdbgcgdaaGreat.fs
open Go.RowKit bG sl aX use dO fV dE file
def kQ (e:Int):Value:= .agg #[.int .i64 e, .string (str []), .int .i64 0, .int .i64 0, .slice none 0 0]
def apC (b:Nat) (x:tG) (tab':jQ) (G:List Int) (N keep:Nat) (v:Value) (H':List Ent):Prop:= ∃ e:Int,v=kQ e∧tA b x tab' G N keep (.int .i64 e) H'
theorem wB {b:Nat} {x:tG} {tab':jQ} {G:List Int} {N keep:Nat} {v:Value} {H':List Ent} (h:tA b x tab' G N keep v H'): ∃ e:Int,v= .int .i64 e:=by
 rcases h with⟨_,h,_⟩|⟨_,_,_,_,h,_⟩
 ·exact⟨_,h⟩
 ·exact⟨_,h⟩
theorem aBL {x:tG} {tab:jQ} (hI:Inv x tab) {n:Nat} {y z:Nd} (hy:tab n=some y) (hk:y.kind=1) {c:lS} (hc:TE x.d c n z) (hg:c.gone=false) (hs:oX c) (hz:z.kind=1):sP x.d tab [c] (mZ tab n (some z))∧(∀ y∈[c],oX y)∧Shut (mZ tab n (some z))∧(aQ [c]).length≤9:=by
 have hthere: ∀ k:Nat,(∃ w,tab k=some w)→ ∃ w,mZ tab n (some z) k=some w:=fun k ⟨w,hw⟩=>by
  by_cases e:k=n
  ·exact⟨z,by rw[e,eY]⟩
  ·exact⟨w,by rw[eH e];exact hw⟩
 refine⟨⟨by simp,fun y hy hg'=> ?_,fun y hy _=> ?_,fun m hm=> ?_⟩,fun y hy=> ?_,⟨fun m w hw=> ?_,fun m w hw hk2=> ?_, ?_⟩, ?_⟩
 ·rw[fk] at hy;subst hy;rw[hg] at hg';cases hg'
 ·rw[fk] at hy;subst hy;exact⟨n,z,hc,eY _ _ _⟩
 ·exact eH fun e=>hm c bc (by rw[hc.ino,e])
 ·rw[fk] at hy;subst hy;exact hs
 ·by_cases e:m=n
  ·rw[e,eY] at hw;cases hw;exact .inl hz
  ·rw[eH e] at hw;exact hI.shut.kinds m w hw
 ·by_cases e:m=n
  ·rw[e,eY] at hw;cases hw;omega
  ·rw[eH e] at hw;obtain⟨E,hE,hin⟩:=hI.shut.cC m w hw hk2;exact⟨E,hE,fun p hp=>hthere _ (hin p hp)⟩
 ·obtain⟨w,hw,hk0⟩:=hI.shut.root;by_cases e:0=n
  ·rw[←e,hw] at hy;cases hy;omega
  ·exact⟨w,by rw[eH e];exact hw,hk0⟩
 ·have h1:=mH c;rw[if_neg (by simp [hg])] at h1;have h2:=NU c.parts;have h3:=hs.2.1;simp only[aQ,kv,qj,jc];omega
def wrE (at':Int) (text:List UInt8):Int:=if at'<0 then 1 else if text=[] then 0 else if 4096<(text.length:Int) then 2 else if 4096-(text.length:Int)<at' then 2 else 0
theorem awN {n:Nat} {ps:List (List UInt8)} (h:eT n ps) (at':Int) (text:List UInt8):file.bK (n:Int) ps at' text=wrE at' text:=by
 unfold file.bK wrE;rw[if_neg (by simp [kY h])]
theorem awO {at':Int} {text:List UInt8} (h:wrE at' text=0):0≤at'∧(text=[]∨at'+text.length≤4096):=by
 unfold wrE at h;split at h
 ·cases h
 ·split at h
  ·next h1 h2=>exact⟨by omega, .inl h2⟩
  ·split at h
   ·cases h
   ·split at h
    ·cases h
    ·exact⟨by omega, .inr (by omega)⟩
theorem agH {n at':Nat} {text:List UInt8} {ps:List (List UInt8)} (hg:eT n ps) (h:text=[]∨at'+text.length≤4096):eT (jL n at' text) (mX n at' text ps):=by
 have h1:=hg.1;have hsz:jL n at' text≤4096:=by
  unfold jL;split
  ·exact h1
  ·next hne=>have:=h.resolve_left hne;omega
 exact sL (MW ps hsz)
end Go.Proofs.YtbjalbcdbgcgdaaGreat.fs
