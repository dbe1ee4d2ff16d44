/- Law HandStale: its texts, packed. -/
import Derived.Test.YtbjalbcdbgcgdaaGreatK42
import Derived.Test.YtbjalbcdbgcgdaaGreatK45
import Derived.Test.YtbjalbcdbgcgdaaGreatK07
import Derived.Test.YtbjalbcdbgcgdaaGreatK44
import Derived.Test.YtbjalbcdbgcgdaaGreatK35
import Derived.Test.YtbjalbcdbgcgdaaGreatK11
open List renaming append_nil->jc,cons_append->jg,flatMap_cons->kv,flatMap_nil->qj,getElem?_eq_some_iff->ah,getElem?_replicate->rf,length_append->ag,length_cons->fb,length_nil->lk,length_replicate->n7,mem_cons->aw,mem_cons_self->bc,mem_of_getElem?->jm,mem_singleton->fk,nil_append->fe,not_mem_nil->fj,replicate->eb,take_append_drop->il
open Nat renaming le_refl->aq,zero_le->fg
open Int renaming le_refl->lh
open ByteArray renaming empty->qu
open Bool renaming false_eq_true->mf
set_option linter.unusedVariables false
set_option maxRecDepth 100000
set_option maxHeartbeats 8000000
namespace Go.Proofs.YtbjalbcdbgcgdaaGreat.fs
open Go.RowKit bG sl aX use dO fV dE file dir yQ
structure aBO (tab:jQ):Prop where
 one: ∀ n m x y p q,tab n=some x→tab m=some y→x.kind=2→y.kind=2→p∈x.cC→q∈y.cC→p.2=q.2→n=m∧p=q
 zero: ∀ n x p,tab n=some x→x.kind=2→p∈x.cC→1≤p.2∧p.2<48
theorem TT {E:List bA} {s:List UInt8} (h:kZ E):kZ (rE E s):=by
 obtain⟨h1,h2,h3⟩:=h;have hs:(rE E s).Sublist E:=by
  unfold rE;have:=List.Sublist.append (List.Sublist.refl (E.take (eX E s))) (List.drop_sublist_drop_left E (Nat.le_succ (eX E s)));rwa [il] at this
 exact⟨Nat.le_trans hs.length_le h1,fun p hp=>h2 p (hs.subset hp),h3.sublist hs⟩
theorem axJ {E:List bA} {s:List UInt8} (h:kZ E) {p:bA}:p∈rE E s→p∈E∧(BV E s=true→p.1≠s):=fun hp=>by
 refine⟨acD hp,fun hd e=> ?_⟩;obtain⟨q,hq,hqs⟩:=agE hd;have hpq:=TL h.2.2 (acD hp) (jm hq) (by rw[e,hqs]);subst hpq;have hlt:=(ah.1 hq).1;have heq:=(ah.1 hq).2;have hpw:=h.2.2;rw[←il (eX E s) E,List.drop_eq_getElem_cons hlt,heq] at hpw;have h5:=List.pairwise_append.1 hpw;have h6:=(List.pairwise_cons.1 h5.2.1).1;have irr: ∀ t:List UInt8,blt t t=true→False:=fun t ht=>by
  have:=h.2.1 p (jm hq);exact absurd ht (by simp [oS])
 unfold rE at hp;rcases List.mem_append.1 hp with hp|hp
 ·exact irr _ (h5.2.2 p hp p bc)
 ·exact irr _ (h6 p hp)
def OZ (ino:Nat):lS:=⟨(ino:Int),0,0,0,none,0,0,[],none,0,true⟩
def jP (tab:jQ) (n:Nat) (nx:Nd) (nm:List UInt8) (ino:Nat):jQ:=mZ (mZ tab n (some (qD nx.gen (rE nx.cC nm)))) ino none
theorem aBP {E:List bA} {s:List UInt8} (h:dY E s=0): ∃ p∈E,p.1=s∧iY E s=p.2:=by
 obtain⟨h1,h2,h3⟩:=mF h;obtain⟨q,hq,hqs⟩:=agE h3;refine⟨q,jm hq,hqs, ?_⟩;unfold iY;rw[if_pos h,hq]
theorem axK {x:tG} {tab:jQ} (hI:Inv x tab) (hO:aBO tab) {n:Nat} {nx:Nd} {lx:List UInt8} (hx:tab n=some nx) (hlx:jO x.d n nx lx) (hk:nx.kind=2) {nm:List UInt8} (hf:dY nx.cC nm=0) {ino:Nat} (hino:ino=(iY nx.cC nm).toNat) {z:Nd} (hz:tab ino=some z) (hgen:z.gen<2147483647) (hleaf:z.kind=2→z.cC=[]) {ps:List tD} (ho:sR (pI lx) nx.parts (EM (gT (rE nx.cC nm))) ps) (nq:Option Addr) (nl nc:Nat) (q:Option Addr) (c:Nat):sP x.d tab [OZ ino,⟨(n:Int),kI lx,gI lx,((gT (rE nx.cC nm)).length:Int),nq,nl,nc,ps,q,c,false⟩] (jP tab n nx nm ino)∧(∀ y∈[OZ ino,⟨(n:Int),kI lx,gI lx,((gT (rE nx.cC nm)).length:Int),nq,nl,nc,ps,q,c,false⟩],oX y)∧Shut (jP tab n nx nm ino)∧(aQ [OZ ino,⟨(n:Int),kI lx,gI lx,((gT (rE nx.cC nm)).length:Int),nq,nl,nc,ps,q,c,false⟩]).length≤3:=by
 obtain⟨g1,g2,g3⟩:=mF hf;have hgd:=TT (s:=nm) g1;obtain⟨p0,hp0,hp0n,hp0v⟩:=aBP hf;have hp0b:=hO.zero n nx p0 hx hk hp0;rw[hp0v] at hino;have hip:p0.2=(ino:Int):=by omega
 obtain⟨c1,c2,c3⟩:=OJ hlx hk hgd ho nq nl nc q c;have hne:ino≠n:=by
  rintro rfl;rw[hx] at hz;cases hz;rw[hleaf hk] at hp0;exact absurd hp0 fj
 have hi48:=NK hI.BZ hz;have mt1:jP tab n nx nm ino ino=none:=eY _ _ _;have mt2:jP tab n nx nm ino n=some (qD nx.gen (rE nx.cC nm)):=by
  unfold jP;rw[eH (fun e=>hne e.symm),eY]
 have mt3: ∀ m,m≠ino→m≠n→jP tab n nx nm ino m=tab m:=fun m h1 h2=>by
  unfold jP;rw[eH h1,eH h2]
 refine⟨⟨?_,fun y hy hg=> ?_,fun y hy hg=> ?_,fun m hm=> ?_⟩,fun y hy=> ?_,⟨fun m y hy=> ?_,fun m y hy hk2=> ?_, ?_⟩, ?_⟩
 ·simp only[List.map_cons,List.map_nil,OZ,List.nodup_cons,fk,fj,not_false_eq_true,List.nodup_nil,and_true];omega
 ·simp only[aw,fj,or_false] at hy;rcases hy with rfl|rfl
  ·exact⟨ino,z,rfl,hz,hgen,mt1⟩
  ·cases hg
 ·simp only[aw,fj,or_false] at hy;rcases hy with rfl|rfl
  ·cases hg
  ·exact⟨n,_,c1,mt2⟩
 ·exact mt3 m (fun e=>hm _ bc (by rw[e];rfl)) (fun e=>hm _ (List.mem_cons_of_mem _ bc) (by rw[e]))
 ·simp only[aw,fj,or_false] at hy;rcases hy with rfl|rfl
  ·exact⟨⟨by show (0:Int)≤(ino:Int);omega,by show (ino:Int)<48;omega⟩,fg _,fun p hp=>by simp [OZ] at hp⟩
  ·exact c2
 ·by_cases e1:m=ino
  ·rw[e1,mt1] at hy;cases hy
  ·by_cases e2:m=n
   ·rw[e2,mt2] at hy;cases hy;exact .inr rfl
   ·rw[mt3 m e1 e2] at hy;exact hI.shut.kinds m y hy
 ·have hthere: ∀ k:Nat,k≠ino→(∃ w,tab k=some w)→ ∃ w,jP tab n nx nm ino k=some w:=fun k e1 ⟨w,hw⟩=>by
   by_cases e2:k=n
   ·exact⟨_,by rw[e2];exact mt2⟩
   ·exact⟨w,by rw[mt3 k e1 e2];exact hw⟩
  by_cases e1:m=ino
  ·rw[e1,mt1] at hy;cases hy
  ·by_cases e2:m=n
   ·rw[e2,mt2] at hy;cases hy;refine⟨_,(rJ hgd).1,fun p hp=> ?_⟩;obtain⟨hpE,hpn⟩:=axJ g1 hp;obtain⟨E0,hE0,hin⟩:=hI.shut.cC n nx hx hk;rw[←vW hE0] at hin;have hpb:=hO.zero n nx p hx hk hpE;refine hthere _ (fun e=> ?_) (hin p hpE);have:=(hO.one n n nx nx p p0 hx hx hk hk hpE hp0 (by omega)).2;rw[this] at hpn;exact hpn g3 hp0n
   ·rw[mt3 m e1 e2] at hy;obtain⟨E0,hE0,hin⟩:=hI.shut.cC m y hy hk2;have hE1:=vW hE0;refine⟨E0,hE0,fun p hp=>hthere _ (fun e=> ?_) (hin p hp)⟩;rw[←hE1] at hp;have hpb:=hO.zero m y p hy hk2 hp;exact e2 (hO.one m n y nx p p0 hy hx hk2 hk hp hp0 (by omega)).1
 ·obtain⟨y,hy,hk0⟩:=hI.shut.root;by_cases e1:0=ino
  ·omega
  ·by_cases e2:0=n
   ·exact⟨_,by rw[e2];exact mt2,rfl⟩
   ·exact⟨y,by rw[mt3 0 e1 e2];exact hy,hk0⟩
 ·have hf:=NU ps;simp only[aQ,kv,qj,jc,ag,mH,OZ,if_true,mf,if_false];show 1+(nM ps+1)≤3;omega
end Go.Proofs.YtbjalbcdbgcgdaaGreat.fs
namespace Go.Proofs.YtbjalbcdbgcgdaaGreat.fs
open Go.RowKit bG sl aX use dO fV dE file
def rM:jQ:=mZ (fun _=>none) 0 (some ⟨2,0,0,[]⟩)
def uY (n:Nat) (qa:Option Addr) (ca:Nat) (qm qg:Option Addr):FD:=⟨qa,ca,eb n ⟨#[]⟩,none,0,[],qm,48,eb 48 (0,0),qg,48,eb 48 0⟩
theorem agQ {α:Type} {n i:Nat} {x y:α} (h:(eb n x)[i]? =some y):y=x:=by
 rw[rf] at h;split at h
 ·exact (Option.some.inj h).symm
 ·cases h
theorem apU {n:Nat} (hn:32≤n∧n≤128) (qa:Option Addr) (ca:Nat) (qm qg:Option Addr):WO (uY n qa ca qm qg) (fun _=>none):=by
 refine⟨⟨?_, ?_,fun s hs=> ?_,fun p hp=>absurd hp fj,fg _⟩,⟨n7,n7,fun i hi p g hp hg=> ?_⟩,fun i hi _=> ?_,fun i y h=>by cases h⟩
 ·show 1≤(eb n _).length;rw[n7];omega
 ·show (eb n _).length≤128;rw[n7];omega
 ·rw[List.eq_of_mem_replicate hs];decide
 ·rw[agQ hp,agQ hg];decide
 ·show (eb 48 ((0:Int),(0:Int)))[i]? =_;rw[rf,if_pos hi]
def jA (n:Nat):List Int:=iH (fun _=>0) n
theorem agR {n:Nat} (hn:32≤n∧n≤128) (qa:Option Addr) (ca:Nat) (qm qg:Option Addr):Room (uY n qa ca qm qg) (jA n):=by
 refine⟨GL _ _,fun c hc=> ?_,fun c hc hl=> ?_, ?_⟩
 ·obtain⟨j,rfl,j2,j3,_⟩:=EN hc;show 2≤(j:Int)∧(j:Int)<((eb n _).length:Int);rw[n7];omega
 ·obtain⟨i,p,g,l,h1,_,h3,_⟩:=hl;have h1':(eb 48 ((0:Int),(0:Int)))[i]? =some p:=h1;rw[agQ h1'] at h3;exact h3 rfl
 ·have:=vX (fun _=>0) n;show ([]:List (Int×ByteArray)).length+(iH _ n).length≤400;rw[lk];omega
theorem apV {n:Nat} (hn:32≤n):30≤(jA n).length:=by
 have:=OY (L:=[]) (n:=n);rw[show cN (fun _=>0) []=fun _=>0 from rfl,lk] at this;unfold jA;omega
theorem agS {i:Nat} (h:2≤i):jA (i+1)=jA i++[(i:Int)]:=abO h rfl
theorem axL (n:Nat) (qa:Option Addr) (ca:Nat) (qm qg:Option Addr):sP (uY n qa ca qm qg) (fun _=>none) [nC 0 2 0] rM∧(∀ y∈[nC 0 2 0],oX y)∧(aQ [nC 0 2 0]).length≤1:=by
 refine⟨⟨by simp,fun y hy hg=> ?_,fun y hy hg=> ?_,fun m hm=> ?_⟩,fun y hy=> ?_, ?_⟩
 ·rw[fk] at hy;subst hy;cases hg
 ·rw[fk] at hy;subst hy;exact⟨0,⟨2,0,0,[]⟩,⟨rfl,by omega,rfl,rfl,rfl,rfl, .inr rfl,fg _,by unfold nC aJ;dsimp only[lk],by unfold aJ;dsimp only[lk],fun i p t hp=>by simp [nC] at hp⟩,eY _ _ _⟩
 ·exact eH fun e=>hm _ bc (by rw[e];rfl)
 ·rw[fk] at hy;subst hy;exact⟨⟨lh _,by show (0:Int)<48;decide⟩,fg _,fun p hp=>by simp [nC] at hp⟩
 ·simp only[aQ,kv,qj,jc,mH,nC,mf,if_false];exact aq _
theorem apW:Shut rM:=by
 refine⟨fun n x h=> ?_,fun n x h hk=> ?_,⟨_,eY _ _ _,rfl⟩⟩
 ·unfold rM mZ at h;split at h
  ·cases h;exact .inr rfl
  ·cases h
 ·unfold rM mZ at h;split at h
  ·cases h;exact⟨[],rfl,fun p hp=>absurd hp fj⟩
  ·cases h
theorem apX {P:List (Int×Int)}:GK (gQ P 0 (eb 48 (0,0),eb 48 0) [nC 0 2 0]).1≤1∧(gQ P 0 (eb 48 (0,0),eb 48 0) [nC 0 2 0]).2=eb 48 0:=by
 refine⟨?_,rfl⟩;show GK ((eb 48 ((0:Int),(0:Int))).set 0 (P[0+nM []]?.getD (0,0)))≤1;generalize P[0+nM []]?.getD (0,0)=p;rw[show (eb 48 ((0:Int),(0:Int))).set 0 p=p::eb 47 (0,0) from rfl];unfold GK;rw[List.filter_cons];have h0:(eb 47 ((0:Int),(0:Int))).filter (fun p=>decide (p.1≠0))=[]:=by
  rw[List.filter_replicate];rfl
 rw[h0];split<;>simp
end Go.Proofs.YtbjalbcdbgcgdaaGreat.fs
namespace Go.Proofs.YtbjalbcdbgcgdaaGreat.fs
open Go.RowKit bG sl aX use dO fV dE file
attribute [local irreducible] box own sl gH aH bC Qt cJ cG dC dG eO
theorem aFI (n:Nat) (h0:1≤n) (h1:n≤128):
  Ct Tryz.prog 163 [.int .i64 (n:Int)] [] fun v H'=> ∃ qa ca,v= .tuple #[.agg #[.slice qa n ca, .slice none 0 0], .int .i64 0]∧H'=[own (.slice qa n ca) 9 1 n (flat fS (eb n ⟨#[]⟩))]:=by
 (refine Ye Tryz.func163 Tryz.ntmps163 ?_;intro Fr);(repeat' (first|refine Wa ?_|refine We ?_|(refine Wb ?_;intro b)|fail));(refine aI wt rfl (cT (fS) (⟨#[]⟩) (c:=n) rfl rfl rfl Ze Ze rfl rfl (by omega) Zg) ?_;rintro _ _ ⟨qa,rfl,rfl⟩);refine eU ?_;exact Ea (x:=⟨_,_,rfl,rfl⟩)
def aHC (n:Nat) (v:Value) (H':List Ent):Prop:=
 ∃ b x,(Inv x rM∧n≤x.fr.length+11∧x.ops.length≤10∧x.d.aE=eb 48 0∧(x.vZ=0∨x.vZ=1)∧x.turn=0∧x.d.ps=[])∧v= .tuple #[aH b 0, .int .i64 0]∧H'=fU b x
theorem aFJ (n:Nat) (hn:32≤n∧n≤128):Ct Tryz.prog 85 [.int .i64 (n:Int)] [] (aHC n):=by
 have DM:=aFI n (by omega) hn.2;have hlr:(eb n (⟨#[]⟩:ByteArray)).length=n:=n7;(refine Ye Tryz.func85 Tryz.ntmps85 ?_;intro Fr);(repeat' (first|refine Wa ?_|refine aF ?_|(refine Wb ?_;intro b)|fail));(refine Ca (DM) ?_;rintro _ _ ⟨_,⟨qa,ca,rfl,rfl⟩,rfl⟩;refine Da ?_);refine dN ?_;(refine Ca (ED) ?_;rintro _ _ ⟨_,⟨qm,qg,rfl,rfl⟩,rfl⟩;refine Da ?_);refine dN ?_;refine aT (bI (v:= .slice qm 48 48) (e:=77) (m:=48) (f:=jW) (ys:=eb 48 (0,0)) aN (fun _=>rfl) n7.symm) ?_;refine aT (bI (v:= .slice qg 48 48) (e:=3) (m:=48) (f:=fI) (ys:=eb 48 0) aN (fun _=>rfl) n7.symm) ?_;refine aT (bI (v:= .slice qa n ca) (e:=9) (m:=n) (f:=fS) (ys:=eb n ⟨#[]⟩) aN (fun _=>rfl) n7.symm) ?_;refine aT (aY _ 130 2) ?_;refine aT (bI (v:= .slice none 0 0) (e:=130) (m:=0) (f:=fP) (ys:=[]) aN (fun _=>rfl) rfl) ?_;refine aT (aY _ 87 3) ?_;refine aT (aY _ 3 1) ?_;(refine aC (σ:=Nat×Option Addr×Nat) (fun x=>2≤x.1∧x.1≤n) (fun x=>[(5, .int .i64 (x.1:Int))]) (fun x=>[own (.slice x.2.1 (jA x.1).length x.2.2) 3 1 (jA x.1).length (flat fI (jA x.1)),box b [.slice qa n ca, .slice none 0 0, .slice qm 48 48, .slice qg 48 48, .int .i64 0, .int .i64 (-1), .slice x.2.1 (jA x.1).length x.2.2, .slice none 0 0] 136]) _ (fun x=>n-x.1) ((2,none,0)) (by exact⟨aq _,by omega⟩) (by exact gA) Zb (fun⟨i,qf,cf⟩ ⟨hi2,hi⟩=> ?_);refine Da ?_);dsimp only at hi2 hi ⊢;have hlen:=vX (fun _=>0) i;rcases Nat.lt_or_ge i n with hlt|hge
 ·have hnx:=agS hi2;have hlen2:(jA i).length≤i:=hlen;(repeat' (first|refine Wa ?_|refine We ?_|(refine Wq ?_;intro q)|fail));(refine aI wt (by rfl) (by first|exact Ma (fI) [(i:Int)] rfl|exact Mb (fI) [(i:Int)] rfl) ?_;rintro _ _ ⟨q5,c5,rfl,rfl⟩);rw[←hnx];refine eU ?_;refine Ee ((i+1,q5,c5)) ?_ ?_
  ·exact⟨by dsimp only;omega,hlt⟩
  ·dsimp only;omega
 ·obtain rfl:i=n:=by omega
  have hlen2:(jA i).length≤i:=hlen;have h30:=apV hn.1;obtain⟨k1,k2,k3⟩:=axL i qa ca qm qg;obtain⟨gs,g1,g2,g3⟩:=wX (F:=jA i) (abY k2) (fun P=>EK P _ 0 k2);have hgl:gs.length≤1:=by
   have h1:=WH g3;have h2:gs.flatten.length=(aQ [nC 0 2 0]).length:=by
    rw[g2];have:=congrArg List.length (rI (dW (jA i) gs) [nC 0 2 0] 0);simpa [szs] using this
   omega
  have hL0:=apU hn qa ca qm qg;have hR0:=agR hn qa ca qm qg;have hG:sQ (uY i qa ca qm qg) (jA i) 0 [nC 0 2 0] gs:=⟨g1,g2,g3,by omega,lh _,by omega⟩;have hFO:=vQ hL0 hR0 k1 hG;have hgd: ∀ d',sZ (uY i qa ca qm qg) d' (jA i) 0 [nC 0 2 0] gs→aX.Good d'.cs d'.ps:=fun d' hA=>yJ hA hR0 hG hL0.xL
  have hgd2:=hgd ⟨none,0,(uY i qa ca qm qg).cs,none,0,(uY i qa ca qm qg).ps++gO 0 (jA i) gs,none,0,_,none,0,_⟩ ⟨rfl,rfl,rfl,rfl⟩;have C0:=fun q9=>TI b (uY i qa ca qm qg) 0 (.int .i64 (-1)) qf cf (jA i) [] none 0 q9 1 [nC 0 2 0] 0 gs (fg _) (by simp) (fun y hy=>by have:=(k2 y hy).2.1;omega) (by omega) (by omega) (fg _) hL0.map hG (by omega) hFO hgd2
  unfold bE bB at C0;have hds: ∀ P:FD→Prop,P (uY i qa ca qm qg)→P ⟨qa,ca,eb i ⟨#[]⟩,none,0,[],qm,48,eb 48 (0,0),qg,48,eb 48 0⟩:=fun P h=>h
  dsimp only[uY,jg,fe] at C0;simp only[n7,lk,fb,Nat.zero_add] at C0;refine aT (bI (v:= .slice qf (jA i).length cf) (e:=3) (m:=(jA i).length) (f:=fI) (ys:=jA i) aN (fun _=>rfl) rfl) ?_;clear hFO hgd hgd2 g1 g2 g3 hds DM;(repeat' (first|refine Wa ?_|refine aF ?_|(refine Wq ?_;intro q)|fail));refine aS (bI (v:= .slice q 1 1) (e:=237) (m:=1) (f:=BJ) (ys:=[nC 0 2 0]) aN (fun _=>rfl) rfl) ?_;refine aS (aY _ 289 4) ?_;refine aS (bI (v:= .slice none 0 0) (e:=289) (m:=0) (f:=jD) (ys:=[]) aN (fun _=>rfl) rfl) ?_;refine aS (rK (sz:=4)) ?_;refine aS (oY (v:= .slice none 0 0) (rows:=([]:List tD).map jD) aN aN) ?_;refine Cb (C0 _) ?_;rintro _ _ ⟨_,hc,rfl⟩;obtain⟨d1,qf1,cf1,q1,c1,hA,rfl,rfl⟩:=hc;obtain⟨hl1,hr1⟩:=OD (d:=uY i qa ca qm qg) hA hL0 hR0 k1 hG;obtain⟨r1,r2⟩:=apX (P:=dW (jA i) gs);have hd1c:d1.cs.length=i:=by rw[hA.cs];exact n7
  have hd1l:GK d1.at'≤1:=by rw[hA.at'];exact r1
  have hd1g:d1.aE=eb 48 0:=by rw[hA.aE];exact r2
  obtain⟨F2,hso,hmany,hnext⟩:=axI (serial:=0+gs.length) (turn:= -1) hl1 (by omega) (by omega) (by omega);have hopl:([]++GY (gO 0 (jA i) gs)).length≤1:=by
   rw[fe];unfold GY;rw[List.length_map,uR _ _ _ hG.room];exact hgl
  generalize []++GY (gO 0 (jA i) gs)=ops1 at*;have SY:=axG b d1 (0+gs.length) (-1) (.slice qf1 ((jA i).length-gs.length) cf1) ops1 q1 c1 (by omega) hso;clear hso hl1 hr1 hA C0 k1 k2 k3 hG hL0 hR0;generalize syF d1 (0+gs.length) (-1)=cs2 at*;generalize ptF d1 (0+gs.length) (-1)=pt at*;unfold bE bB at*;dsimp only[jg,fe] at*;refine dN ?_;refine Cb (SY) ?_;rintro _ _ ⟨_,⟨a3,ca3,w3,cw3,q3,c3,qf3,cf3,rfl,rfl⟩,rfl⟩;refine Da ?_;refine aS (bI (v:= .slice qf3 F2.length cf3) (e:=3) (m:=F2.length) (f:=fI) (ys:=F2) aN (fun _=>rfl) rfl) ?_;refine dN ?_;obtain⟨n1,n2,n3⟩:=hnext ⟨a3,ca3,cs2,w3,cw3,[],d1.m,d1.cm,d1.at',d1.g,d1.cg,d1.aE⟩ rfl rfl rfl rfl;have Y:aHC i (.tuple #[aH b 0, .int .i64 0]) (fU b ⟨⟨a3,ca3,cs2,w3,cw3,[],d1.m,d1.cm,d1.at',d1.g,d1.cg,d1.aE⟩,0+gs.length, -1+1,qf3,cf3,F2,q3,c3,ops1++[(2,0,qu)]++[(1,(-1+1)%2,pt)]++[(2,0,qu)]⟩):=
   ⟨b,_,⟨⟨n1,apW,n2,by dsimp only;omega,by dsimp only;omega,by show (0:Int)≤ -1+1;decide,n3⟩,by dsimp only;omega,by simp only[ag,List.length_singleton];omega,hd1g,by dsimp only;omega,rfl,rfl⟩,rfl,rfl⟩
  unfold fU bE bB at Y;dsimp only[jg,fe] at Y;exact Ea (x:=Y)
end Go.Proofs.YtbjalbcdbgcgdaaGreat.fs
namespace Go.Proofs.YtbjalbcdbgcgdaaGreat.fs
open Go.RowKit bG sl aX use dO fV dE file dir yQ
def akB (n:Nat) (g:Int):Value:= .agg #[.int .i64 (n:Int), .int .i64 g]
attribute [local irreducible] box own sl gH aH bC Qt cJ cG dC dG eO
theorem akC (b:Nat) (d:FD) (s t f o:Value) {tab:jQ} (hL:WO d tab) (hS:Shut tab) (p:List UInt8) (hp:p.length≤1000000000000000) {L:List (List UInt8)} (h:CA.bN p=(L,0)) {ino:Nat} (hwL:dR tab 0 L=(0,ino)) {z:Nd} (hz:tab ino=some z):
  Ct Tryz.prog 105 [aH b 0, .string (str p)] (bE b d s t f o::bB d) fun v H'=>v= .tuple #[akB ino z.gen, .int .i64 0]∧H'=[bE b d s t f o]:=by
 have S0:=rL hp h;obtain⟨hgood,hl8⟩:=mK h;have W0:=fun qL cL=>uP b d s t f o tab hL hS qL cL L (by omega) (fun s hs=>by have:=(hgood s hs).2.2.2.1;omega)
 rw[hwL] at W0;unfold wV at W0;unfold akB;obtain⟨a,ca,cs,w,cw,wl,m,cm,at1,qg,cg,aE⟩:=d;unfold bE bB at*;dsimp only[jg,fe] at*;(refine Ye Tryz.func105 Tryz.ntmps105 ?_;intro Fr);(repeat' (first|refine Wa ?_|refine aF ?_|(refine Wb ?_;intro b)|fail));(refine Ca (S0) ?_;rintro _ _ ⟨_,⟨q1,c1,rfl,rfl⟩,rfl⟩;refine Da ?_);refine dN ?_;(refine Ca (W0 _ _) ?_;rintro _ _ ⟨_,hr,rfl⟩;(try refine Da ?_));rcases hr with⟨h0,rfl,rfl⟩|⟨y',l,q,c,⟨_,hy',hly⟩,rfl,rfl⟩
 ·exact absurd rfl h0
 ·rw[hz] at hy';cases hy';have hgn:gI l=z.gen:=hly.gen;rw[hgn];refine Da ?_;(repeat' (first|refine Wa ?_|refine We ?_|(refine Wb ?_;intro b)|fail));exact Ea (x:=⟨rfl,rfl⟩)
theorem apY (b:Nat) (H:List Ent) (n g z:Int) (q:Option Addr) (m c:Nat):Ct Tryz.prog 65 [aH b 0, .int .i64 n, .agg #[.int .i64 1, .int .i64 g, .int .i64 z, .slice q m c]] [] fun v H'=>v= .agg #[.int .i64 0, .string (str []), .int .i64 1, .int .i64 z, .slice none 0 0]∧H'=[]:=by
 (refine Ye Tryz.func65 Tryz.ntmps65 ?_;intro Fr);(repeat' (first|refine Wa ?_|refine We ?_|(refine Wb ?_;intro b)|fail));exact Ea (x:=⟨rfl,rfl⟩)
theorem akD (b:Nat) (x:tG) {tab:jQ} (hI:Inv x tab) (s:List UInt8) (hs:s.length≤1000000000000000) {L:List (List UInt8)} (h:CA.bN s=(L,0)) {ino:Nat} (hwL:dR tab 0 L=(0,ino)) {z:Nd} (hz:tab ino=some z) (hzk:z.kind=1) (s2:ByteArray) (at' N:Int) (text:List UInt8):
  Ct Tryz.prog 15 [aH b 0,tF 10 s s2 at' N text] (fU b x) fun v H'=>v= .agg #[.int .i64 0, .string (str []), .int .i64 1, .int .i64 (z.size:Int), .slice none 0 0]∧H'=fU b (bT x):=by
 have S0:=rL hs h;obtain⟨hgood,hl8⟩:=mK h;have ST:=apY b [];have W0:=fun qL cL=>uP b (bT x).d (.int .i64 (bT x).vZ) (.int .i64 (bT x).turn) (.slice (bT x).qf (bT x).fr.length (bT x).cf) (.slice (bT x).qo (bT x).ops.length (bT x).co) tab hI.BZ hI.shut qL cL L (by omega) (fun s hs=>by have:=(hgood s hs).2.2.2.1;omega)
 rw[hwL] at W0;unfold wV at W0;unfold bT at*;unfold tF;obtain⟨d,s0,tn,qf,cf,F,qo,co,Lo⟩:=x;obtain⟨a,ca,cs,w,cw,wl,m,cm,at1,qg,cg,aE⟩:=d;unfold fU bE bB at*;dsimp only[jg,fe] at*;(refine Ye Tryz.func15 Tryz.ntmps15 ?_;intro Fr);(repeat' (first|refine Wa ?_|refine aF ?_|(refine Wb ?_;intro b)|fail));refine aS (aY _ 87 3) ?_;(refine Ca (S0) ?_;rintro _ _ ⟨_,⟨q1,c1,rfl,rfl⟩,rfl⟩;refine Da ?_);refine dN ?_;(refine Ca (W0 _ _) ?_;rintro _ _ ⟨_,hr,rfl⟩;(try refine Da ?_));rcases hr with⟨h0,rfl,rfl⟩|⟨y',l,q,c,⟨_,hy',hly⟩,rfl,rfl⟩
 ·exact absurd rfl h0
 ·rw[hz] at hy';cases hy';have hk1:kI l=1:=by rw[hly.kind];exact hzk
  have hz1:zI l=(z.size:Int):=hly.size;rw[hk1,hz1];refine Da ?_;(repeat' (first|refine Wa ?_|refine We ?_|(refine Wb ?_;intro b)|refine Wc (ST _ _ _ _ _ _) ?_|fail));exact Ea (x:=⟨rfl,rfl⟩)
end Go.Proofs.YtbjalbcdbgcgdaaGreat.fs
namespace Go.Proofs.YtbjalbcdbgcgdaaGreat.hand
open Go.RowKit bG sl aX dE dO use fs
def aHD (n:Nat) (v:Value) (H':List Ent):Prop:=
 ∃ bt b x,(Inv x rM∧n≤x.fr.length+11∧x.ops.length≤10∧x.d.aE=eb 48 0∧(x.vZ=0∨x.vZ=1)∧x.turn=0∧x.d.ps=[])∧v= .tuple #[aH bt 0, .int .i64 0]∧H'=rF bt b eR eR::fU b x
theorem aBQ (b i:Nat):(aH b i).oneCell'=true:=rfl
attribute [local irreducible] box own sl gH aH bC Qt cJ cG dC dG eO
theorem aBR (n:Nat) (hn:32≤n∧n≤128):Ct Tryz.prog 40 [.int .i64 (n:Int)] [] (aHD n):=by
 have NW:=aFJ n hn;(refine Ye Tryz.func40 Tryz.ntmps40 ?_;intro Fr);refine dN ?_;refine Cb (NW) ?_;rintro _ _ ⟨_,⟨b0,x0,hf,rfl,rfl⟩,rfl⟩;have Y: ∀ bt,aHD n (.tuple #[aH bt 0, .int .i64 0]) (rF bt b0 eR eR::fU b0 x0):=fun bt=>⟨bt,b0,x0,hf,rfl,rfl⟩
 clear hf;unfold rF eR Hd.cells at Y;dsimp only[jg,fe] at Y;generalize fU b0 x0=H0 at*;refine aZ ?_;refine gK 5 rfl wt rfl (aDE rfl rfl (by dsimp only;apply yZ;(focus rfl);(focus (exact aBQ b0 0));(focus rfl);(focus (exact aCN _ _ _));exact Bld.nil)) ?_;(repeat' (first|refine Wa ?_|(refine Wb ?_;intro b)|fail));exact gU rfl qK _ (Y _) (HSub.refl _)
theorem agT (bt b:Nat) (x y:Hd) (hx:x.xB=false) (X:tG) {tab:jQ} (hI:Inv X tab) (s:List UInt8) (hs:s.length≤1000000000000000) {L:List (List UInt8)} (h:CA.bN s=(L,0)) {ino:Nat} (hwL:dR tab 0 L=(0,ino)) {z:Nd} (hz:tab ino=some z) (hzk:z.kind=1):
  Ct Tryz.prog 41 [aH bt 0, .string (str s)] (rF bt b x y::fU b X) fun v H'=>v= .tuple #[.int .i64 0, .int .i64 0]∧H'=rF bt b ⟨(ino:Int),z.gen,0,true⟩ y::fU b (bT X):=by
 have F0:=akC b X.d (.int .i64 X.vZ) (.int .i64 X.turn) (.slice X.qf X.fr.length X.cf) (.slice X.qo X.ops.length X.co) hI.BZ hI.shut s hs h hwL hz;have S0:=akD b X hI s hs h hwL hz hzk qu 0 0 [];unfold akB at F0;unfold tF at S0;obtain⟨x1,x2,x3,x4⟩:=x;obtain⟨y1,y2,y3,y4⟩:=y;dsimp only at hx;subst hx;clear hI hwL hz hzk;generalize z.gen=zg at*;generalize (z.size:Int)=zs at*;unfold bT at*;obtain⟨d,s0,tn,qf,cf,F,qo,co,Lo⟩:=X;obtain⟨a,ca,cs,w,cw,wl,m,cm,at1,qg,cg,aE⟩:=d;unfold rF eR Hd.cells;unfold fU bE bB at*;dsimp only[jg,fe] at*;(refine Ye Tryz.func41 Tryz.ntmps41 ?_;intro Fr);refine dN ?_;(refine Ca (F0) ?_;rintro _ _ ⟨_,⟨rfl,rfl⟩,rfl⟩;refine Da ?_);(repeat' (first|refine Wa ?_|refine aF ?_|(refine Wb ?_;intro b)|fail));refine Cb (S0) ?_;rintro _ _ ⟨_,⟨rfl,rfl⟩,rfl⟩;refine Da ?_
 skip
 refine dJ wt rfl (mT (off:=2) rfl (by kernel_rfl) rfl rfl) ?_;refine dN ?_;(refine cK (σ:=Nat) (fun i=>i=0) (fun i=>[(30, .int .i64 (i:Int))]) (fun i=>1-i) (0) (by rfl) (by exact gA) (fun i hi=> ?_);refine Da ?_);subst hi;refine dN ?_;refine gK 3 rfl wt rfl (cS (k:=0) rfl rfl rfl rfl (by omega) rfl) ?_;refine dN ?_;(refine aB (Hq:=[_]) [7] [] rfl (by kernel_rfl) Za ?_);refine gX ?_;(refine aA 6 ?_;refine aU _ rfl rfl wt (by decide +kernel) iS rfl (cS (k:=0) rfl rfl rfl rfl (by omega) rfl) ?_);refine KA ?_
 skip
 exact Ea (x:=⟨rfl,rfl⟩)
theorem GM (bt b:Nat) (x y:Hd) (hx:x.xB=true) (hy:y.xB=false) (X:tG) {tab:jQ} (hI:Inv X tab) (s:List UInt8) (hs:s.length≤1000000000000000) {L:List (List UInt8)} (h:CA.bN s=(L,0)) {ino:Nat} (hwL:dR tab 0 L=(0,ino)) {z:Nd} (hz:tab ino=some z) (hzk:z.kind=1):
  Ct Tryz.prog 41 [aH bt 0, .string (str s)] (rF bt b x y::fU b X) fun v H'=>v= .tuple #[.int .i64 1, .int .i64 0]∧H'=rF bt b x ⟨(ino:Int),z.gen,0,true⟩::fU b (bT X):=by
 have F0:=akC b X.d (.int .i64 X.vZ) (.int .i64 X.turn) (.slice X.qf X.fr.length X.cf) (.slice X.qo X.ops.length X.co) hI.BZ hI.shut s hs h hwL hz;have S0:=akD b X hI s hs h hwL hz hzk qu 0 0 [];unfold akB at F0;unfold tF at S0;obtain⟨x1,x2,x3,x4⟩:=x;obtain⟨y1,y2,y3,y4⟩:=y;dsimp only at hx hy;subst hx hy;clear hI hwL hz hzk;generalize z.gen=zg at*;generalize (z.size:Int)=zs at*;unfold bT at*;obtain⟨d,s0,tn,qf,cf,F,qo,co,Lo⟩:=X;obtain⟨a,ca,cs,w,cw,wl,m,cm,at1,qg,cg,aE⟩:=d;unfold rF eR Hd.cells;unfold fU bE bB at*;dsimp only[jg,fe] at*;(refine Ye Tryz.func41 Tryz.ntmps41 ?_;intro Fr);refine dN ?_;(refine Ca (F0) ?_;rintro _ _ ⟨_,⟨rfl,rfl⟩,rfl⟩;refine Da ?_);(repeat' (first|refine Wa ?_|refine aF ?_|(refine Wb ?_;intro b)|fail));refine Cb (S0) ?_;rintro _ _ ⟨_,⟨rfl,rfl⟩,rfl⟩;refine Da ?_
 skip
 refine dJ wt rfl (mT (off:=2) rfl (by kernel_rfl) rfl rfl) ?_;refine dN ?_;(refine cK (σ:=Nat) (fun i=>i≤1) (fun i=>[(30, .int .i64 (i:Int))]) (fun i=>2-i) (0) Zp (by exact gA) (fun i hi=> ?_);refine Da ?_);rcases (show i=0∨i=1 from by omega) with rfl|rfl
 ·refine dN ?_;refine gK 3 rfl wt rfl (cS (k:=0) rfl rfl rfl rfl (by omega) rfl) ?_;refine eU ?_;refine Ee (1) ?_ ?_
  ·exact aq _
  ·decide
 ·refine dN ?_;refine gK 3 rfl wt rfl (cS (k:=1) rfl rfl rfl rfl (by omega) rfl) ?_;refine dN ?_;(refine aB (Hq:=[_]) [7] [] rfl (by kernel_rfl) Za ?_);refine gX ?_;(refine aA 6 ?_;refine aU _ rfl rfl wt (by decide +kernel) iS rfl (cS (k:=1) rfl rfl rfl rfl (by omega) rfl) ?_);refine KA ?_
  skip
  exact Ea (x:=⟨rfl,rfl⟩)
end Go.Proofs.YtbjalbcdbgcgdaaGreat.hand
namespace Go.Proofs.YtbjalbcdbgcgdaaGreat.fs
open Go.RowKit bG sl aX use dO fV dE file dir yQ
attribute [local irreducible] box own sl gH aH bC Qt cJ cG dC dG eO
theorem axM (b:Nat) (x:tG) {tab:jQ} (hI:Inv x tab) (hO:aBO tab) (hops:x.ops.length≤1000) (qL:Option Addr) (cL:Nat) (L:List (List UInt8)) (hl1:L.length≤1000) (hl2: ∀ s∈L,iN s) {nm:List UInt8} {k:Nat} (hk:L.length=k+1) (hnm:L[k]? =some nm) {rn:Nat} {y:Nd} (hw:dR tab 0 (L.take k)=(0,rn)) (hy:tab rn=some y) (hk2:y.kind=2) (hf:dY y.cC nm=0) {ino:Nat} (hino:ino=(iY y.cC nm).toNat) {z:Nd} (hz:tab ino=some z) (hgen:z.gen<2147483647) (hleaf:z.kind=2→z.cC=[]):
  Ct Tryz.prog 66 [aH b 0, .slice qL L.length cL, .int .i64 (ino:Int)] (fU b x++[sl 1 (.slice qL L.length cL) (L.map fT)]) (tA b x (jP tab rn y nm ino) (x.d.aE.set ino (x.d.aE[ino]?.getD 0+1)) 3 4):=by
 have hnm1:=hl2 nm (jm hnm);have hlen: ∀ s∈L,s.length≤1000000:=fun s hs=>by have:=(hl2 s hs).2.2.2.1;omega
 have A0:=TM b x.d (.int .i64 x.vZ) (.int .i64 x.turn) (.slice x.qf x.fr.length x.cf) (.slice x.qo x.ops.length x.co) tab hI.BZ hI.shut qL cL L (by omega) hlen hk hnm;rw[hw] at A0;have hgd:=TT (s:=nm) (mF hf).1;have LO:=fun l (h:jO x.d rn y l) q c qe ce=>TJ b x.d (.int .i64 x.vZ) (.int .i64 x.turn) (.slice x.qf x.fr.length x.cf) (.slice x.qo x.ops.length x.co) rn y l h hgd q c qe ce
 have CI:=fun l (hl:l.length≤100) hC hS hsh q0 c0 hN hGn=>yK b x hI hops (tab':=jP tab rn y nm ino) (l:=l) hl hC hS hsh q0 c0 4 (by omega) (N:=3) hN (G:=x.d.aE.set ino (x.d.aE[ino]?.getD 0+1)) hGn
 have MC:=fun lx hlx ps ho nq nl nc q c=>axK hI hO (n:=rn) (nx:=y) (lx:=lx) hy hlx hk2 hf hino hz hgen hleaf (ps:=ps) ho nq nl nc q c
 have CU:=fun q c=>dir.VR q c y.cC nm hf
 have hcl:=avP (afP (mF hf).2.2);rw[←hcl] at CU;clear hcl hgd;refine lX (R:=tA b x (jP tab rn y nm ino) (x.d.aE.set ino (x.d.aE[ino]?.getD 0+1)) 3 4) ?_ fun _ _ h=>h
 generalize tA b x (jP tab rn y nm ino) (x.d.aE.set ino (x.d.aE[ino]?.getD 0+1)) 3 4=RR at*;generalize rE y.cC nm=E2 at*;obtain⟨d,s,tn,qf,cf,F,qo,co,Lo⟩:=x;obtain⟨a,ca,cs,w,cw,wl,m,cm,at1,qg,cg,aE⟩:=d;unfold WI at A0;unfold fU bE bB at*;dsimp only[jg,fe] at*;(refine Ye Tryz.func66 Tryz.ntmps66 ?_;intro Fr);refine dN ?_;(refine Ca (A0) ?_;rintro _ _ ⟨_,hr,rfl⟩;(try refine Da ?_));rcases hr with⟨h0,rfl,rfl⟩|⟨y',l,q,c,⟨_,hy',hly,hk'⟩,rfl,rfl⟩|⟨y',l,q,c,qe,ce,⟨_,hy',hly,_,hE⟩,rfl,rfl⟩
 ·exact absurd rfl h0
 ·rw[hy] at hy';cases hy';exact absurd hk2 hk'
 ·rw[hy] at hy';cases hy';refine Da ?_;have LO1:=LO l hly;have MC1:=MC l hly;clear LO MC A0;(repeat' (first|refine Wa ?_|refine aF ?_|(refine Wb ?_;intro b)|fail));(refine Ca (CU _ _) ?_;rintro _ _ ⟨_,⟨q6,c6,rfl,rfl⟩,rfl⟩;refine Da ?_);refine dN ?_;(refine Ca (LO1 _ _ _ _) ?_;rintro _ _ ⟨_,⟨ps,q7,c7,hps,rfl,rfl⟩,rfl⟩;refine Da ?_);(repeat' (first|refine Wa ?_|refine aF ?_|(refine Wb ?_;intro b)|fail));obtain⟨m1,m2,m3,m4⟩:=MC1 ps hps q (pI l).length c q7 c7;have C1:=fun q9=>CI _ (by simp) m1 m2 m3 q9 2 m4 rfl
  dsimp only[fb,lk,Nat.reduceAdd] at C1;clear m1 m2 m3 m4 MC1 CI LO1 CU hps;(refine aB (Hq:=[_]) [0] [8] rfl (by kernel_rfl) Za ?_);refine gX ?_;(refine aA 6 ?_;refine Oa (l:=by exact aM rfl rfl rfl (by exact lE) rfl rfl (by decide) rfl) (k:= ?_);rintro _ _ ⟨q9,rfl,rfl⟩;refine Te ?_;(try refine Da ?_));refine bV (bI (v:= .slice q9 2 2) (e:=237) (m:=2) (f:=BJ) (ys:=[OZ ino,⟨(rn:Int),kI l,gI l,((gT E2).length:Int),q,(pI l).length,c,ps,q7,c7,false⟩]) aN (fun _=>rfl) rfl) ?_;refine bV (bI (v:= .slice q7 ps.length c7) (e:=289) (m:=ps.length) (f:=jD) (ys:=ps) aN (fun _=>rfl) rfl) ?_;refine bV (aY _ 289 4) ?_;refine bV (bI (v:= .slice none 0 0) (e:=289) (m:=0) (f:=jD) (ys:=[]) aN (fun _=>rfl) rfl) ?_;refine bV (rK (sz:=4)) ?_;refine bV (oY (v:= .slice q7 ps.length c7) (rows:=ps.map jD) aN aN) ?_;refine bV (oY (v:= .slice none 0 0) (rows:=([]:List tD).map jD) aN aN) ?_;(refine Ce 7 (C1 _) ?_;rintro _ _ ⟨_,hc,rfl⟩;refine Tf ?_;(try refine Da ?_));(refine aA 8 ?_;refine Oa (l:=by exact (gV (yU rfl rfl))) (k:= ?_);rintro _ _ ⟨rfl,rfl⟩;refine Te ?_;(try refine Da ?_));refine pT ?_;exact Ed (x:=hc)
end Go.Proofs.YtbjalbcdbgcgdaaGreat.fs
