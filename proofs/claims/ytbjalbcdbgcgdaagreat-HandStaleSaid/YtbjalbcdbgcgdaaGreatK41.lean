/- Law HandStale: its texts, packed. -/
import Derived.Test.YtbjalbcdbgcgdaaGreatK38
import Derived.Test.YtbjalbcdbgcgdaaGreatK36
import Derived.Test.YtbjalbcdbgcgdaaGreatK07
import Derived.Test.YtbjalbcdbgcgdaaGreatK40
import Derived.Test.YtbjalbcdbgcgdaaGreatK33
import Derived.Test.YtbjalbcdbgcgdaaGreatK35
import Derived.Test.YtbjalbcdbgcgdaaGreatK12
import Derived.Test.YtbjalbcdbgcgdaaGreatK14
import Derived.Test.YtbjalbcdbgcgdaaGreatK34
open List renaming getElem?_eq_getElem->aj,getElem?_eq_some_iff->ah,getElem?_of_mem->je,getElem?_take_of_lt->ji,length_append->ag,length_cons->fb,length_nil->lk,length_take->b9,mem_append->ft,mem_cons->aw,mem_cons_of_mem->ax,mem_cons_self->bc,mem_of_getElem?->jm,mem_singleton->fk,pairwise_cons->au
open Nat renaming le_refl->aq,lt_or_ge->iq,zero_le->fg
set_option linter.unusedVariables false
set_option maxRecDepth 100000
set_option maxHeartbeats 8000000
namespace Go.Proofs.YtbjalbcdbgcgdaaGreat.fs
open Go.RowKit bG sl aX use dO fV
attribute [local irreducible] box own sl gH aH bC Qt cJ cG dC dG eO
attribute [local irreducible] aQ
theorem abX (b:Nat) (d:FD) (s:Int) (t:Value) (qf:Option Addr) (cf:Nat) (F:List Int) (L:List OpT) (qo:Option Addr) (co:Nat) (q0:Option Addr) (c0:Nat) (l:List lS) (keep:Nat) (gs:List (List bD)) (hs:0≤s∧s≤2147483647) (hk:keep≤1000) (hl:l.length≤1000) (hp: ∀ x∈l,x.parts.length≤1000) (hN:(aQ l).length≤1000000) (hF:F.length≤1000)
  (hsp:bN (aQ l)=(gs.map (fun g=>(g.length:Int)),0)) (hgl:gs.length≤1000000) (hfull:F.length<gs.length+keep∨2147483647<s+gs.length):
  Ct Tryz.prog 135 [aH b 0, .slice q0 l.length c0, .int .i64 (keep:Int)] (bE b d (.int .i64 s) t (.slice qf F.length cf) (.slice qo L.length co)::(bB d++[sl 1 (.slice qf F.length cf) (F.map fI),own (.slice qo L.length co) 87 3 L.length (flat WC L),sl 7 (.slice q0 l.length c0) (l.map BJ),many 4 (l.map PW)])) fun v H'=>v= .int .i64 9∧H'=bE b d (.int .i64 s) t (.slice qf F.length cf) (.slice qo L.length co)::(bB d++[sl 1 (.slice qf F.length cf) (F.map fI),own (.slice qo L.length co) 87 3 L.length (flat WC L)]):=by
 have BL:=SV q0 c0 l hl hp;have SP:=fun q c=>vY q c (aQ l) (by omega)
 rw[hsp] at SP;dsimp only at SP;generalize aQ l=B at*;obtain⟨ns,hns⟩: ∃ ns,gs.map (fun g=>(g.length:Int))=ns:=⟨_,rfl⟩;have hnl:ns.length=gs.length:=by rw[←hns,List.length_map]
 rw[hns] at SP;rw[←hnl] at hgl hfull;clear hns hnl;obtain⟨a,ca,cs,w,cw,wl,m,cm,at1,qg,cg,aE⟩:=d;unfold bE bB;dsimp only[List.cons_append,List.nil_append];by_cases h1:F.length<ns.length+keep
 ·(refine Ye Tryz.func135 Tryz.ntmps135 ?_;intro Fr);refine dN ?_;refine Cb (BL) ?_;rintro _ _ ⟨_,⟨q1,c1,rfl,rfl⟩,rfl⟩;refine Da ?_;refine dN ?_;(refine Ca (SP _ _) ?_;rintro _ _ ⟨_,⟨q2,c2,rfl,rfl⟩,rfl⟩;refine Da ?_);refine aZ ?_;exact Ea (x:=⟨rfl,rfl⟩)
 ·have h2:2147483647<s+ns.length:=by omega
  (refine Ye Tryz.func135 Tryz.ntmps135 ?_;intro Fr);refine dN ?_;refine Cb (BL) ?_;rintro _ _ ⟨_,⟨q1,c1,rfl,rfl⟩,rfl⟩;refine Da ?_;refine dN ?_;(refine Ca (SP _ _) ?_;rintro _ _ ⟨_,⟨q2,c2,rfl,rfl⟩,rfl⟩;refine Da ?_);refine aZ ?_;exact Ea (x:=⟨rfl,rfl⟩)
end Go.Proofs.YtbjalbcdbgcgdaaGreat.fs
namespace Go.Proofs.YtbjalbcdbgcgdaaGreat.fs
open Go.RowKit bG sl aX use dO fV dE file
structure tG where
 d:FD
 vZ:Int
 turn:Int
 qf:Option Addr
 cf:Nat
 fr:List Int
 qo:Option Addr
 co:Nat
 ops:List OpT
def fU (b:Nat) (x:tG):List Ent:=
 bE b x.d (.int .i64 x.vZ) (.int .i64 x.turn) (.slice x.qf x.fr.length x.cf) (.slice x.qo x.ops.length x.co)::(bB x.d++[sl 1 (.slice x.qf x.fr.length x.cf) (x.fr.map fI),own (.slice x.qo x.ops.length x.co) 87 3 x.ops.length (flat WC x.ops)])
structure Inv (x:tG) (tab:jQ):Prop where
 BZ:WO x.d tab
 shut:Shut tab
 room:Room x.d x.fr
 vZ:0≤x.vZ
 aGZ:x.vZ≤2147483647
 turn:0≤x.turn
 two:2≤x.d.cs.length
theorem aFF {x:tG} {tab:jQ} (h:Inv x tab):x.fr.length≤400:=by have:=h.room.wait;omega
theorem EJ {n:Int} (hn:0≤n∧n<48): ∀ (t:List tD) (i:Nat),i+t.length≤8→(∀ p∈t,p.fresh=true→p.text.length≤600)→ ∀ b∈bY n t i,dA b=0
 |[],_,_,_,b,hb=>by simp [bY] at hb
 |p::t,i,hi,ht,b,hb=>by
  have ih:=EJ hn t (i+1) (by simp only[fb] at hi;omega) fun q hq=>ht q (ax _ hq)
  rw[bY] at hb;split at hb
  ·next hf=>
   rcases aw.1 hb with rfl|hb
   ·have:=ht p bc hf;refine rV ?_ Zj;unfold nA;simp only[fb] at hi;dsimp only;omega
   ·exact ih b hb
  ·exact ih b hb
def oX (x:lS):Prop:=(0≤x.ino∧x.ino<48)∧x.parts.length≤8∧ ∀ p∈x.parts,p.fresh=true→p.text.length≤600
theorem EK (P:List (Int×Int)): ∀ (l:List lS) (a:Nat),(∀ x∈l,oX x)→ ∀ b∈gP P a l,dA b=0
 |[],_,_,b,hb=>by simp [gP] at hb
 |x::l,a,h,b,hb=>by
  rw[gP,ft] at hb;rcases hb with hb|hb
  ·obtain⟨h1,h2,h3⟩:=h x bc;unfold rG at hb;split at hb
   ·rw[fk] at hb;subst hb;exact rV (by unfold nA;dsimp only[lk];omega) (by dsimp only[lk];omega)
   ·rcases ft.1 hb with hb|hb
    ·exact EJ h1 _ 0 (by omega) h3 b hb
    ·rw[fk] at hb;subst hb;refine rV Zm ?_;dsimp only;rw[sO,mY];omega
  ·exact EK P l _ (fun y hy=>h y (ax _ hy)) b hb
theorem abY {l:List lS} (h: ∀ x∈l,oX x): ∀ b∈aQ l,dA b=0:=fun b hb=>by
 obtain⟨x,hx,hb⟩:=List.mem_flatMap.1 hb;obtain⟨h1,h2,h3⟩:=h x hx;unfold iZ at hb;split at hb
 ·rw[fk] at hb;subst hb;exact rV (by unfold nA;dsimp only[lk];omega) (by dsimp only[lk];omega)
 ·rcases ft.1 hb with hb|hb
  ·exact EJ h1 _ 0 (by omega) h3 b hb
  ·rw[fk] at hb;subst hb;refine rV Zm ?_;dsimp only;rw[List.length_replicate];omega
theorem abZ: ∀ {l:List lS},(∀ x∈l,oX x)→(aQ l).length≤9*l.length
 |[],_=>aq _
 |x::l,h=>by
  have ih:=abZ (l:=l) fun y hy=>h y (ax _ hy)
  have hc:=mH x;have hf:=NU x.parts;have:=(h x bc).2.1;rw[show aQ (x::l)=iZ x++aQ l from rfl,ag,fb];split at hc<;>omega
theorem WH: ∀ {gs:List (List bD)},(∀ g∈gs,afW g)→gs.length≤gs.flatten.length
 |[],_=>aq _
 |g::gs,h=>by
  have ih:=WH (gs:=gs) fun y hy=>h y (ax _ hy)
  have:=List.length_pos_iff.2 (h g bc).1;rw[List.flatten_cons,ag,fb];omega
def aBH (aE:List Int) (l:List lS):List Int:=l.foldl (fun g x=>if x.gone=true then g.set x.ino.toNat (g[x.ino.toNat]?.getD 0+1) else g) aE
theorem OG (P:List (Int×Int)): ∀ (l:List lS) (a:Nat) (m:qC),(gQ P a m l).2=aBH m.2 l
 |[],_,_=>rfl
 |x::l,a,m=>by
  rw[gQ,OG P l];show aBH (fQ P a m x).2 l=aBH (if x.gone=true then m.2.set x.ino.toNat (m.2[x.ino.toNat]?.getD 0+1) else m.2) l;unfold fQ;split<;>rfl
def tA (b:Nat) (x:tG) (tab':jQ) (G:List Int) (N keep:Nat) (v:Value) (H':List Ent):Prop:=
 (((∃ k:Nat,k≤N∧(x.fr.length<k+keep∨2147483647<x.vZ+k)))∧v= .int .i64 9∧H'=fU b x)∨
 (∃ (x':tG) (k:Nat) (W:List (Int×ByteArray)),(Inv x' tab'∧(k≤N∧k+keep≤x.fr.length)∧x'.fr=x.fr.drop k∧x'.vZ=x.vZ+k∧x'.turn=x.turn∧W.length=k∧(∀ p∈W,p.1∈x.fr.take k)∧x'.d.cs=x.d.cs∧x'.d.ps=x.d.ps++W∧x'.ops=x.ops++GY W∧x'.d.aE=G∧ ∃ l gs,sQ x.d x.fr x.vZ l gs∧sZ x.d x'.d x.fr x.vZ l gs∧gs.length=k)∧v= .int .i64 0∧H'=fU b x')
theorem yK (b:Nat) (x:tG) {tab tab':jQ} (hI:Inv x tab) (hops:x.ops.length≤1000) {l:List lS} (hl:l.length≤100) (hC:sP x.d tab l tab') (hS: ∀ y∈l,oX y) (hsh:Shut tab') (q0:Option Addr) (c0 keep:Nat) (hk:keep≤1000) {N:Nat} (hN:(aQ l).length≤N) {G:List Int} (hGn:aBH x.d.aE l=G):Ct Tryz.prog 135 [aH b 0, .slice q0 l.length c0, .int .i64 (keep:Int)] (fU b x++[sl 7 (.slice q0 l.length c0) (l.map BJ),many 4 (l.map PW)]) (tA b x tab' G N keep):=by
 obtain⟨gs,h1,h2,h3⟩:=wX (F:=x.fr) (abY hS) (fun P=>EK P l 0 hS);have hbd:=abZ hS;have hle:=WH h3;have hsz:gs.flatten.length=(aQ l).length:=by
  rw[h2];have:=congrArg List.length (rI (dW x.fr gs) l 0);simpa [szs] using this
 have hfr:=aFF hI;obtain⟨d,s,tn,qf,cf,F,qo,co,L⟩:=x;dsimp only at hfr hops hC h2 hsz hGn ⊢;have hs0:=hI.vZ;dsimp only at hs0;have hs9:=hI.aGZ;dsimp only at hs9
 ·by_cases hfull:F.length<gs.length+keep∨2147483647<s+gs.length
  ·have C0:=abX b d s (.int .i64 tn) qf cf F L qo co q0 c0 l keep gs (by omega) hk (by omega) (fun y hy=>by have:=(hS y hy).2.1;omega) (by omega) (by omega) h1 (by omega) hfull;exact eW C0 fun v H' h=> .inl ⟨⟨gs.length,by omega,hfull⟩,h⟩
  ·have hG:sQ d F s l gs:=⟨h1,h2,h3,by omega,hs0,by omega⟩;have hFO:=vQ hI.BZ hI.room hC hG;have hgd: ∀ d',sZ d d' F s l gs→aX.Good d'.cs d'.ps:=fun d' hA=>yJ hA hI.room hG hI.BZ.xL
   have hgd2:=hgd ⟨none,0,d.cs,none,0,d.ps++gO s F gs,none,0,(gQ (dW F gs) 0 (d.at',d.aE) l).1,none,0,(gQ (dW F gs) 0 (d.at',d.aE) l).2⟩ ⟨rfl,rfl,rfl,rfl⟩;have C0:=TI b d s (.int .i64 tn) qf cf F L qo co q0 c0 l keep gs hk (by omega) (fun y hy=>by have:=(hS y hy).2.1;omega) (by omega) (by omega) hops hI.BZ.map hG (by omega) hFO hgd2;refine eW C0 fun v H' h=> ?_
   ·obtain⟨d',qf',cf',q,c,hA,hv,hH⟩:=h;obtain⟨hL',hR'⟩:=OD hA hI.BZ hI.room hC hG;refine .inr ⟨⟨d',s+gs.length,tn,qf',cf',F.drop gs.length,q,c,L++GY (gO s F gs)⟩,gs.length,gO s F gs,⟨⟨hL',hsh,hR',by dsimp only;omega,by dsimp only;omega,hI.turn,by dsimp only;rw[hA.cs];exact hI.two⟩,⟨by omega,by dsimp only;omega⟩,rfl,rfl,rfl,uR _ _ _ hG.room,WD _ _ _,hA.cs,hA.ps,rfl,by dsimp only;rw[hA.aE,OG, ←hGn],l,gs,hG,hA,rfl⟩,hv, ?_⟩;rw[hH];unfold fU;dsimp only;rw[List.length_drop]
end Go.Proofs.YtbjalbcdbgcgdaaGreat.fs
namespace Go.Proofs.YtbjalbcdbgcgdaaGreat.fs
open Go.RowKit bG sl aX use file
def aDC (pl:List (Int×Int)) (olds:List (List UInt8)) (i:Nat) (t:List UInt8) (p:tD):Prop:=
 (t=[]∧p=⟨(0,0),[],false⟩)∨(t≠[]∧olds[i]? =some t∧ ∃ q,pl[i]? =some q∧p=⟨q,[],false⟩)∨(t≠[]∧olds[i]? ≠some t∧ ∃ u,kG.pY t u∧p=⟨(0,0),u,true⟩)
structure sR (pl:List (Int×Int)) (olds news:List (List UInt8)) (ps:List tD):Prop where
 len:ps.length=news.length
 one: ∀ i t p,news[i]? =some t→ps[i]? =some p→aDC pl olds i t p
theorem EL {pl:List (Int×Int)} {olds news:List (List UInt8)} {ps:List tD} {i:Nat} {t:List UInt8} {p:tD} (h:sR pl olds (news.take i) ps) (ht:news[i]? =some t) (hp:aDC pl olds i t p):sR pl olds (news.take (i+1)) (ps++[p]):=by
 have hi:=(ah.1 ht).1;have hl:ps.length=i:=by rw[h.len,b9];omega
 refine⟨by rw[ag,List.length_singleton,hl,b9];omega,fun j u q hu hq=> ?_⟩;rcases iq j i with hj|hj
 ·rw[List.getElem?_append_left (by omega)] at hq;rw[ji (by omega)] at hu;exact h.one j u q (by rw[ji hj];exact hu) hq
 ·have hji:j=i:=by
   have:=(ah.1 hu).1;rw[b9] at this;omega
  subst hji;rw[ji (by omega),ht] at hu;cases hu;rw[List.getElem?_append_right (by omega),hl,Nat.sub_self] at hq;cases hq;exact hp
attribute [local irreducible] box own sl gH aH bC Qt cJ cG dC dG eO
theorem yL (n k g z0 zo z:Int) (nq:Option Addr) (nc:Nat) (pl:List (Int×Int)) (qo:Option Addr) (co:Nat) (olds:List (List UInt8)) (qn:Option Addr) (cn:Nat) (news:List (List UInt8)) (hpo:pl.length=olds.length) (hn8:news.length≤1000) (hn: ∀ t∈news,t.length≤512) (ho8:olds.length≤1000):
  Ct Tryz.prog 152 [.int .i64 n, .agg #[.int .i64 k, .int .i64 g, .int .i64 z0, .slice nq pl.length nc], .agg #[.int .i64 zo, .slice qo olds.length co], .agg #[.int .i64 z, .slice qn news.length cn]] [sl 2 (.slice nq pl.length nc) (pl.map jW),sl 1 (.slice qo olds.length co) (olds.map fT),sl 1 (.slice qn news.length cn) (news.map fT)] fun v H'=> ∃ ps q c,sR pl olds news ps∧v= .agg #[.int .i64 n, .int .i64 k, .int .i64 g, .int .i64 z, .slice nq pl.length nc, .slice q ps.length c, .bool false]∧H'=[own (.slice q ps.length c) 289 4 ps.length (flat jD ps)]:=by
 (refine Ye Tryz.func152 Tryz.ntmps152 ?_;intro Fr);(repeat' (first|refine Wa ?_|refine aF ?_|(refine Wb ?_;intro b)|fail));rename_i bx bo bn br;refine aT (aY _ 289 4) ?_;(refine aC (σ:=Nat×List tD×Option Addr×Nat) (fun x=>x.1≤news.length∧sR pl olds (news.take x.1) x.2.1∧x.2.1.length=x.1) (fun x=>[(24, .int .i64 (x.1:Int))]) (fun x=>[own (.slice x.2.2.1 x.2.1.length x.2.2.2) 289 4 x.2.1.length (flat jD x.2.1),box b [.int .i64 n, .int .i64 k, .int .i64 g, .int .i64 z, .slice nq pl.length nc, .slice x.2.2.1 x.2.1.length x.2.2.2, .bool false] 237]) _ (fun x=>news.length-x.1) ((0,[],none,0)) (by exact⟨fg _,⟨rfl,fun i t p h=>by simp at h⟩,rfl⟩) (by exact gA) Zb (fun⟨i,ps,q,c⟩ ⟨hi,ho,hil⟩=> ?_);refine Da ?_);dsimp only at hi ho hil ⊢;have one: ∀ y, ∀ u∈jD y,u.oneCell'=true:=by simp [jD,Value.oneCell']
 rcases iJ news i with⟨t,ht,hlt⟩|hge
 ·by_cases h0:t=[]
  ·subst h0;have hst:=EL ho ht (.inl ⟨rfl,rfl⟩);(repeat' (first|refine Wa ?_|refine We ?_|(refine Wq ?_;intro q)|fail));(refine aI wt (by rfl) (by first|exact Ma (jD) [⟨(0,0),[],false⟩] rfl|exact Mb (jD) [⟨(0,0),[],false⟩] rfl) ?_;rintro _ _ ⟨q5,c5,rfl,rfl⟩);refine eU ?_;refine Ee ((i+1,ps++[⟨(0,0),[],false⟩],q5,c5)) ?_ ?_
   ·exact⟨hlt,hst,by rw[ag,hil];rfl⟩
   ·dsimp only;omega
  ·have e0:(t==[])=false:=by simpa using h0
   have htl:=hn t (jm ht);by_cases h1:olds[i]? =some t
   ·have hio:=(ah.1 h1).1;obtain⟨q0,hq0⟩: ∃ q0,pl[i]? =some q0:=⟨_,aj (by omega)⟩;have hst:=EL ho ht (.inr (.inl ⟨h0,h1,q0,hq0,rfl⟩));have e1:(t==t)=true:=by simp
    refine dN ?_;(refine aB (Hq:=[_,_]) [5,6] [] rfl (by kernel_rfl) Za ?_);refine gX ?_;(refine aA 1 ?_;refine cU 8 (by kernel_rfl) ?_ ?_)
    ·(refine Oc (l:=by exact (gV (pE rfl rfl aN rfl))) (k:= ?_);rintro _ _ ⟨rfl,rfl⟩;refine Te ?_;(try refine Da ?_));(refine aA 8 ?_;refine Oa (l:=by exact aM rfl rfl rfl (by exact lE) rfl rfl (by decide) rfl) (k:= ?_);rintro _ _ ⟨q8,rfl,rfl⟩;refine Te ?_;(try refine Da ?_));(refine aA 9 ?_;refine Oa (l:=by exact (by first|exact Ma (jD) [⟨q0,[],false⟩] rfl|exact Mb (jD) [⟨q0,[],false⟩] rfl)) (k:= ?_);rintro _ _ ⟨q5,c5,rfl,rfl⟩;refine Te ?_;(try refine Da ?_));refine pT ?_;refine Ee ((i+1,ps++[⟨q0,[],false⟩],q5,c5)) ?_ ?_
     ·exact⟨hlt,hst,by rw[ag,hil];rfl⟩
     ·dsimp only;omega
    ·(refine Oc (l:=by exact aM rfl rfl rfl (by exact lE) rfl rfl (by decide) rfl) (k:= ?_);rintro _ _ ⟨q8,rfl,rfl⟩;refine Te ?_;(try refine Da ?_));(refine aA 1 ?_;refine Oa (l:=by exact (gV (pE rfl rfl aN rfl))) (k:= ?_);rintro _ _ ⟨rfl,rfl⟩;refine Te ?_;(try refine Da ?_));(refine aA 9 ?_;refine Oa (l:=by exact (by first|exact Ma (jD) [⟨q0,[],false⟩] rfl|exact Mb (jD) [⟨q0,[],false⟩] rfl)) (k:= ?_);rintro _ _ ⟨q5,c5,rfl,rfl⟩;refine Te ?_;(try refine Da ?_));refine pT ?_;refine Ee ((i+1,ps++[⟨q0,[],false⟩],q5,c5)) ?_ ?_
     ·exact⟨hlt,hst,by rw[ag,hil];rfl⟩
     ·dsimp only;omega
   ·have PR:=kG.anL t htl;have hst:=fun u hu=>EL ho ht (.inr (.inr ⟨h0,h1,u,hu,rfl⟩))
    rcases iq i olds.length with hio|hio
    ·obtain⟨u0,hu0⟩: ∃ u0,olds[i]? =some u0:=⟨_,aj hio⟩;have e1:(u0==t)=false:=by
      rw[beq_eq_false_iff_ne];rintro rfl;exact h1 hu0
     clear h1;refine dN ?_;(refine Ca (PR) ?_;rintro _ _ ⟨_,⟨u,hu,rfl,rfl⟩,rfl⟩;refine Da ?_);(repeat' (first|refine Wa ?_|(refine Wq ?_;intro q)|fail));(refine aI wt (by rfl) (by first|exact Ma (jD) [⟨(0,0),u,true⟩] rfl|exact Mb (jD) [⟨(0,0),u,true⟩] rfl) ?_;rintro _ _ ⟨q5,c5,rfl,rfl⟩);refine eU ?_;refine Ee ((i+1,ps++[⟨(0,0),u,true⟩],q5,c5)) ?_ ?_
     ·exact⟨hlt,hst u hu,by rw[ag,hil];rfl⟩
     ·dsimp only;omega
    ·clear h1;refine dN ?_;(refine Ca (PR) ?_;rintro _ _ ⟨_,⟨u,hu,rfl,rfl⟩,rfl⟩;refine Da ?_);(repeat' (first|refine Wa ?_|(refine Wq ?_;intro q)|fail));(refine aI wt (by rfl) (by first|exact Ma (jD) [⟨(0,0),u,true⟩] rfl|exact Mb (jD) [⟨(0,0),u,true⟩] rfl) ?_;rintro _ _ ⟨q5,c5,rfl,rfl⟩);refine eU ?_;refine Ee ((i+1,ps++[⟨(0,0),u,true⟩],q5,c5)) ?_ ?_
     ·exact⟨hlt,hst u hu,by rw[ag,hil];rfl⟩
     ·dsimp only;omega
 ·obtain rfl:i=news.length:=by omega
  rw[List.take_length] at ho;refine aZ ?_;exact Ea (x:=⟨ps,q,c,ho,rfl,rfl⟩)
end Go.Proofs.YtbjalbcdbgcgdaaGreat.fs
namespace Go.Proofs.YtbjalbcdbgcgdaaGreat.fs
open Go.RowKit bG sl aX fV dE dO use file dir yQ
def EM (T:List UInt8):List (List UInt8):=if T=[] then [] else [T]
theorem OH {E:List bA} (h:kZ E):wrD E=gT E∧(gT E).length≤336:=by
 obtain⟨h1,h2,h3⟩:=h;have:=abB (l:=E) fun p hp=>(gE (h2 p hp)).1.2.2.2.1
 exact⟨by unfold wrD;rw[if_pos ((cW E).2 ⟨h1,h2,h3⟩)],by omega⟩
attribute [local irreducible] box own sl gH aH bC Qt cJ cG dC dG eO
theorem TJ (b:Nat) (d:FD) (s t f o:Value) (n:Nat) (x:Nd) (l:List UInt8) (h:jO d n x l) {E:List bA} (hE:kZ E) (q:Option Addr) (c:Nat) (qe:Option Addr) (ce:Nat):
  Ct Tryz.prog 146 [aH b 0, .int .i64 (n:Int), .agg #[.int .i64 (kI l), .int .i64 (gI l), .int .i64 (zI l), .slice q (pI l).length c], .slice qe E.length ce] (bE b d s t f o::sl 2 (.slice q (pI l).length c) ((pI l).map jW)::sl 2 (.slice qe E.length ce) (E.map fE)::bB d)
   fun v H'=> ∃ ps q' c',sR (pI l) x.parts (EM (gT E)) ps∧v= .tuple #[.agg #[.int .i64 (n:Int), .int .i64 (kI l), .int .i64 (gI l), .int .i64 ((gT E).length:Int), .slice q (pI l).length c, .slice q' ps.length c', .bool false], .int .i64 0]∧H'=[bE b d s t f o,own (.slice q' ps.length c') 289 4 ps.length (flat jD ps)]:=by
 obtain⟨hw,hlen⟩:=OH hE;have hgf:=EB h.data h.small;have D0:=VV b d s t f o n x.size (kI l) (gI l) q c (pI l) x.parts h.told.xL h.small h.data;rw[←h.size] at D0;have W0:=dir.jR qe ce E (by have:=hE.1;omega) (fun p hp=>by have:=(gE (hE.2.1 p hp)).1.2.2.2.1;omega);rw[hw,(cW E).2 hE] at W0;have hpo:(pI l).length=x.parts.length:=h.data.2.1.symm;have hp8:x.parts.length≤1000:=by have:=h.data.1;have:=h.small;unfold aJ at*;omega
 generalize gT E=T at*;obtain⟨a,ca,cs,w,cw,wl,m,cm,at',qg,cg,aE⟩:=d;unfold bE bB at*;dsimp only at D0 ⊢;clear hgf hw;by_cases hT:T=[]
 ·subst hT;have TN:=fun qo co qn cn=>yL (n:Int) (kI l) (gI l) (zI l) (zI l) (([]:List UInt8).length:Int) q c (pI l) qo co x.parts qn cn [] hpo (fg _) (by simp) hp8
  have e0:(([]:List UInt8)==[])=true:=rfl;rw[show EM []=[] from rfl];(refine Ye Tryz.func146 Tryz.ntmps146 ?_;intro Fr);(repeat' (first|refine Wa ?_|refine aF ?_|(refine Wb ?_;intro b)|refine Wc (W0 ..) ?_|fail));(refine aB (Hq:=[_]) [1] [] rfl (by kernel_rfl) Za ?_);refine gX ?_;(refine aA 5 ?_;refine cU 9 (by kernel_rfl) ?_ ?_)
  ·(refine Cd 5 (D0) ?_;rintro _ _ ⟨_,⟨q5,c5,rfl,rfl⟩,rfl⟩;refine Te ?_;(try refine Da ?_));(repeat' (first|refine Wa ?_|refine Wk ?_|refine We ?_|(refine Wb ?_;intro b)|fail));(refine Ca (TN _ _ _ _) ?_;rintro _ _ ⟨_,⟨ps,q7,c7,hps,rfl,rfl⟩,rfl⟩;refine Da ?_);refine eU ?_;exact Ea (x:=⟨ps,q7,c7,hps,rfl,rfl⟩)
  ·(refine Oc (l:=by exact iI rfl) (k:= ?_);rintro _ _ ⟨b5,rfl,rfl⟩;refine Te ?_;(try refine Da ?_));refine gX ?_;(refine Cc 5 (D0) ?_;rintro _ _ ⟨_,⟨q5,c5,rfl,rfl⟩,rfl⟩;refine Te ?_;(try refine Da ?_));(repeat' (first|refine Wa ?_|refine Wk ?_|refine We ?_|(refine Wb ?_;intro b)|fail));(refine Ca (TN _ _ _ _) ?_;rintro _ _ ⟨_,⟨ps,q7,c7,hps,rfl,rfl⟩,rfl⟩;refine Da ?_);refine eU ?_;exact Ea (x:=⟨ps,q7,c7,hps,rfl,rfl⟩)
 ·have TN:=fun qo co qn cn=>yL (n:Int) (kI l) (gI l) (zI l) (zI l) (T.length:Int) q c (pI l) qo co x.parts qn cn [T] hpo (by simp) (fun t ht=>by rw[fk] at ht;subst ht;omega) hp8
  have e0:(T==[])=false:=by simpa using hT
  rw[show EM T=[T] from if_neg hT];(refine Ye Tryz.func146 Tryz.ntmps146 ?_;intro Fr);(repeat' (first|refine Wa ?_|refine aF ?_|(refine Wb ?_;intro b)|refine Wc (W0 ..) ?_|fail));(refine aB (Hq:=[_]) [1] [] rfl (by kernel_rfl) Za ?_);refine gX ?_;(refine aA 5 ?_;refine cU 9 (by kernel_rfl) ?_ ?_)
  ·(refine Cd 5 (D0) ?_;rintro _ _ ⟨_,⟨q5,c5,rfl,rfl⟩,rfl⟩;refine Te ?_;(try refine Da ?_));(repeat' (first|refine Wa ?_|refine Wk ?_|refine We ?_|(refine Wb ?_;intro b)|(refine Wq ?_;intro q)|fail));(refine Ca (TN _ _ _ _) ?_;rintro _ _ ⟨_,⟨ps,q7,c7,hps,rfl,rfl⟩,rfl⟩;refine Da ?_);refine eU ?_;exact Ea (x:=⟨ps,q7,c7,hps,rfl,rfl⟩)
  ·(refine Oc (l:=by exact iI rfl) (k:= ?_);rintro _ _ ⟨b5,rfl,rfl⟩;refine Te ?_;(try refine Da ?_));refine gX ?_;(refine Cc 5 (D0) ?_;rintro _ _ ⟨_,⟨q5,c5,rfl,rfl⟩,rfl⟩;refine Te ?_;(try refine Da ?_));(repeat' (first|refine Wa ?_|refine Wk ?_|refine We ?_|(refine Wb ?_;intro b)|(refine Wq ?_;intro q)|fail));(refine Ca (TN _ _ _ _) ?_;rintro _ _ ⟨_,⟨ps,q7,c7,hps,rfl,rfl⟩,rfl⟩;refine Da ?_);refine eU ?_;exact Ea (x:=⟨ps,q7,c7,hps,rfl,rfl⟩)
end Go.Proofs.YtbjalbcdbgcgdaaGreat.fs
namespace Go.Proofs.YtbjalbcdbgcgdaaGreat.dO
open Go.RowKit bG sl
def tB (ps:List (Int×Int)) (gs:List Int) (i:Nat):Prop:= ∃ p g,ps[i]? =some p∧gs[i]? =some g∧p.1=0∧g<2147483647
def OI (ps:List (Int×Int)) (gs:List Int) (n:Nat):Prop:=(1≤n∧n<48∧tB ps gs n∧ ∀ j,1≤j→j<n→ ¬ tB ps gs j)∨(n=0∧ ∀ j,1≤j→j<48→ ¬ tB ps gs j)
theorem take_one (ps:List (Int×Int)) (gs:List Int) (n m:Nat) (h:OI ps gs n) (h2:OI ps gs m):n=m:=by
 rcases h with⟨a1,a2,a3,a4⟩|⟨a1,a2⟩<;>rcases h2 with⟨b1,b2,b3,b4⟩|⟨b1,b2⟩
 ·rcases Nat.lt_trichotomy n m with h|h|h
  ·exact absurd a3 (b4 n a1 h)
  ·exact h
  ·exact absurd b3 (a4 m b1 h)
 ·exact absurd a3 (b2 n a1 a2)
 ·exact absurd b3 (a2 m b1 b2)
 ·omega
attribute [local irreducible] box own sl gH aH bC Qt cJ cG dC dG eO
theorem aBI (a g:Option Addr) (ca cg:Nat) {ps:List (Int×Int)} {gs:List Int} (hw:WfM ps gs) (h:dP ps gs):
  Ct Tryz.prog 144 [.agg #[.slice a ps.length ca, .slice g gs.length cg]] [sl 2 (.slice a ps.length ca) (ps.map jW),sl 1 (.slice g gs.length cg) (gs.map fI)] fun v H'=> ∃ n:Nat,OI ps gs n∧v= .tuple #[.int .i64 (n:Int), .int .i64 (if n=0 then 10 else 0)]∧H'=[]:=by
 have CK:=lY (.slice a ps.length ca) (.slice g gs.length cg) hw h;obtain⟨h1,h2,_⟩:=h;clear hw;(refine Ye Tryz.func144 Tryz.ntmps144 ?_;intro Fr);(repeat' (first|refine Wa ?_|refine We ?_|(refine Wb ?_;intro b)|refine Wc (CK ..) ?_|fail));(refine cK (σ:=Nat) (fun i=>(1≤i∧i≤48)∧ ∀ j,1≤j→j<i→ ¬ tB ps gs j) (fun i=>[(5, .int .i64 (i:Int))]) (fun i=>48-i) (1) (by exact⟨⟨aq _,by omega⟩,fun j h1 h2=>by omega⟩) (by exact gA) (fun i ⟨⟨hi1,hi⟩,hj⟩=> ?_);refine Da ?_);rcases iq i 48 with hlt|hge
 ·obtain⟨p,hp⟩: ∃ p,ps[i]? =some p:=⟨_,aj (by omega)⟩;obtain⟨g0,hg0⟩: ∃ g0,gs[i]? =some g0:=⟨_,aj (by omega)⟩;by_cases hc:p.1=0∧g0<2147483647
  ·obtain⟨c1,c2⟩:=hc;have hT:OI ps gs i:= .inl ⟨hi1,hlt,⟨p,g0,hp,hg0,c1,c2⟩,hj⟩;have hv:(if i=0 then (10:Int) else 0)=0:=if_neg (by omega);refine aZ ?_;exact Ea (x:=⟨i,hT,by rw[hv],rfl⟩)
  ·have hn: ¬ tB ps gs i:=by
    rintro⟨p',g',e1,e2,e3,e4⟩;rw[hp] at e1;cases e1;rw[hg0] at e2;cases e2;exact hc ⟨e3,e4⟩
   have hst: ∀ j,1≤j→j<i+1→ ¬ tB ps gs j:=fun j j1 j2=>by
    rcases iq j i with h|h
    ·exact hj j j1 h
    ·rw[show j=i from by omega];exact hn
   by_cases c1:p.1=0
   ·have c2: ¬ g0<2147483647:=fun e=>hc ⟨c1,e⟩
    clear hc;refine aZ ?_;refine Ee (i+1) ?_ ?_
    ·exact⟨⟨by omega,by omega⟩,hst⟩
    ·omega
   ·clear hc;refine aZ ?_;refine Ee (i+1) ?_ ?_
    ·exact⟨⟨by omega,by omega⟩,hst⟩
    ·omega
 ·obtain rfl:i=48:=by omega
  refine aZ ?_;exact Ea (x:=⟨0, .inr ⟨rfl,hj⟩,rfl,rfl⟩)
end Go.Proofs.YtbjalbcdbgcgdaaGreat.dO
namespace Go.Proofs.YtbjalbcdbgcgdaaGreat.dir
open Go.RowKit bG sl yQ
theorem acA {l:List bA} {x p:bA}:p∈yD l x↔p=x∨p∈l:=by
 unfold yD;have h:p∈l↔p∈l.take (eX l x.1)∨p∈l.drop (eX l x.1):=by
  rw[←ft,List.take_append_drop]
 rw[ft,aw,h];constructor
 ·rintro (h|h|h)
  ·exact .inr (.inl h)
  ·exact .inl h
  ·exact .inr (.inr h)
 ·rintro (h|h|h)
  ·exact .inr (.inl h)
  ·exact .inl h
  ·exact .inr (.inr h)
theorem aBJ {l:List bA} {s:List UInt8} (hp:l.Pairwise fun a b=>blt a.1 b.1=true) {p:bA} (h:p∈l.take (eX l s)):blt p.1 s=true:=by
 obtain⟨k,hk⟩:=je h;have hkl:=(ah.1 hk).1;rw[b9] at hkl;rw[ji (by omega)] at hk;exact (oU hp hk).2 (by omega)
theorem aBK {l:List bA} {s:List UInt8} (hp:l.Pairwise fun a b=>blt a.1 b.1=true) {p:bA} (h:p∈l.drop (eX l s)):blt p.1 s=false:=by
 obtain⟨k,hk⟩:=je h;rw[List.getElem?_drop] at hk;cases hb:blt p.1 s with
 |false=>rfl
 |true=>exact absurd ((oU hp hk).1 hb) (by omega)
theorem ajV {l:List bA} {s:List UInt8} (hp:l.Pairwise fun a b=>blt a.1 b.1=true) (hn:BV l s=false) {p:bA} (h:p∈l.drop (eX l s)):blt s p.1=true:=by
 have h1:=aBK hp h;rcases ajJ p.1 s with h2|h2|h2
 ·rw[h1] at h2;cases h2
 ·have:BV l s=true:=(ajL hp).2 ⟨p,List.mem_of_mem_drop h,h2⟩;rw[hn] at this;cases this
 ·exact h2
theorem wA {l:List bA} {x:bA} (h:abE l x=0):kZ (yD l x):=by
 obtain⟨⟨g1,g2,g3⟩,h2,h3,h4⟩:=SO h;refine⟨by rw[abF];omega,fun p hp=> ?_, ?_⟩
 ·rcases acA.1 hp with rfl|hp
  ·exact h2
  ·exact g2 p hp
 ·unfold yD;rw[List.pairwise_append];refine⟨g3.sublist (List.take_sublist _ _),au.2 ⟨fun p hp=>ajV g3 h3 hp,g3.sublist (List.drop_sublist _ _)⟩,fun a ha b hb=> ?_⟩;have hax:=aBJ g3 ha;rcases aw.1 hb with rfl|hb
  ·exact hax
  ·exact vU hax (ajV g3 h3 hb)
theorem TL {l:List bA} (hp:l.Pairwise fun a b=>blt a.1 b.1=true) {p q:bA} (h1:p∈l) (h2:q∈l) (h:p.1=q.1):p=q:=by
 induction l with
 |nil=>cases h1
 |cons x l ih=>
  have h3:=au.1 hp;rcases aw.1 h1 with rfl|h1
  ·rcases aw.1 h2 with rfl|h2
   ·rfl
   ·exact absurd h (avG (h3.1 q h2))
  ·rcases aw.1 h2 with e|h2
   ·rw[e] at h ⊢;exact absurd h.symm (avG (h3.1 p h1))
   ·exact ih h3.2 h1 h2
theorem agE {l:List bA} {s:List UInt8} (h:BV l s=true): ∃ p,l[eX l s]? =some p∧p.1=s:=by
 unfold BV at h;cases hq:l[eX l s]? with
 |none=>rw[hq] at h;cases h
 |some p=>rw[hq] at h;exact⟨p,rfl,by simpa using h⟩
theorem apA {l:List bA} {p:bA} (hg:kZ l) (hs:iN p.1) (hm:p∈l):dY l p.1=0∧iY l p.1=p.2:=by
 have hi:BV l p.1=true:=(ajL hg.2.2).2 ⟨p,hm,rfl⟩;have e:dY l p.1=0:=by unfold dY;rw[if_neg (by simpa using (cW l).2 hg),if_neg (by simpa using hs),hi,if_pos rfl]
 refine⟨e, ?_⟩;obtain⟨q,hq,hq1⟩:=agE hi;unfold iY;rw[if_pos e,hq];rw[TL hg.2.2 (jm hq) hm hq1]
end Go.Proofs.YtbjalbcdbgcgdaaGreat.dir
