/- Law HandStale: its texts, packed. -/
import Derived.Test.YtbjalbcdbgcgdaaGreatK38
import Derived.Test.YtbjalbcdbgcgdaaGreatK07
import Derived.Test.YtbjalbcdbgcgdaaGreatK36
import Derived.Test.YtbjalbcdbgcgdaaGreatK10
import Derived.Test.YtbjalbcdbgcgdaaGreatK09
import Derived.Test.YtbjalbcdbgcgdaaGreatK30
import Derived.Test.YtbjalbcdbgcgdaaGreatK35
open List renaming append_assoc->ep,append_cons->po,append_nil->jc,cons.injEq->p9,drop_length->o8,flatMap_cons->kv,flatten_cons->p6,getElem?_append_left->j9,getElem?_append_right->j7,getElem?_cons_succ->pk,getElem?_eq_getElem->aj,getElem?_eq_none->dz,getElem?_eq_some_iff->ah,getElem?_set_ne->pq,getElem?_set_self'->p7,length_append->ag,length_cons->fb,length_map->jj,length_range->kx,length_set->n8,map_cons->eh,mem_cons->aw,mem_cons_of_mem->ax,mem_cons_self->bc,mem_map->fu,nodup_cons->p8,replicate->eb,take_succ_cons->im
open Nat renaming le_refl->aq,lt_or_ge->iq,mod_eq_of_lt->gy,zero_le->fg
open Int renaming toNat_natCast->fq
open UInt8 renaming ofNat->gl,toNat_ofNat'->oh
set_option linter.unusedVariables false
set_option maxRecDepth 100000
set_option maxHeartbeats 8000000
namespace Go.Proofs.YtbjalbcdbgcgdaaGreat.fs
open Go.RowKit bG sl aX use dO fV dE
attribute [local irreducible] box own sl gH aH bC Qt cJ cG dC dG eO
def awH (b:Nat) (d:FD) (s t f o:Value) (vB:Value) (N:Nat) (B:List bD) (m:qC) (v:Value) (H':List Ent):Prop:=
 ∃ qa ca qg cg,v= .tuple #[.agg #[.slice qa m.1.length ca, .slice qg m.2.length cg], .int .i64 0]∧H'=[bE b d s t f o,own vB 175 4 N (flat xJ B),sl 2 (.slice qa m.1.length ca) (m.1.map jW),sl 1 (.slice qg m.2.length cg) (m.2.map fI)]
theorem afV:aQ []=[]:=rfl
theorem aoR (P:List (Int×Int)) (a:Nat):gP P a []=[]:=rfl
theorem aoS (P:List (Int×Int)) (a:Nat) (m:qC):gQ P a m []=m:=rfl
attribute [local irreducible] gC gP gQ aQ lT nM
theorem KU (b:Nat) (d:FD) (s t f o:Value) (q0:Option Addr) (c0:Nat) (l:List lS) (qB:Option Addr) (cB N:Nat) (hN:(aQ l).length=N) (hN6:N≤1000000) (qP:Option Addr) (cP:Nat) (P:List (Int×Int)) (hP:P.length≤1000000) (hl:l.length≤1000) (hm:dP d.at' d.aE) (h:oW P 0 (d.at',d.aE) l):
  Ct Tryz.prog 202 [aH b 0, .slice q0 l.length c0, .slice qB N cB, .slice qP P.length cP] (bE b d s t f o::own (.slice qB N cB) 175 4 N (flat xJ (aQ l))::sl 2 (.slice qP P.length cP) (P.map jW)::sl 7 (.slice q0 l.length c0) (l.map BJ)::many 4 (l.map PW)::bB d) (awH b d s t f o (.slice qB N cB) N (gP P 0 l) (gQ P 0 (d.at',d.aE) l)):=by
 obtain⟨a,ca,cs,w,cw,wl,m,cm,at1,qg,cg,aE⟩:=d;unfold awH bE bB;dsimp only at hm h ⊢;have h00:gP P 0 (l.drop 0)=gP P 0 l:=rfl;have h01:gQ P 0 (at1,aE) (l.drop 0)=gQ P 0 (at1,aE) l:=rfl;have h02:oW P 0 (at1,aE) (l.drop 0):=h;have h03:([]++aQ (l.drop 0)).length=N:=hN;generalize hRB:gP P 0 l=RB at*;generalize hRM:gQ P 0 (at1,aE) l=RM at*;have h04:aQ l=[]++aQ (l.drop 0):=rfl;rw[h04];(refine Ye Tryz.func202 Tryz.ntmps202 ?_;intro Fr);(repeat' (first|refine Wa ?_|refine aF ?_|(refine Wb ?_;intro b)|fail));rename_i bs b8;(refine aC (σ:=Nat×List bD×qC×(Option Addr×Nat)×Option Addr×Nat) (fun x=>x.1≤l.length∧(dP x.2.2.1.1 x.2.2.1.2∧x.2.1.length≤N)∧x.2.1++gP P x.2.1.length (l.drop x.1)=RB∧gQ P x.2.1.length x.2.2.1 (l.drop x.1)=RM∧oW P x.2.1.length x.2.2.1 (l.drop x.1)∧(x.2.1++aQ (l.drop x.1)).length=N) (fun x=>[(23, .int .i64 (x.1:Int)),(11, .int .i64 0),(12, .int .i64 (x.2.1.length:Int))]) (fun x=>[own (.slice qB N cB) 175 4 N (flat xJ (x.2.1++aQ (l.drop x.1))),box b [.slice x.2.2.2.1.1 x.2.2.1.1.length x.2.2.2.1.2, .slice x.2.2.2.2.1 x.2.2.1.2.length x.2.2.2.2.2] 73,sl 2 (.slice x.2.2.2.1.1 x.2.2.1.1.length x.2.2.2.1.2) (x.2.2.1.1.map jW),sl 1 (.slice x.2.2.2.2.1 x.2.2.1.2.length x.2.2.2.2.2) (x.2.2.1.2.map fI)]) _ (fun x=>l.length-x.1) ((0,[],(at1,aE),(m,cm),qg,cg)) (by exact⟨fg _,⟨hm,fg _⟩,h00,h01,h02,h03⟩) (by exact gA) Zb (fun⟨i,D,⟨at2,gen2⟩,⟨q2,c2⟩,q3,c3⟩ ⟨hi,⟨hg2,hDN⟩,hB,hM,hF,hlen⟩=> ?_);refine Da ?_);dsimp only at hi hg2 hDN hB hM hF hlen ⊢;rcases iq i l.length with hlt|hge
 ·obtain⟨⟨ino,k,g,z,nq,nl,nc,ps,qp,cp,gone⟩,hx⟩: ∃ x,l[i]? =some x:=⟨_,aj hlt⟩;have hmem:=List.mem_of_getElem? hx;obtain⟨n1,n2,n3,n4⟩:=aoP (P:=P) (a:=D.length) (m:=(at2,gen2)) hx;rw[n1, ←ep] at hB;rw[n2] at hM;obtain⟨hs,hF2⟩:=n3 hF;have hgs:=TA hg2 hs;rw[n4] at hlen ⊢;have hcl:=EE P D.length ⟨ino,k,g,z,nq,nl,nc,ps,qp,cp,gone⟩;obtain⟨n,hn,hn48,hgo,hno⟩:=hs;dsimp only at hn hgo hno;subst hn;clear n1 n2 n3 n4 hF h00 h01 h02 h03 h04;rw[←hcl, ←ag] at hM hF2 hB;cases gone with
  |true=>
   obtain⟨p0,g0,hp0,hg0,hp1,hg1⟩:=hgo rfl;clear hgo hno;have CU:=fun qa ca qg cg=>VR qa qg ca cg (IY hg2) hg2 hn48 hp0 hg0 hp1 hg1
   have es:fQ P D.length (at2,gen2) ⟨(n:Int),k,g,z,nq,nl,nc,ps,qp,cp,true⟩=(at2.set n (0,0),gen2.set n (g0+1)):=by unfold fQ;rw[if_pos rfl,fq,hg0];rfl
   have ex:rG P D.length ⟨(n:Int),k,g,z,nq,nl,nc,ps,qp,cp,true⟩=[(3,(n:Int),0,[])]:=rfl;have ec:iZ ⟨(n:Int),k,g,z,nq,nl,nc,ps,qp,cp,true⟩=[(3,(n:Int),0,[])]:=rfl;rw[es] at hM hF2 hgs;rw[ex] at hM hF2 hB;rw[ec, ←ep] at hlen ⊢;clear es ex ec hcl;(repeat' (first|refine Wa ?_|refine We ?_|(refine Wb ?_;intro b)|fail));dsimp only[BJ]
   skip
   (refine Ca (CU _ _ _ _) ?_;rintro _ _ ⟨_,⟨q4,c4,q5,c5,rfl,rfl⟩,rfl⟩;refine Da ?_);have hl1:(at2.set n (0,0)).length=48:=hgs.1;refine aS (bI (v:= .slice q4 (at2.set n (0,0)).length c4) (e:=77) (m:=(at2.set n (0,0)).length) (f:=jW) (ys:=at2.set n (0,0)) aN (fun _=>rfl) rfl) ?_;refine aS (bI (v:= .slice q5 (gen2.set n (g0+1)).length c5) (e:=3) (m:=(gen2.set n (g0+1)).length) (f:=fI) (ys:=gen2.set n (g0+1)) aN (fun _=>rfl) rfl) ?_;refine aZ ?_;have hlD:(D++[((3:Int),(n:Int),(0:Int),([]:List UInt8))]).length=D.length+1:=by rw[ag];rfl
   have hlE:=hlen;rw[ag] at hlE;rw[show ((D.length:Int)+1)=(((D++[((3:Int),(n:Int),(0:Int),([]:List UInt8))]).length:Nat):Int) from by rw[hlD];rfl];refine Ee ((i+1,D++[(3,(n:Int),0,[])],(at2.set n (0,0),gen2.set n (g0+1)),(q4,c4),q5,c5)) ?_ ?_
   ·exact⟨hlt,⟨hgs,by dsimp only;omega⟩,hB,hM,hF2,hlen⟩
   ·dsimp only;omega
  |false=>
   obtain⟨hk,hg,hz,hpl,hap,hok,hck,p,hp,hpo,hp1⟩:=hno rfl;clear hgo hno;have SE:=fun qa ca qg cg=>aFA qa qg ca cg (k:=n) (p:=p) (IY hg2) hg2 hn48 hpo hp1
   have es:fQ P D.length (at2,gen2) ⟨(n:Int),k,g,z,nq,nl,nc,ps,qp,cp,false⟩=(at2.set n p,gen2):=by unfold fQ;rw[if_neg (by simp),fq,hp];rfl
   have ex:rG P D.length ⟨(n:Int),k,g,z,nq,nl,nc,ps,qp,cp,false⟩=bY (n:Int) ps 0++[(2,(n:Int),0,gC k g z (lT P D.length ps))]:=rfl;have ec:iZ ⟨(n:Int),k,g,z,nq,nl,nc,ps,qp,cp,false⟩=bY (n:Int) ps 0++[(2,(n:Int),0,eb (7+2*ps.length) 0)]:=rfl;rw[es] at hM hF2 hgs;rw[ex] at hM hF2 hB;rw[ec] at hlen ⊢;have hX:=jT (n:Int) ps 0;have hppl:=mY P ps D.length;have WR:=fun q c=>uN k g z q c (lT P D.length ps) hk hg hz (by rw[mY];exact hpl) hok hck
   have hp00:[]++lT P D.length (ps.drop 0)=lT P D.length ps:=rfl;have hf00:D.length+nM (ps.drop 0)=D.length+nM ps:=rfl;clear es ex ec hcl hk hg hz hok hck;generalize lT P D.length ps=pp at*;generalize bY (n:Int) ps 0=X at*;generalize gC k g z pp=T at*;generalize eb (7+2*ps.length) (0:UInt8)=Z0 at*;generalize hL2:aQ (l.drop (i+1))=L2 at*;have hB0:(D++(X++[((2:Int),(n:Int),(0:Int),Z0)]++L2))[D.length+nM ps]? =some (2,(n:Int),0,Z0):=by
    rw[j7 (by omega),j9 (by simp;omega),j7 (by omega)];rw[show D.length+nM ps-D.length-X.length=0 from by omega];rfl
   have hB1:(D++(X++[((2:Int),(n:Int),(0:Int),Z0)]++L2)).set (D.length+nM ps) (2,(n:Int),0,T)=D++(X++[((2:Int),(n:Int),(0:Int),T)])++L2:=by
    rw[←hX, ←ep];exact awF
   have hNN:D.length+nM ps<N:=by have:=(ah.1 hB0).1;omega
   generalize D++(X++[((2:Int),(n:Int),(0:Int),Z0)]++L2)=B1 at*;(repeat' (first|refine Wa ?_|refine We ?_|(refine Wb ?_;intro b)|fail));dsimp only[BJ]
   skip
   refine aT (zR (l:=l.map PW) (v:= .slice qp ps.length cp) (rows:=ps.map jD) aN (List.mem_map_of_mem (f:=PW) hmem)) ?_;refine aT (aY _ 77 2) ?_;(refine aC (σ:=Nat×Nat×List (Int×Int)×Option Addr×Nat) (fun x=>x.1≤ps.length∧x.2.2.1.length=x.1∧x.2.2.1++lT P x.2.1 (ps.drop x.1)=pp∧x.2.1+nM (ps.drop x.1)=D.length+nM ps) (fun x=>[(47, .int .i64 (x.1:Int)),(12, .int .i64 (x.2.1:Int))]) (fun x=>[own (.slice x.2.2.2.1 x.2.2.1.length x.2.2.2.2) 77 2 x.2.2.1.length (flat jW x.2.2.1),box b [.int .i64 (n:Int), .int .i64 k, .int .i64 g, .int .i64 z, .slice x.2.2.2.1 x.2.2.1.length x.2.2.2.2, .slice qp ps.length cp, .bool false] 237]) _ (fun x=>ps.length-x.1) ((0,D.length,[],none,0)) (by exact⟨fg _,rfl,hp00,hf00⟩) (by exact gA) Zb (fun⟨j,a',o,q4,c4⟩ ⟨hj,hoj,xB,haf⟩=> ?_);refine Da ?_);dsimp only at hj hoj xB haf ⊢;rcases iq j ps.length with hltj|hgej
   ·obtain⟨⟨⟨p1,p2⟩,text,fresh⟩,hy⟩: ∃ y,ps[j]? =some y:=⟨_,aj hltj⟩;rw[aoO hy] at xB;rw[awE hy] at haf;cases fresh with
    |true=>
     rw[if_pos rfl] at xB haf;obtain⟨pl,hpl2⟩: ∃ pl,P[a']? =some pl:=⟨_,aj (by omega)⟩;rw[hpl2,Option.getD_some,po] at xB;clear hp00 hf00 hB0 hB1;(repeat' (first|refine Wa ?_|refine We ?_|(refine Wb ?_;intro b)|(refine Wq ?_;intro q)|fail));dsimp only[jD]
     skip
     (refine aI wt (by rfl) (by first|exact Ma (jW) [pl] rfl|exact Mb (jW) [pl] rfl) ?_;rintro _ _ ⟨q5,c5,rfl,rfl⟩);refine eU ?_;refine Ee ((j+1,a'+1,o++[pl],q5,c5)) ?_ ?_
     ·exact⟨hltj,by rw[ag,hoj];rfl,xB,by dsimp only;omega⟩
     ·dsimp only;omega
    |false=>
     rw[if_neg (by simp)] at xB haf;dsimp only at xB;rw[po] at xB;clear hp00 hf00 hB0 hB1;(repeat' (first|refine Wa ?_|refine We ?_|(refine Wb ?_;intro b)|(refine Wq ?_;intro q)|fail));dsimp only[jD]
     skip
     (refine aI wt (by rfl) (by first|exact Ma (jW) [(p1,p2)] rfl|exact Mb (jW) [(p1,p2)] rfl) ?_;rintro _ _ ⟨q5,c5,rfl,rfl⟩);refine eU ?_;refine Ee ((j+1,a',o++[(p1,p2)],q5,c5)) ?_ ?_
     ·exact⟨hltj,by rw[ag,hoj];rfl,xB,haf⟩
     ·dsimp only;omega
   ·obtain rfl:j=ps.length:=by omega
    rw[o8] at xB haf;have hop2:o=pp:=by rw[←xB];unfold lT;exact (jc _).symm
    have ha2:a'=D.length+nM ps:=by rw[←haf];unfold nM;rfl
    subst hop2 ha2;clear hp00 hf00 xB haf;(repeat' (first|refine Wa ?_|refine We ?_|refine Wc (WR ..) ?_|fail));(refine cM wt (aG (f:=xJ) (q':=((2:Int),(n:Int),(0:Int),T)) rfl rfl rfl rfl (by exact aN) rfl (by omega) (by intro _;rfl) (by assumption) rfl rfl (by rfl)) ?_;rintro _ _ ⟨rfl,rfl⟩);rw[hB1];refine dN ?_;(refine aB (Hq:=[_,_]) [2,9] [] rfl (by kernel_rfl) Za ?_);refine gX ?_;(refine Cc 7 (SE _ _ _ _) ?_;rintro _ _ ⟨_,⟨q6,c6,q7,c7,rfl,rfl⟩,rfl⟩;refine Te ?_;(try refine Da ?_));(repeat' (first|refine Wa ?_|(apply cod_seq_nd;(focus rfl))|refine Wk ?_|fail));refine aT (bI (v:= .slice q6 (at2.set n p).length c6) (e:=77) (m:=(at2.set n p).length) (f:=jW) (ys:=at2.set n p) aN (fun _=>rfl) rfl) ?_;refine aT (bI (v:= .slice q7 gen2.length c7) (e:=3) (m:=gen2.length) (f:=fI) (ys:=gen2) aN (fun _=>rfl) rfl) ?_;refine aZ ?_;have hlD:(D++(X++[((2:Int),(n:Int),(0:Int),T)])).length=D.length+nM ps+1:=by rw[ag,ag,hX];rfl
    rw[show (((D.length+nM ps:Nat):Int)+1)=(((D++(X++[((2:Int),(n:Int),(0:Int),T)])).length:Nat):Int) from by rw[hlD];rfl];subst hL2;refine Ee ((i+1,D++(X++[((2:Int),(n:Int),(0:Int),T)]),(at2.set n p,gen2),(q6,c6),q7,c7)) ?_ ?_
    ·exact⟨hlt,⟨hgs,by dsimp only;omega⟩,hB,hM,hF2,by dsimp only;rw[←hB1,n8];exact hlen⟩
    ·dsimp only;omega
 ·obtain rfl:i=l.length:=by omega
  rw[o8] at hB hM ⊢;rw[aoR,jc] at hB;rw[aoS] at hM;rw[afV,jc,hB];subst hM;refine aZ ?_;exact Ea (x:=⟨q2,c2,q3,c3,rfl,rfl⟩)
end Go.Proofs.YtbjalbcdbgcgdaaGreat.fs
namespace Go.Proofs.YtbjalbcdbgcgdaaGreat.fs
open Go.RowKit bG sl aX use dO fV dE
def NV (n:Int) (g:List bD) (last:Bool):ByteArray:=str (jX.dH 1 n (aR g last))
def afW (g:List bD):Prop:=g≠[]∧bK g=0
def gO:Int→List Int→List (List bD)→List (Int×ByteArray)
 |s,c::F,g::gs=>(c,NV (s+1) g gs.isEmpty)::gO (s+1) F gs
 |_,_,_=>[]
def dW:List Int→List (List bD)→List (Int×Int)
 |c::F,g::gs=>(List.range g.length).map (fun (k:Nat)=>(c,(k:Int)))++dW F gs
 |_,_=>[]
theorem uR: ∀ (gs:List (List bD)) (F:List Int) (s:Int),gs.length≤F.length→(gO s F gs).length=gs.length
 |[],F,s,_=>by cases F<;>rfl
 |g::gs,[],s,h=>by simp at h
 |g::gs,c::F,s,h=>by
  rw[gO,fb,uR gs F (s+1) (by simpa using h)];rfl
theorem BK: ∀ (gs:List (List bD)) (F:List Int),gs.length≤F.length→(dW F gs).length=gs.flatten.length
 |[],F,_=>by cases F<;>rfl
 |g::gs,[],h=>by simp at h
 |g::gs,c::F,h=>by
  rw[dW,ag,jj,kx,BK gs F (by simpa using h),p6,ag]
theorem WD: ∀ (gs:List (List bD)) (F:List Int) (s:Int) (p:Int×ByteArray),p∈gO s F gs→p.1∈F.take gs.length
 |[],F,s,p,h=>by cases F<;>simp [gO] at h
 |g::gs,[],s,p,h=>by simp [gO] at h
 |g::gs,c::F,s,p,h=>by
  rw[gO,aw] at h;rw[fb,im,aw];rcases h with h|h
  ·exact .inl (by rw[h])
  ·exact .inr (WD gs F (s+1) p h)
theorem GF {cs:Cells} {c:Int}: ∀ (gs:List (List bD)) (F:List Int) (s:Int) (ps:dK),c∉F.take gs.length→oH cs (ps++gO s F gs) c=oH cs ps c
 |[],F,s,ps,_=>by cases F<;>simp [gO]
 |g::gs,[],s,ps,_=>by simp [gO]
 |g::gs,d::F,s,ps,h=>by
  rw[fb,im,aw] at h;rw[gO,po,GF gs F (s+1) _ (fun e=>h (.inr e)),VZ,if_neg fun e=>h (.inl e.symm)]
theorem aoT {cs:Cells} {ps:dK} {k:Nat} {n:Int} {g:List bD} {last:Bool} (h:oH cs ps k=NV n g last) (hn:0≤n∧n≤2147483647) (hg:bK g=0):pV cs ps k=some (n,g,last):=by
 obtain⟨r1,r2,r3⟩:=jH last hg;obtain⟨o1,o2,o3,o4⟩:=jX.alE 1 n (aR g last) (jX.KG ⟨.inl rfl,hn.1,hn.2,r1⟩);have e:KL cs ps k=jX.dH 1 n (aR g last):=by unfold KL;rw[h];simp [NV,str]
 unfold pV;rw[e,if_pos ⟨o1,o2⟩,o4,r2,o3,r3];rfl
theorem afX {cs:Cells} {ps:dK} {c:Int} {k:Nat} {n:Int} {g:List bD} {last:Bool} {b:bD} (h:oH cs ps c=NV n g last) (hn:0≤n∧n≤2147483647) (hg:bK g=0) (h2:2≤c∧c<(cs.length:Int)) (hb:g[k]? =some b):bS cs ps (c,(k:Int))=(b,0):=by
 obtain⟨m,rfl⟩: ∃ m:Nat,c=(m:Int):=⟨c.toNat,by omega⟩;have hk:=(ah.1 hb).1;unfold bS;rw[if_neg Zj,fq,aoT h hn hg];dsimp only;rw[if_neg (by omega),fq,List.getD_eq_getElem?_getD,hb];rfl
theorem NY {cs cs':Cells} {ps ps':dK} {p:Int×Int} (hl:cs.length=cs'.length) (h:oH cs ps p.1.toNat=oH cs' ps' p.1.toNat):bS cs ps p=bS cs' ps' p:=by
 have hL:pV cs ps p.1.toNat=pV cs' ps' p.1.toNat:=by unfold pV KL;rw[h]
 unfold bS;rw[hl,hL]
theorem sN {cs:Cells} {ps:dK} {gs:List (List bD)} {F:List Int} {s:Int} {p:Int×Int} (h:p.1∉F.take gs.length):bS cs (ps++gO s F gs) p=bS cs ps p:=by
 by_cases h0:p.1<2
 ·unfold bS;rw[if_pos (.inl h0),if_pos (.inl h0)]
 ·refine NY rfl ?_;rw[show ((p.1.toNat:Nat):Int)=p.1 from by omega];exact GF gs F s ps h
theorem GG {cs:Cells}: ∀ (gs:List (List bD)) (F:List Int) (s:Int) (ps:dK),gs.length≤F.length→F.Nodup→(∀ c∈F,2≤c∧c<(cs.length:Int))→(∀ g∈gs,bK g=0)→0≤s→s+gs.length≤2147483647→ ∀ (j:Nat) (p:Int×Int),(dW F gs)[j]? =some p→ ∃ b,gs.flatten[j]? =some b∧bS cs (ps++gO s F gs) p=(b,0)∧p.1∈F.take gs.length∧0≤p.2∧p.2<40
 |[],F,s,ps,_,_,_,_,_,_,j,p,hj=>by cases F<;>simp [dW] at hj
 |g::gs,[],s,ps,h,_,_,_,_,_,j,p,hj=>by simp at h
 |g::gs,c::F,s,ps,hl,hd,hc,hg,hs,hs2,j,p,hj=>by
  obtain⟨hd1,hd2⟩:=p8.1 hd;have hg0:=hg g bc;obtain⟨hg40,_,_⟩:=mS hg0;have hl':gs.length≤F.length:=by simpa using hl
  have hs2':s+1+gs.length≤2147483647:=by simp only[fb] at hs2;omega
  rw[dW] at hj;rw[p6,gO,po,fb,im];rcases iq j g.length with hlt|hge
  ·rw[j9 (by simpa using hlt),List.getElem?_map,List.getElem?_range hlt] at hj;cases hj;obtain⟨b,hb⟩: ∃ b,g[j]? =some b:=⟨_,aj hlt⟩;refine⟨b,by rw[j9 hlt];exact hb, ?_,bc,by dsimp only;omega,by dsimp only;omega⟩;rw[sN (fun e=>hd1 (List.mem_of_mem_take e))];exact afX (by rw[VZ,if_pos rfl]) (by omega) hg0 (hc c bc) hb
  ·rw[j7 (by simpa using hge),jj,kx] at hj;obtain⟨b,h1,h2,h3,h4⟩:=GG gs F (s+1) (ps++[(c,NV (s+1) g gs.isEmpty)]) hl' hd2 (fun x hx=>hc x (ax _ hx)) (fun x hx=>hg x (ax _ hx)) (by omega) hs2' _ p hj;exact⟨b,by rw[j7 hge];exact h1,h2,ax _ h3,h4⟩
theorem NZ: ∀ (l l':List bD) (n sz:Nat) (out:List Int),l.map (fun p=>p.2.2.2.length)=l'.map (fun p=>p.2.2.2.length)→grF l n sz out=grF l' n sz out
 |[],[],n,sz,out,_=>rfl
 |[],_::_,n,sz,out,h=>by simp at h
 |_::_,[],n,sz,out,h=>by simp at h
 |p::l,p'::l',n,sz,out,h=>by
  simp only[eh,p9] at h;have e:(iT p).length=(iT p').length:=by unfold iT;simp only[ag,fb,List.length_nil,h.1]
  rw[grF,grF,e];split
  ·exact NZ l l' _ _ _ h.2
  ·exact NZ l l' _ _ _ h.2
theorem yI: ∀ (l:List bD) (cur:List bD) (out:List Int),(∀ p∈cur++l,dA p=0)→cur.length≤40→2+(bJ cur).length≤1000→ ∃ gs:List (List bD),gs.flatten=cur++l∧grF l cur.length (2+(bJ cur).length) out=out++gs.map (fun g=>(g.length:Int))∧ ∀ g∈gs,afW g
 |[],cur,out,hb,h1,h2=>by
  rw[grF];cases cur with
  |nil=>exact⟨[],rfl,by rw[if_neg (by simp)];simp,by simp⟩
  |cons x t=>exact⟨[x::t],by simp,by rw[if_pos (by simp)];rfl,fun g hg=>by rw[List.mem_singleton] at hg;subst hg;exact⟨by simp,CY ⟨h1,by simpa using hb,h2⟩⟩⟩
 |p::l,cur,out,hb,h1,h2=>by
  have hp:=hb p (by simp);have hlen:=ajS (kL hp).2.2.2.2.2.2;rw[grF];split
  ·next hf=>
   have hne:cur≠[]:=by
    rintro rfl;rcases hf with hf|hf
    ·simp at hf
    ·simp [bJ] at hf;omega
   obtain ⟨gs, e1, e2, e3⟩ := yI l [p] (out ++ [(cur.length : Int)]) (fun q hq => hb q (by simp only [List.mem_append, aw, List.mem_nil_iff, or_false] at hq ⊢; exact .inr hq)) (by simp) (by simp [bJ]; omega);rw [show (bJ [p]) = iT p from by simp [bJ]] at e2;exact ⟨cur :: gs, by rw [p6, e1]; simp, by rw [show 1 = [p].length from rfl, e2]; simp, fun g hg => by
    rcases aw.1 hg with rfl|hg
    ·exact⟨hne,CY ⟨h1,fun q hq=>hb q (by simp [hq]),h2⟩⟩
    ·exact e3 g hg⟩
  ·next hf=>
   obtain⟨gs,e1,e2,e3⟩:=yI l (cur++[p]) out (fun q hq=>hb q (by simpa using hq)) (by simp;omega) (by rw[CW];simp [bJ] at hf ⊢;omega);rw[CW,show (bJ [p])=iT p from by simp [bJ],ag,ag,List.length_singleton, ←Nat.add_assoc] at e2;exact⟨gs,by rw[e1];simp,e2,e3⟩
theorem BM {l:List bD} (h: ∀ p∈l,dA p=0): ∃ gs:List (List bD),gs.flatten=l∧bN l=(gs.map (fun g=>(g.length:Int)),0)∧ ∀ g∈gs,afW g:=by
 obtain⟨gs,e1,e2,e3⟩:=yI l [] [] (by simpa using h) (by simp) (by simp [bJ]);refine⟨gs,by simpa using e1, ?_,e3⟩;unfold bN;rw[if_neg (by rw[jG.2 h];simp)];rw[show grF l 0 2 []=_ from e2];rfl
end Go.Proofs.YtbjalbcdbgcgdaaGreat.fs
namespace Go.Proofs.YtbjalbcdbgcgdaaGreat.fs
open Go.RowKit bG sl aX use dO fV dE fix PH
theorem afY (ps:List (Int×Int)):(qA ps).length=2*ps.length:=by
 induction ps with
 |nil=>rfl
 |cons p ps ih=>
  unfold qA at ih ⊢;rw[kv,ag,ih,fb];unfold abT;rw[ag,bQ,bQ];omega
theorem EG (k g z:Int):(dE.tZ k g z).length=7:=by
 unfold dE.tZ;rw[ag,ag,bQ,bQ,bQ]
theorem sO (k g z:Int) (ps:List (Int×Int)):(gC k g z ps).length=7+2*ps.length:=by
 unfold gC;rw[ag,EG,afY]
theorem TD: ∀ ps:List (Int×Int),(∀ p∈ps,fH p)→prs (qA ps)=ps
 |[],_=>rfl
 |p::ps,h=>by
  obtain⟨o1,o2,o3,o4,_,_⟩:=h p bc;have ih:=TD ps fun q hq=>h q (ax _ hq)
  unfold qA at ih ⊢;rw[kv];unfold abT;rw[pL _ (by omega),pL _ (by omega)];show (((gl p.1.toNat).toNat:Int),((gl p.2.toNat).toNat:Int))::prs (List.flatMap abT ps)=p::ps;rw[ih,oh,oh,gy (by omega),gy (by omega)];congr 1;apply Prod.ext
  ·dsimp only;omega
  ·dsimp only;omega
theorem abV: ∀ {ps:List (Int×Int)},(∀ p∈ps,fH p)→oI ps=true
 |[],_=>rfl
 |p::ps,h=>by rw[oI,if_pos (h p bc)];exact abV fun q hq=>h q (ax _ hq)
structure awI (k g:Int) (z:Nat) (ps:List (Int×Int)):Prop where
 kind:k=1∨k=2
 gen:0≤g∧g≤2147483647
 size:z≤4096
 len:ps.length=file.aJ z
 aGY: ∀ p∈ps,fH p
theorem GH {k g:Int} {z:Nat} {ps:List (Int×Int)} (h:awI k g z ps):jZ k g (z:Int) ps=0:=by
 obtain⟨h1,h2,h3,h4,h5⟩:=h;unfold file.aJ at h4;unfold jZ;rw[if_neg (by omega),if_neg (by omega),if_neg (by omega),if_pos (abV h5)]
theorem afZ {k g:Int} {z:Nat} {ps:List (Int×Int)} (h:awI k g z ps):kI (gC k g z ps)=k∧gI (gC k g z ps)=g∧zI (gC k g z ps)=(z:Int)∧pI (gC k g z ps)=ps∧pM (gC k g z ps):=by
 have hk:0≤k∧k≤2:=by have:=h.kind;omega
 have hg:=h.gen;have hz:=h.size;have e0:gC k g z ps=dM k.toNat 1++(dM g.toNat 4++(dM z 2++qA ps)):=by
  unfold gC dE.tZ;rw[fq];simp only[ep]
 have l1:=bQ k.toNat 1;have l4:=bQ g.toNat 4;have l2:=bQ z 2;have e1:kI (gC k g z ps)=k:=by
  unfold kI;rw[e0,pL _ (by omega),List.singleton_append,List.getD_cons_zero,oh,gy (by omega)];omega
 have e2:gI (gC k g z ps)=g:=by
  unfold gI;rw[e0,jX.zN _ _ _ 1 5 l1 (by omega),vI,gy (by omega)];omega
 have e3:zI (gC k g z ps)=(z:Int):=by
  unfold zI;rw[e0, ←ep,jX.zN _ _ _ 5 7 Zi (by omega),vI,gy (by omega)]
 have e4:pI (gC k g z ps)=ps:=by
  unfold pI gC;rw[List.drop_append_of_le_length (by rw[EG];exact aq _),List.drop_of_length_le (by rw[EG];exact aq _),List.nil_append,TD ps h.aGY]
 refine⟨e1,e2,e3,e4, ?_, ?_, ?_⟩
 ·rw[sO];omega
 ·rw[sO];omega
 ·rw[e1,e2,e3,e4];exact GH h
def szs (l:List bD):List Nat:=l.map fun p=>p.2.2.2.length
theorem IZ (a b:List bD):szs (a++b)=szs a++szs b:=List.map_append
theorem rI (P:List (Int×Int)): ∀ (l:List lS) (a:Nat),szs (gP P a l)=szs (aQ l)
 |[],_=>rfl
 |x::l,a=>by
  rw[gP,show aQ (x::l)=iZ x++aQ l from rfl,IZ,IZ,rI P l];congr 1;unfold rG iZ;split
  ·rfl
  ·rw[IZ,IZ];simp only[szs,eh,List.map_nil,sO,mY,List.length_replicate]
theorem wX {l:List lS} {F:List Int} (h0: ∀ b∈aQ l,dA b=0) (h1: ∀ P, ∀ b∈gP P 0 l,dA b=0): ∃ gs:List (List bD),bN (aQ l)=(gs.map (fun g=>(g.length:Int)),0)∧gs.flatten=gP (dW F gs) 0 l∧ ∀ g∈gs,afW g:=by
 obtain⟨g0,e1,e2,e3⟩:=BM h0;have hP: ∀ (gs hs:List (List bD)) (F:List Int),gs.map (fun g=>(g.length:Int))=hs.map (fun g=>(g.length:Int))→dW F gs=dW F hs:=by
  intro gs;induction gs with
  |nil=>intro hs F h;cases hs with
   |nil=>rfl
   |cons _ _=>simp at h
  |cons g gs ih=>intro hs F h;cases hs with
   |nil=>simp at h
   |cons k hs=>
    simp only[eh,p9] at h;cases F with
    |nil=>rfl
    |cons c F=>rw[dW,dW,ih hs F h.2,show g.length=k.length from by omega]
 obtain⟨gs,f1,f2,f3⟩:=BM (h1 (dW F g0));have hsp:bN (gP (dW F g0) 0 l)=bN (aQ l):=by
  unfold bN;rw[jG.2 h0,jG.2 (h1 _),NZ _ (aQ l) _ _ _ (rI _ l 0)]
 have hl:gs.map (fun g=>(g.length:Int))=g0.map (fun g=>(g.length:Int)):=by
  have:=f2.symm.trans (hsp.trans e2);exact congrArg Prod.fst this
 exact⟨gs,by rw[e2,hl],by rw[f1,hP gs g0 F hl],f3⟩
end Go.Proofs.YtbjalbcdbgcgdaaGreat.fs
namespace Go.Proofs.YtbjalbcdbgcgdaaGreat.fs
open Go.RowKit bG sl aX use dO fV dE fix file
def Live (d:FD) (c:Int):Prop:= ∃ n p g l,d.at'[n]? =some p∧d.aE[n]? =some g∧p.1≠0∧nR d.cs d.ps p g ((n:Nat):Int)=some l∧(p.1=c∨ ∃ q∈pI l,q.1=c)
structure Room (d:FD) (F:List Int):Prop where
 nodup:F.Nodup
 inn: ∀ c∈F,2≤c∧c<(d.cs.length:Int)
 dead: ∀ c∈F, ¬ Live d c
 wait:d.ps.length+F.length≤400
structure TE (d:FD) (x:lS) (n:Nat) (y:Nd):Prop where
 ino:x.ino=(n:Int)
 lt:n<48
 gen:d.aE[n]? =some x.g
 ek:x.k=y.kind
 eg:x.g=y.gen
 ez:x.z=(y.size:Int)
 kind:y.kind=1∨y.kind=2
 size:y.size≤4096
 len:x.parts.length=aJ y.size
 aFC:y.parts.length=aJ y.size
 parts: ∀ i p t,x.parts[i]? =some p→y.parts[i]? =some t→(p.fresh=true∧t.length=bZ y.size i∧kG.pY t p.text)∨(p.fresh=false∧NI d n y.size i p.pl t∧fH p.pl∧(p.pl.1=0∨Live d p.pl.1))
structure sP (d:FD) (tab:jQ) (l:List lS) (tab':jQ):Prop where
 one:(l.map (·.ino)).Nodup
 gone: ∀ x∈l,x.gone=true→ ∃ n y,x.ino=((n:Nat):Int)∧tab n=some y∧y.gen<2147483647∧tab' n=none
 new: ∀ x∈l,x.gone=false→ ∃ n y,TE d x n y∧tab' n=some y
 rest: ∀ n,(∀ x∈l,x.ino≠((n:Nat):Int))→tab' n=tab n
theorem JA {P:List (Int×Int)}: ∀ {t:List tD} {a i:Nat} {q:Int×Int},(lT P a t)[i]? =some q→ ∃ p,t[i]? =some p∧(p.fresh=true∧q=P[a+nM (t.take i)]?.getD (0,0)∨p.fresh=false∧q=p.pl)
 |[],a,i,q,h=>by simp [lT] at h
 |p::t,a,0,q,h=>by
  refine⟨p,rfl, ?_⟩;rw[lT] at h;cases hf:p.fresh with
  |true=>rw[if_pos hf] at h;exact .inl ⟨rfl,by simpa [nM] using h.symm⟩
  |false=>rw[if_neg (by simp [hf])] at h;exact .inr ⟨rfl,by simpa using h.symm⟩
 |p::t,a,i+1,q,h=>by
  rw[lT] at h;cases hf:p.fresh with
  |true=>
   rw[if_pos hf,pk] at h;obtain⟨p',h1,h2⟩:=JA h;refine⟨p',by simpa using h1, ?_⟩;rw[im,nM,if_pos hf,show a+(nM (t.take i)+1)=a+1+nM (t.take i) from by omega];exact h2
  |false=>
   rw[if_neg (by simp [hf]),pk] at h;obtain⟨p',h1,h2⟩:=JA h;refine⟨p',by simpa using h1, ?_⟩;rw[im,nM,if_neg (by simp [hf])];exact h2
theorem EH {n:Int}: ∀ {t:List tD} {i k:Nat} {p:tD},t[i]? =some p→p.fresh=true→(bY n t k)[nM (t.take i)]? =some (1,n,((k+i:Nat):Int),p.text)
 |[],i,k,p,h,_=>by simp at h
 |x::t,0,k,p,h,hf=>by
  cases h;rw[bY,if_pos hf];rfl
 |x::t,i+1,k,p,h,hf=>by
  have ih:=EH (n:=n) (k:=k+1) (show t[i]? =some p from by simpa using h) hf;rw[im,nM,bY];split
  ·rw[pk,ih,show k+1+i=k+(i+1) from by omega]
  ·rw[ih,show k+1+i=k+(i+1) from by omega]
theorem aFD {t:List tD} {i:Nat} {p:tD} (h:t[i]? =some p) (hf:p.fresh=true):nM (t.take i)<nM t:=by
 have:=EH (n:=0) (k:=0) h hf;have h2:=(ah.1 this).1;rwa [jT] at h2
structure AtB (P:List (Int×Int)) (a:Nat) (l:List lS) (m:qC) (x:lS) (a':Nat):Prop where
 fV: ∀ j b,(rG P a' x)[j]? =some b→ ∃ i,a+i=a'+j∧(gP P a l)[i]? =some b
 at':(gQ P a m l).1[x.ino.toNat]? =(fQ P a' m x).1[x.ino.toNat]?
 gen:(gQ P a m l).2[x.ino.toNat]? =(fQ P a' m x).2[x.ino.toNat]?
theorem EI {P:List (Int×Int)} {a:Nat} {m:qC} {x:lS} {n:Nat} (h:x.ino.toNat≠n):(fQ P a m x).1[n]? =m.1[n]? ∧(fQ P a m x).2[n]? =m.2[n]? :=by
 unfold fQ;split
 ·exact⟨pq h,pq h⟩
 ·exact⟨pq h,rfl⟩
theorem nY {P:List (Int×Int)} {n:Nat}: ∀ (l:List lS) (a:Nat) (m:qC),(∀ x∈l,x.ino.toNat≠n)→(gQ P a m l).1[n]? =m.1[n]? ∧(gQ P a m l).2[n]? =m.2[n]?
 |[],_,_,_=>⟨rfl,rfl⟩
 |x::l,a,m,h=>by
  obtain⟨h1,h2⟩:=nY l (a+(iZ x).length) (fQ P a m x) fun y hy=>h y (ax _ hy)
  obtain⟨h3,h4⟩:=EI (P:=P) (a:=a) (m:=m) (h x bc);exact⟨h1.trans h3,h2.trans h4⟩
theorem OC {α:Type} {l m:List α} {n:Nat} {x:α} (hl:l.length=m.length):(l.set n x)[n]? =(m.set n x)[n]? :=by
 rw[p7,p7];rcases iq n l.length with h|h
 ·rw[aj h,aj (by omega)];rfl
 ·rw[dz h,dz (by omega)]
theorem aoU (P:List (Int×Int)) (a:Nat) (m:qC) (x:lS):(fQ P a m x).1.length=m.1.length∧(fQ P a m x).2.length=m.2.length:=by
 unfold fQ;split
 ·exact⟨n8,n8⟩
 ·exact⟨n8,rfl⟩
theorem agA {P:List (Int×Int)} {a:Nat} {m m':qC} {x:lS} (h1:m.1.length=m'.1.length) (h2:m.2.length=m'.2.length) (h3:m.2[x.ino.toNat]? =m'.2[x.ino.toNat]?):(fQ P a m x).1[x.ino.toNat]? =(fQ P a m' x).1[x.ino.toNat]? ∧(fQ P a m x).2[x.ino.toNat]? =(fQ P a m' x).2[x.ino.toNat]? :=by
 unfold fQ;rw[h3];split
 ·exact⟨OC h1,OC h2⟩
 ·exact⟨OC h1,h3⟩
theorem WE {P:List (Int×Int)} {x:lS}: ∀ (l:List lS) (a:Nat) (m:qC),(∀ y∈l,0≤y.ino)→(l.map (·.ino)).Nodup→x∈l→ ∃ a',AtB P a l m x a'
 |[],_,_,_,_,h=>absurd h List.not_mem_nil
 |y::l,a,m,h0,hd,h=>by
  rw[eh,p8] at hd;by_cases he:x=y
  ·subst he;refine⟨a,fun j b hb=>⟨j,rfl, ?_⟩, ?_, ?_⟩
   ·rw[gP,j9 (ah.1 hb).1];exact hb
   ·exact (nY l _ _ fun z hz e=>hd.1 (fu.2 ⟨z,hz,by have:=h0 z (ax _ hz);have:=h0 x bc;omega⟩)).1
   ·exact (nY l _ _ fun z hz e=>hd.1 (fu.2 ⟨z,hz,by have:=h0 z (ax _ hz);have:=h0 x bc;omega⟩)).2
  ·have hx:x∈l:=by rcases aw.1 h with h|h;exact absurd h he;exact h
   have hne:y.ino.toNat≠x.ino.toNat:=fun e=>hd.1 (fu.2 ⟨x,hx,by have:=h0 x h;have:=h0 y bc;omega⟩)
   obtain⟨a',h1,h2,h3⟩:=WE l (a+(iZ y).length) (fQ P a m y) (fun z hz=>h0 z (ax _ hz)) hd.2 hx;obtain⟨s1,s2⟩:=aoU P a m y;obtain⟨o1,o2⟩:=EI (P:=P) (a:=a) (m:=m) hne;obtain⟨t1,t2⟩:=agA (P:=P) (a:=a') (x:=x) s1 s2 o2;refine⟨a',fun j b hb=> ?_, ?_, ?_⟩
   ·obtain⟨i,hi,hb2⟩:=h1 j b hb;refine⟨(iZ y).length+i,by omega, ?_⟩;rw[gP,j7 (by rw[EE];omega),EE,show (iZ y).length+i-(iZ y).length=i from by omega];exact hb2
   ·exact h2.trans t1
   ·exact h3.trans t2
theorem aoV {P:List (Int×Int)} {a:Nat} {x:lS} (h:x.gone=false):(rG P a x)[nM x.parts]? =some (2,x.ino,0,gC x.k x.g x.z (lT P a x.parts)):=by
 unfold rG;rw[if_neg (by simp [h]),j7 (by rw[jT];exact aq _),jT,Nat.sub_self];rfl
theorem agB {P:List (Int×Int)} {a i:Nat} {x:lS} {p:tD} (h:x.gone=false) (hp:x.parts[i]? =some p) (hf:p.fresh=true):(rG P a x)[nM (x.parts.take i)]? =some (1,x.ino,(i:Int),p.text):=by
 unfold rG;have:=EH (n:=x.ino) (k:=0) hp hf;rw[Nat.zero_add] at this;rw[if_neg (by simp [h]),j9 (ah.1 this).1];exact this
end Go.Proofs.YtbjalbcdbgcgdaaGreat.fs
