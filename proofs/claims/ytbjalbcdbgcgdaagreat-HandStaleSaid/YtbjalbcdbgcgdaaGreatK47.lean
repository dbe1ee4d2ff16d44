/- Law HandStale: its texts, packed. -/
import Derived.Test.YtbjalbcdbgcgdaaGreatK44
import Derived.Test.YtbjalbcdbgcgdaaGreatK46
import Derived.Test.YtbjalbcdbgcgdaaGreatK07
import Derived.Test.YtbjalbcdbgcgdaaGreatK45
import Derived.Laws.Pointers
import Derived.Test.YtbjalbcdbgcgdaaGreatK27
open List renaming Sublist.cons->rh,Sublist.refl->qt,cons_append->jg,getElem?_eq_getElem->aj,mem_singleton->fk,nil_append->fe,perm_middle->ko,sublist_append_right->fy,take_zero->n9
open Int renaming toNat_natCast->fq
open Decidable renaming not_not->ir
open ByteArray renaming empty->qu
set_option linter.unusedVariables false
set_option maxRecDepth 100000
set_option maxHeartbeats 8000000
namespace Go.Proofs.YtbjalbcdbgcgdaaGreat.fs
open Go.RowKit bG sl aX use dO fV dE file dir yQ
attribute [local irreducible] box own sl gH aH bC Qt cJ cG dC dG eO
theorem aBS (b:Nat) (x:tG) {tab:jQ} (hI:Inv x tab) (hO:aBO tab) (s:List UInt8) (hs:s.length≤1000000000000000) {L:List (List UInt8)} (h:CA.bN s=(L,0)) {nm:List UInt8} {k:Nat} (hk:L.length=k+1) (hnm:L[k]? =some nm) {rn:Nat} {y:Nd} (hw:dR tab 0 (L.take k)=(0,rn)) (hy:tab rn=some y) (hk2:y.kind=2) (hf:dY y.cC nm=0) {ino:Nat} (hino:ino=(iY y.cC nm).toNat) (hwL:dR tab 0 L=(0,ino)) {z:Nd} (hz:tab ino=some z) (hzk:z.kind=1) (hgen:z.gen<2147483647) (s2:ByteArray) (at' N:Int) (text:List UInt8):
  Ct Tryz.prog 15 [aH b 0,tF 6 s s2 at' N text] (fU b x) (apC b (bT x) (jP tab rn y nm ino) ((bT x).d.aE.set ino ((bT x).d.aE[ino]?.getD 0+1)) 3 4):=by
 have S0:=rL hs h;obtain⟨hgood,hl8⟩:=mK h;have FA:=JE;have W0:=fun qL cL=>uP b (bT x).d (.int .i64 (bT x).vZ) (.int .i64 (bT x).turn) (.slice (bT x).qf (bT x).fr.length (bT x).cf) (.slice (bT x).qo (bT x).ops.length (bT x).co) tab hI.BZ hI.shut qL cL L (by omega) (fun s hs=>by have:=(hgood s hs).2.2.2.1;omega)
 rw[hwL] at W0;have GA:=fun qL cL=>axM b (bT x) (wC hI) hO (Nat.zero_le _) qL cL L (by omega) hgood hk hnm hw hy hk2 hf hino hz hgen (fun e=>by omega)
 have YES: ∀ (e:Int) H',tA b (bT x) (jP tab rn y nm ino) ((bT x).d.aE.set ino ((bT x).d.aE[ino]?.getD 0+1)) 3 4 (.int .i64 e) H'→apC b (bT x) (jP tab rn y nm ino) ((bT x).d.aE.set ino ((bT x).d.aE[ino]?.getD 0+1)) 3 4 (kQ e) H':=fun e H' h=>⟨e,rfl,h⟩
 have hint:=fun v H'=>wB (b:=b) (x:=bT x) (tab':=jP tab rn y nm ino) (G:=((bT x).d.aE.set ino ((bT x).d.aE[ino]?.getD 0+1))) (N:=3) (keep:=4) (v:=v) (H':=H')
 refine lX (R:=apC b (bT x) (jP tab rn y nm ino) ((bT x).d.aE.set ino ((bT x).d.aE[ino]?.getD 0+1)) 3 4) ?_ fun _ _ h=>h
 generalize apC b (bT x) (jP tab rn y nm ino) ((bT x).d.aE.set ino ((bT x).d.aE[ino]?.getD 0+1)) 3 4=RR at*;generalize tA b (bT x) (jP tab rn y nm ino) ((bT x).d.aE.set ino ((bT x).d.aE[ino]?.getD 0+1)) 3 4=CR at*;unfold kQ at FA YES;unfold wV at W0;unfold bT at GA W0;unfold tF;clear hw hy hk2 hf hino hgen;obtain⟨d,s0,tn,qf,cf,F,qo,co,Lo⟩:=x;obtain⟨a,ca,cs,w,cw,wl,m,cm,at1,qg,cg,aE⟩:=d;unfold fU bE bB at*;dsimp only[jg,fe] at*;(refine Ye Tryz.func15 Tryz.ntmps15 ?_;intro Fr);(repeat' (first|refine Wa ?_|refine aF ?_|(refine Wb ?_;intro b)|fail));refine aS (aY _ 87 3) ?_;(refine Ca (S0) ?_;rintro _ _ ⟨_,⟨q1,c1,rfl,rfl⟩,rfl⟩;refine Da ?_);refine dN ?_;(refine Ca (W0 _ _) ?_;rintro _ _ ⟨_,hr,rfl⟩;(try refine Da ?_));rcases hr with⟨h0,rfl,rfl⟩|⟨y',l,q,c,⟨_,hy',hly⟩,rfl,rfl⟩
 ·exact absurd rfl h0
 ·rw[hz] at hy';cases hy';have hk1:kI l=1:=by rw[hly.kind];exact hzk
  rw[hk1];refine Da ?_;(repeat' (first|refine Wa ?_|refine aF ?_|(refine Wb ?_;intro b)|fail));refine aS (bI (v:= .slice q1 L.length c1) (e:=9) (m:=L.length) (f:=fT) (ys:=L) aN (fun _=>rfl) rfl) ?_;refine Cb (GA _ _) ?_;rintro _ _ ⟨_,hm,rfl⟩;obtain⟨e2,rfl⟩:=hint _ _ hm;refine aS (bO List.perm_append_comm) ?_;refine Da ?_;(repeat' (first|refine Wa ?_|refine Wc (FA ..) ?_|fail));exact Ec (x:=YES e2 _ hm)
end Go.Proofs.YtbjalbcdbgcgdaaGreat.fs
namespace Go.Proofs.YtbjalbcdbgcgdaaGreat.hand
open Go.RowKit bG sl aX dE dO use file dir yQ fs
theorem axN {x:List UInt8} (h:iN x):47∉x:=by
 have:=h.2.2.2.2;unfold NF at this;intro hx;simp at this;exact this.1 hx
theorem apZ {nm:List UInt8} (h:iN nm):CA.bN ([]++[47]++nm)=([nm],0):=by
 have h47:=axN h;have hl:=h.2.2.2.1;have hn:CA.GJ ([]++[47]++nm)=[nm]:=by
  have:=CA.ajX (a:=[]) nm List.not_mem_nil;rw[if_pos rfl,CA.TR h47,if_neg h.1] at this;simpa using this
 unfold CA.bN;rw[if_neg (by simp;omega)];split
 ·rw[hn,CA.BQ,if_neg h.2.1,if_neg h.2.2.1,if_neg (by simp [h])];rfl
 ·next hc=>exact absurd rfl hc
theorem acS {nm:List UInt8} {i:Nat} (h:iN nm) (hi:i<48):dY [(nm,(i:Int))] nm=0∧iY [(nm,(i:Int))] nm=(i:Int):=by
 have hg:kZ [(nm,(i:Int))]:=⟨by simp,fun x hx=>by rw[fk] at hx;subst hx;exact VU ⟨h,by dsimp only;omega,by dsimp only;omega⟩,List.pairwise_singleton ..⟩;exact apA hg h (fk.2 rfl)
theorem oZ {nm:List UInt8}:dY [] nm≠0:=by
 unfold dY;rw[if_neg (by simp [(cW []).2 ⟨by simp,by simp,List.Pairwise.nil⟩])];split
 ·decide
 ·show ¬ (if BV [] nm=true then (0:Int) else 12)=0;rw[if_neg (by simp [BV])];decide
theorem aBT {nm:List UInt8} {i:Int}:rE [(nm,i)] nm=[]:=by
 unfold rE eX;rw[List.takeWhile_cons,oS];rfl
theorem TU (tab:jQ):dR tab 0 []=(0,0):=rfl
theorem aqA {tab:jQ} {x:Nd} (hx:tab 0=some x) (hk:x.kind=2) (he:x.cC=[]) (a:List UInt8) (L:List (List UInt8)):(dR tab 0 (a::L)).1≠0:=by
 rw[dR,hx];dsimp only;rw[if_neg (by simp [hk]),he,if_pos oZ];exact oZ
theorem BS {tab:jQ} {x:Nd} {nm:List UInt8} {i:Nat} (hx:tab 0=some x) (hk:x.kind=2) (he:x.cC=[(nm,(i:Int))]) (h:iN nm) (hi:i<48):dR tab 0 [nm]=(0,i):=by
 obtain⟨h1,h2⟩:=acS h hi;rw[dR,hx];dsimp only;rw[if_neg (by simp [hk]),he,if_neg (by simp [h1]),h2,fq];rfl
theorem axO {tab:jQ} {x y:Nd} {nm:List UInt8} {i:Nat} (hx:tab 0=some x) (he:x.cC=[(nm,(i:Int))]) (hy:tab i=some y) (hk:y.kind=1):Deep tab 2 0:=by
 refine⟨x,hx,fun _ p hp=> ?_⟩;rw[he,fk] at hp;subst hp;rw[fq];exact⟨y,hy,fun e=>by omega⟩
theorem aqB {tab:jQ} {x y:Nd} {nm:List UInt8} {i:Nat} (hx:tab 0=some x) (hk:x.kind=2) (he:x.cC=[(nm,(i:Int))]) (hy:tab i=some y) (hi:i≠0):pZ tab 2 i=[]++[47]++nm:=by
 have hv:uQ tab (nL (i:Int)) 2 0 [] []=([]++[47]++nm,false):=by
  have h0:((0:Nat):Int)≠(i:Int):=by omega
  rw[uQ,hx];dsimp only;rw[if_neg (show ¬ (nL (i:Int) [] 0 [] x).2=false from by simp [nL];omega),if_neg (by omega),he,NL];dsimp only;rw[fq];have hv1: ∀ s,uQ tab (nL (i:Int)) 1 i ([]++[47]++nm) s=([]++[47]++nm,false):=fun s=>by
   rw[uQ,hy];simp [nL]
  rw[hv1,if_pos rfl]
 unfold pZ;rw[hv,if_neg (by simp)]
theorem axP {tab:jQ} {x:Nd} {nm:List UInt8} {i:Nat} (hx:tab 0=some x) (he:x.cC=[(nm,(i:Int))]) (hi:1≤i∧i<48) (hr: ∀ n y,n≠0→tab n=some y→y.kind≠2):aBO tab:=by
 have h0: ∀ n y,tab n=some y→y.kind=2→n=0∧y=x:=fun n y h hk=>by
  by_cases hn:n=0
  ·subst hn;rw[hx] at h;exact⟨rfl,(Option.some.inj h).symm⟩
  ·exact absurd hk (hr n y hn h)
 refine⟨fun n m y z p q hy hz hk hk2 hp hq _=> ?_,fun n y p hy hk hp=> ?_⟩
 ·obtain⟨rfl,rfl⟩:=h0 n y hy hk;obtain⟨rfl,rfl⟩:=h0 m z hz hk2;rw[he,fk] at hp hq;exact⟨rfl,hp.trans hq.symm⟩
 ·obtain⟨rfl,rfl⟩:=h0 n y hy hk;rw[he,fk] at hp;subst hp;dsimp only;omega
theorem EP: ∀ H R:List Ent,iE H (H++R) R
 |[],R=> .nil (qt _)
 |e::H,R=> .out .here (EP H R)
theorem jU (e:Ent): ∀ H R:List Ent,iE H (e::(H++R)) (e::R)
 |[],R=> .nil (qt _)
 |a::H,R=> .out (.there .here) (jU e H R)
end Go.Proofs.YtbjalbcdbgcgdaaGreat.hand
namespace Go.Proofs.YtbjalbcdbgcgdaaGreat.hand
open Go.RowKit bG sl aX dE dO use file dir yQ fs
structure Big (X:tG) (tab:jQ) (lo:Nat):Prop where
 inv:Inv X tab
 room:lo≤X.fr.length
 vZ:X.vZ≤10000-lo
theorem BU {X:tG} {tab:jQ} {lo:Nat} (h:Big X tab lo):Big (bT X) tab lo:=⟨wC h.inv,h.room,h.vZ⟩
theorem PA {b:Nat} {X:tG} {tab tab':jQ} {G:List Int} {N lo:Nat} {e:Int} {w:List Ent} (h:tA b X tab' G N 4 (.int .i64 e) w) (hB:Big X tab lo) (hN:N+4≤lo) (hlo:lo≤1000):e=0∧ ∃ X',Big X' tab' (lo-N)∧X'.d.aE=G∧w=fU b X':=by
 have h1:=hB.room;have h2:=hB.vZ;rcases h with⟨⟨k,hk,hf⟩,_⟩|⟨X',k,W,⟨hI,⟨hk,hk2⟩,hfr,hser,_,_,_,_,_,_,hg,_⟩,hv,hw⟩
 ·exfalso;omega
 ·cases hv;refine⟨rfl,X',⟨hI, ?_, ?_⟩,hg,hw⟩
  ·rw[hfr,List.length_drop];omega
  ·rw[hser];omega
theorem acT {b:Nat} {X:tG} {tab:jQ} {lo:Nat} (hB:Big X tab lo) (hlo:7≤lo∧lo≤1000) {y0:Nd} (hy:tab 0=some y0) (hk2:y0.kind=2) (he0:y0.cC=[]) {L:List (List UInt8)} {k:Nat} (hk:L.length=k+1) {nm:List UInt8} {ino:Nat} {g e:Int} {w:List Ent} (h:uT b X tab (dR tab 0 (L.take k)) nm ino 1 g (.int .i64 e) w):(e≠0∧(k=0→ino=0))∨(e=0∧k=0∧ino≠0∧ ∃ X',Big X' (kH tab 0 y0 nm ino 1 g) (lo-3)∧X'.d.aE=X.d.aE∧w=fU b X'):=by
 have hmk:uS tab (ino=0) (0,0) nm=if ino=0 then 10 else 0:=by
  unfold uS;rw[if_neg (by simp),hy];dsimp only;rw[if_neg (by simp [hk2]),he0,if_neg oZ,if_neg (by simp)]
 have hr:(dR tab 0 (L.take k)).1=0→k=0∧dR tab 0 (L.take k)=(0,0):=fun h0=>by
  cases k with
  |zero=>exact⟨rfl,by rw[n9];exact TU tab⟩
  |succ k=>
   cases L with
   |nil=>simp at hk
   |cons a L=>
    rw[List.take_succ_cons] at h0;exact absurd h0 (aqA hy hk2 he0 a _)
 rcases h with⟨e',he',hm,hv,_⟩|⟨y,hm,hyr,hc⟩
 ·cases hv;refine .inl ⟨he',fun hk0=> ?_⟩;subst hk0;rw[n9,TU,hmk] at hm;by_cases h0:ino=0
  ·exact h0
  ·rw[if_neg h0] at hm;exact absurd hm.symm he'
 ·have h0:(dR tab 0 (L.take k)).1=0:=by
   by_cases h1:(dR tab 0 (L.take k)).1=0
   ·exact h1
   ·unfold uS at hm;rw[if_pos h1] at hm;exact absurd hm h1
  obtain⟨hk0,hw0⟩:=hr h0;rw[hw0] at hm hyr hc;rw[hmk] at hm;rw[hy] at hyr;cases hyr;have hi0:ino≠0:=fun e=>by rw[if_pos e] at hm;cases hm
  obtain⟨he,X',hX⟩:=PA hc hB (by omega) hlo.2;exact .inr ⟨he,hk0,hi0,X',hX⟩
theorem TV {b:Nat} {X:tG} {tab:jQ} {lo:Nat} (hB:Big X tab lo) (hlo:13≤lo∧lo≤1000) {n:Nat} {z:Nd} (hz:tab n=some z) (hk:z.kind=1) {text:List UInt8} {e:Int} {w:List Ent} (h:WrR b X tab n z 0 text (kQ e) w):(e≠0∧4096<text.length)∨(e=0∧ ∃ X' z',Big X' (mZ tab n (some z')) (lo-9)∧z'.kind=1∧z'.gen=z.gen∧X'.d.aE=X.d.aE∧w=fU b X'):=by
 have hin: ∀ a c:Int,kQ a=kQ c→a=c:=fun a c h=>by
  unfold kQ at h;injection h with h
  have:=congrArg (fun x:Array Value=>x[0]?) h;simp at this;exact this
 rcases h with⟨h1,hv,hw⟩|⟨⟨h1,h2⟩,e',hv,hc⟩
 ·have he:=hin _ _ hv;by_cases h0:wrE 0 text=0
  ·refine .inr ⟨by rw[he];exact h0,X,z,⟨?_,by have:=hB.room;omega,by have:=hB.vZ;omega⟩,hk,rfl,rfl,hw⟩;have:mZ tab n (some z)=tab:=by
    funext m;unfold mZ;split
    ·next e=>rw[e,hz]
    ·rfl
   rw[this];exact hB.inv
  ·refine .inl ⟨by rw[he];exact h0, ?_⟩;unfold wrE at h0;rw[if_neg (by decide)] at h0;split at h0
   ·exact absurd rfl h0
   ·split at h0
    ·omega
    ·split at h0
     ·omega
     ·exact absurd rfl h0
 ·have he:=hin _ _ hv;subst he;obtain⟨he,X',hX⟩:=PA hc hB (by omega) hlo.2;exact .inr ⟨he,X',_,hX.1,rfl,rfl,hX.2⟩
end Go.Proofs.YtbjalbcdbgcgdaaGreat.hand
namespace Go.Proofs.YtbjalbcdbgcgdaaGreat.hand
open Go.RowKit bG sl aX dE dO use file dir yQ fs
theorem TW {P:Program} {n:Nat} {F:dF} {H:List Ent} {o:Oper} {x y:Operand} {T T':TypeId} {b i:Nat} (ho:o.op= .binOp .eql T x y T') (hx:ev F x=some (aH b i)) (hy:ev F y=some (.pointer none)) (hT:P.underlying T=some (.pointer (P.pointee T))):Qt P n o F H (.bool false):=fun a w ha _=>by
 have h1:=run_eql_pointer_nil (P:=P) w T (some ⟨b,i,none⟩) hT;simp only[aH] at hx;simp [execOp,ho,ha.eval hx,ha.eval hy,eqGuard,h1]
attribute [local irreducible] box own sl gH aH bC Qt cJ cG dC dG eO
theorem aqC (s text more:List UInt8) (hs:s.length≤1000000000000000) (ht:text.length≤1000000000000000) (hm:more.length≤1000000000000000):
  Ct Tryz.prog 10 [.string (str s), .string (str text), .string (str more)] [] fun v H'=>v= .bool true∧H'=[]:=by
 have NT:=aBR 128 (by omega);obtain⟨L,es⟩: ∃ p,CA.bN s=p:=⟨_,rfl⟩;rcases hsp:CA.bN s with⟨L,es⟩;by_cases hbad:es≠0∨L=[]
 ·have DB:=fun b X=>acO b X s hs hsp hbad qu 0 0 []
  have he:(if es≠0 then es else 13)≠0:=by split<;>omega
  generalize (if es≠0 then es else 13)=e at*;unfold kQ tF at DB;(refine Ye Tryz.func10 Tryz.ntmps10 ?_;intro Fr);refine dN ?_;refine Cb (NT) ?_;rintro _ _ ⟨_,⟨bt,b,X0,hf,rfl,rfl⟩,rfl⟩;have DB0:=DB b X0;clear DB hf;unfold rF eR Hd.cells;dsimp only[jg,fe];refine dN ?_;refine dJ wt rfl (TW rfl rfl rfl (by kernel_rfl)) ?_;refine dN ?_;(refine aI wt rfl (kD rfl (DB0) rfl (jU _ _ _)) ?_;rintro _ _ ⟨_,⟨rfl,rfl⟩,rfl⟩);refine aS (bO ko) ?_;refine dJ wt rfl (mT (off:=0) rfl (by kernel_rfl) rfl rfl) ?_;refine dN ?_;exact gU rfl (by exact qK) _ ⟨rfl,rfl⟩ (HSub.nZ (rh _ (fy _ _)))
 ·have hes:es=0:=ir.1 fun h=>hbad (.inl h)
  have hL:L≠[]:=fun h=>hbad (.inr h)
  subst hes;obtain⟨k,hk⟩: ∃ k,L.length=k+1:=⟨L.length-1,by have:=List.length_pos_iff.2 hL;omega⟩;obtain⟨nm,hnm⟩: ∃ nm,L[k]? =some nm:=⟨_,aj (by omega)⟩;have hng:=(mK hsp).1 nm (List.mem_of_getElem? hnm);clear hbad hL;(refine Ye Tryz.func10 Tryz.ntmps10 ?_;intro Fr);refine dN ?_;refine Cb (NT) ?_;rintro _ _ ⟨_,⟨bt,b,X0,⟨hI0,hr0,_,hg0,hs0,_,_⟩,rfl,rfl⟩,rfl⟩;clear NT;have hB0:Big (bT X0) rM 100:=⟨wC hI0,by show 100≤X0.fr.length;omega,by show X0.vZ≤10000-100;omega⟩;obtain⟨ino,hT⟩:=TO X0.d.at' X0.d.aE;have hi48:ino<48:=by rcases hT with⟨_,h,_⟩|⟨h,_⟩<;>omega
  have hgi:X0.d.aE[ino]? =some 0:=by rw[hg0,List.getElem?_replicate,if_pos hi48]
  have DM:=OT b X0 hI0 s hs hsp hk hnm hT hgi qu 0 0 [];unfold kQ tF at DM;unfold rF eR Hd.cells;dsimp only[jg,fe];refine dN ?_;refine dJ wt rfl (TW rfl rfl rfl (by kernel_rfl)) ?_;refine dN ?_;(refine aI wt rfl (kD rfl (DM) rfl (jU _ _ _)) ?_;rintro _ _ ⟨_,⟨e,rfl,hm1⟩,rfl⟩);clear DM;rcases acT hB0 (by omega) (eY _ _ _:rM 0=some ⟨2,0,0,[]⟩) rfl rfl hk hm1 with⟨he,_⟩|⟨rfl,hk0,hi0,X1,hB1,hG1,rfl⟩
  ·refine aS (bO ko) ?_;refine dJ wt rfl (mT (off:=0) rfl (by kernel_rfl) rfl rfl) ?_;refine dN ?_;exact gU rfl (by exact qK) _ ⟨rfl,rfl⟩ (HSub.nZ (rh _ (fy _ _)))
  ·refine aS (bO ko) ?_;refine dJ wt rfl (mT (off:=0) rfl (by kernel_rfl) rfl rfl) ?_;subst hk0;obtain rfl:L=[nm]:=by
    match L,hk,hnm with
    |[a],_,h=>cases h;rfl
   have hEg:kZ [(nm,(ino:Int))]:=wA (OK (nx:=⟨2,0,0,[]⟩) (E:=[]) rfl hng oZ (by simp) hi48);have x1e:=(rJ (g:=0) hEg).2;have t10:kH rM 0 ⟨2,0,0,[]⟩ nm ino 1 0 0=some (qD 0 [(nm,(ino:Int))]):=by
    unfold kH;rw[eH (fun e=>hi0 e.symm),eY];rfl
   have t1i:kH rM 0 ⟨2,0,0,[]⟩ nm ino 1 0 ino=some ⟨1,0,0,[]⟩:=eY _ _ _;have hrest: ∀ n y,n≠0→kH rM 0 ⟨2,0,0,[]⟩ nm ino 1 0 n=some y→n=ino:=fun n y hn h=>by
    by_cases e:n=ino
    ·exact e
    ·unfold kH rM at h;rw[eH e,eH hn,eH hn] at h;cases h
   generalize kH rM 0 ⟨2,0,0,[]⟩ nm ino 1 0=tab1 at*;have hw1:=BS t10 rfl x1e hng hi48;have hd1:=axO t10 x1e t1i rfl;have hwh:=aqB t10 rfl x1e t1i hi0;have OF:=agT bt b eR eR rfl X1 hB1.inv s hs hsp hw1 t1i rfl;refine dN ?_;(refine aI wt rfl (kD rfl (OF) rfl (EP _ _)) ?_;rintro _ _ ⟨_,⟨rfl,rfl⟩,rfl⟩);clear OF;have WA:=acQ bt b ⟨(ino:Int),0,0,true⟩ eR rfl ⟨Int.le_refl _,by show (0:Int)≤1000000;decide⟩ (bT X1) (wC hB1.inv) hd1 (by omega) rfl t1i rfl rfl (L:=[nm]) (by rw[hwh];have:=hng.2.2.2.1;simp;omega) (by rw[hwh];exact apZ hng) hw1 text ht;refine dN ?_;(refine aI wt rfl (kD rfl (WA) rfl (EP _ _)) ?_;rintro _ _ ⟨_,⟨e2,w2,hw2,rfl,hH⟩,rfl⟩);clear WA;have FIN: ∀ (w H1:List Ent),HSub (H1++w) w:=fun w H1=>HSub.nZ (fy _ _)
   rcases TV (BU (BU hB1)) (by omega) t1i rfl hw2 with⟨he,hlen⟩|⟨rfl,X2,z2,hB2,hzk,hzg,hG2,rfl⟩
   ·have hlen2:(4096:Int)<(text.length:Int):=by omega
    refine aZ ?_;all_goals first|(exfalso;omega)|exact gU rfl (by exact qK) _ ⟨rfl,rfl⟩ (FIN _ _)
   ·obtain rfl:=(hH.resolve_left fun h=>h.1 rfl).2;clear hH hw2;generalize ((0:Int)+(text.length:Int))=at2 at*;have hzg0:z2.gen=0:=hzg;have t20:mZ tab1 ino (some z2) 0=some (qD 0 [(nm,(ino:Int))]):=by rw[eH (fun e=>hi0 e.symm)];exact t10
    have t2i:mZ tab1 ino (some z2) ino=some z2:=eY _ _ _;have hrest2: ∀ n y,n≠0→mZ tab1 ino (some z2) n=some y→y.kind≠2:=fun n y hn h=>by
     by_cases e:n=ino
     ·rw[e,t2i] at h;cases h;omega
     ·rw[eH e] at h;exact absurd (hrest n y hn h) e
    generalize mZ tab1 ino (some z2)=tab2 at*;have hw2:=BS t20 rfl x1e hng hi48;obtain⟨hf1,hf2⟩:=acS hng hi48;have hfe:dY (qD 0 [(nm,(ino:Int))]).cC nm=0:=by rw[x1e];exact hf1
    have hfv:ino=(iY (qD 0 [(nm,(ino:Int))]).cC nm).toNat:=by rw[x1e,hf2];rfl
    have DG:=aBS b X2 hB2.inv (axP t20 x1e ⟨by omega,hi48⟩ hrest2) s hs hsp (k:=0) rfl hnm (rn:=0) rfl t20 rfl hfe hfv hw2 t2i hzk (by rw[hzg0];decide) qu 0 0 [];unfold apC kQ tF at DG;unfold rF eR Hd.cells;dsimp only[jg,fe];refine dN ?_;(refine aI wt rfl (kD rfl (DG) rfl (jU _ _ _)) ?_;rintro _ _ ⟨_,⟨e3,rfl,hc3⟩,rfl⟩);clear DG;obtain⟨rfl,X3,hB3,hG3,rfl⟩:=PA hc3 (BU hB2) (by omega) (by omega);refine aS (bO ko) ?_;refine dJ wt rfl (mT (off:=0) rfl (by kernel_rfl) rfl rfl) ?_;have h2gi:X2.d.aE[ino]? =some 0:=by
     rw[hG2];show X1.d.aE[ino]? =some 0;rw[hG1];exact hgi
    have hg3i:X3.d.aE[ino]? =some 1:=by
     rw[hG3];show (X2.d.aE.set ino (X2.d.aE[ino]?.getD 0+1))[ino]? =some 1;rw[h2gi,List.getElem?_set_self (List.getElem?_eq_some_iff.1 h2gi).1];rfl
    have hE0:kZ []:=(cW []).1 rfl;have x3e:=(rJ (g:=0) hE0).2;have t30:jP tab2 0 (qD 0 [(nm,(ino:Int))]) nm ino 0=some (qD 0 []):=by
     unfold jP;rw[eH (fun e=>hi0 e.symm),eY,x1e,aBT];rfl
    have t3i:jP tab2 0 (qD 0 [(nm,(ino:Int))]) nm ino ino=none:=eY _ _ _;generalize jP tab2 0 (qD 0 [(nm,(ino:Int))]) nm ino=tab3 at*;obtain⟨in2,hT2⟩:=TO X3.d.at' X3.d.aE;have hi2:in2<48:=by rcases hT2 with⟨_,h,_⟩|⟨h,_⟩<;>omega
    obtain⟨g2,hg2⟩: ∃ g2,X3.d.aE[in2]? =some g2:=⟨_,aj (by have:=hB3.inv.BZ.map.2.1;omega)⟩;have DM:=OT b X3 hB3.inv s hs hsp (k:=0) rfl hnm hT2 hg2 qu 0 0 [];unfold kQ tF at DM;refine eU ?_;(refine aI wt rfl (kD rfl (DM) rfl (jU _ _ _)) ?_;rintro _ _ ⟨_,⟨e4,rfl,hm4⟩,rfl⟩);clear DM;rcases acT (BU hB3) (by omega) t30 rfl x3e (k:=0) rfl hm4 with⟨he,hz⟩|⟨rfl,_,hn2,X4,hB4,hG4,rfl⟩
    ·exfalso;have h0:=hz rfl;rcases hT2 with⟨h,_⟩|⟨_,h⟩
     ·omega
     ·exact h ino (by omega) hi48 ⟨(0,0),1,hB3.inv.BZ.none ino hi48 t3i,hg3i,rfl,by decide⟩
    ·refine aS (bO ko) ?_;refine dJ wt rfl (mT (off:=0) rfl (by kernel_rfl) rfl rfl) ?_;have hEg4:kZ [(nm,(in2:Int))]:=wA (OK (nx:=⟨2,0,0,[]⟩) (E:=[]) rfl hng oZ (by simp) hi2);have x4e:=(rJ (g:=0) hEg4).2;have t40:kH tab3 0 (qD 0 []) nm in2 1 g2 0=some (qD 0 [(nm,(in2:Int))]):=by
      unfold kH;rw[eH (fun e=>hn2 e.symm),eY,x3e];rfl
     have t4i:kH tab3 0 (qD 0 []) nm in2 1 g2 in2=some ⟨1,g2,0,[]⟩:=eY _ _ _;have hg4i:X4.d.aE[ino]? =some 1:=by rw[hG4];exact hg3i
     generalize kH tab3 0 (qD 0 []) nm in2 1 g2=tab4 at*;have hw4:=BS t40 rfl x4e hng hi2;clear hm4 hT2 hg2 hc3 hG3 hG4 hG2 hG1 h2gi hgi hg3i t30 t3i x3e hE0 hEg hEg4 hB3 hB2 hB1 hw1 hd1 hwh;by_cases hml:more.length≤4096
     ·have hml2:(more.length:Int)≤4096:=by omega
      have DW:=ajY b X4 hB4.inv s hs hsp hw4 t4i rfl qu 0 0 more hm;unfold tF at DW;refine dN ?_;(refine aI wt rfl (kD rfl (DW) rfl (jU _ _ _)) ?_;rintro _ _ ⟨_,hw5,rfl⟩);clear DW;obtain⟨e5,rfl⟩:=OU hw5;rcases TV (BU hB4) (by omega) t4i rfl hw5 with⟨he,hlen⟩|⟨rfl,X5,z5,hB5,hz5,_,hG5,rfl⟩
      ·omega
      ·clear hw5;refine aS (bO ko) ?_;unfold kQ;refine dJ wt rfl (mT (off:=0) rfl (by kernel_rfl) rfl rfl) ?_;have t50:mZ tab4 in2 (some z5) 0=some (qD 0 [(nm,(in2:Int))]):=by rw[eH (fun e=>hn2 e.symm)];exact t40
       have t5i:mZ tab4 in2 (some z5) in2=some z5:=eY _ _ _;have hg5i:X5.d.aE[ino]? =some 1:=by rw[hG5];exact hg4i
       generalize mZ tab4 in2 (some z5)=tab5 at*;have hw5:=BS t50 rfl x4e hng hi2;clear hB4 hG5 hg4i t40 t4i hw4;obtain⟨p5,hp5⟩: ∃ p5,X5.d.at'[ino]? =some p5:=⟨_,aj (by have:=hB5.inv.BZ.map.1;omega)⟩;have hne:(1:Int)≠0:=by decide
       have OS:=GM bt b ⟨(ino:Int),0,at2,true⟩ eR rfl rfl X5 hB5.inv s hs hsp hw5 t5i hz5;generalize z5.gen=zg at OS;have RS:=fun s t f o=>NP bt b X5.d s t f o ⟨(ino:Int),0,at2,true⟩ eR rfl rfl hi48 hp5 hg5i (.inr hne) 9
       have WS:=fun s t f o=>GC bt b X5.d s t f o ⟨(ino:Int),0,at2,true⟩ ⟨(in2:Int),zg,0,true⟩ rfl rfl hi48 hp5 hg5i (.inr hne) (str [120])
       have SS:=fun s t f o=>NO bt b X5.d s t f o ⟨(ino:Int),0,at2,true⟩ ⟨(in2:Int),zg,0,true⟩ rfl rfl hi48 hp5 hg5i (.inr hne) 0
       have CO:=NM bt b ⟨(ino:Int),0,at2,true⟩ ⟨(in2:Int),zg,0,true⟩ rfl;have CS:=NN bt b eR ⟨(in2:Int),zg,0,true⟩ rfl;clear hB5;unfold bT at OS;obtain⟨d5,s5,tn5,qf5,cf5,F5,qo5,co5,Lo5⟩:=X5;obtain⟨a,ca,cs,w,cw,wl,m,cm,at1,qg,cg,aE⟩:=d5;unfold rF eR Hd.cells at*;unfold fU bE bB at*;dsimp only[jg,fe] at*;refine dN ?_;(refine Ca (RS _ _ _ _) ?_;rintro _ _ ⟨_,⟨rfl,rfl⟩,rfl⟩;refine Da ?_);refine dN ?_;refine Cb (OS) ?_;rintro _ _ ⟨_,⟨rfl,rfl⟩,rfl⟩;refine Da ?_;refine dN ?_;(refine Ca (WS _ _ _ _) ?_;rintro _ _ ⟨_,⟨rfl,rfl⟩,rfl⟩;refine Da ?_);refine eU ?_;(refine Ca (SS _ _ _ _) ?_;rintro _ _ ⟨_,⟨rfl,rfl⟩,rfl⟩;refine Da ?_);refine eU ?_;(refine Ca (CO) ?_;rintro _ _ ⟨_,⟨rfl,rfl⟩,rfl⟩;refine Da ?_);refine eU ?_;(refine Ca (CS) ?_;rintro _ _ ⟨_,⟨rfl,rfl⟩,rfl⟩;refine Da ?_);refine eU ?_;exact Ea (x:=⟨rfl,rfl⟩)
     ·have hml2: ¬ (more.length:Int)≤4096:=by omega
      obtain⟨p5,hp5⟩: ∃ p5,X4.d.at'[ino]? =some p5:=⟨_,aj (by have:=hB4.inv.BZ.map.1;omega)⟩;have hne:(1:Int)≠0:=by decide
      have OS:=GM bt b ⟨(ino:Int),0,at2,true⟩ eR rfl rfl X4 hB4.inv s hs hsp hw4 t4i rfl;generalize (⟨1,g2,0,[]⟩:Nd).gen=zg at OS;have RS:=fun s t f o=>NP bt b X4.d s t f o ⟨(ino:Int),0,at2,true⟩ eR rfl rfl hi48 hp5 hg4i (.inr hne) 9
      have WS:=fun s t f o=>GC bt b X4.d s t f o ⟨(ino:Int),0,at2,true⟩ ⟨(in2:Int),zg,0,true⟩ rfl rfl hi48 hp5 hg4i (.inr hne) (str [120])
      have SS:=fun s t f o=>NO bt b X4.d s t f o ⟨(ino:Int),0,at2,true⟩ ⟨(in2:Int),zg,0,true⟩ rfl rfl hi48 hp5 hg4i (.inr hne) 0
      have CO:=NM bt b ⟨(ino:Int),0,at2,true⟩ ⟨(in2:Int),zg,0,true⟩ rfl;have CS:=NN bt b eR ⟨(in2:Int),zg,0,true⟩ rfl;clear hB4;unfold bT at OS;obtain⟨d5,s5,tn5,qf5,cf5,F5,qo5,co5,Lo5⟩:=X4;obtain⟨a,ca,cs,w,cw,wl,m,cm,at1,qg,cg,aE⟩:=d5;unfold rF eR Hd.cells at*;unfold fU bE bB at*;dsimp only[jg,fe] at*;refine dN ?_;(refine Ca (RS _ _ _ _) ?_;rintro _ _ ⟨_,⟨rfl,rfl⟩,rfl⟩;refine Da ?_);refine dN ?_;refine Cb (OS) ?_;rintro _ _ ⟨_,⟨rfl,rfl⟩,rfl⟩;refine Da ?_;refine dN ?_;(refine Ca (WS _ _ _ _) ?_;rintro _ _ ⟨_,⟨rfl,rfl⟩,rfl⟩;refine Da ?_);refine eU ?_;(refine Ca (SS _ _ _ _) ?_;rintro _ _ ⟨_,⟨rfl,rfl⟩,rfl⟩;refine Da ?_);refine eU ?_;(refine Ca (CO) ?_;rintro _ _ ⟨_,⟨rfl,rfl⟩,rfl⟩;refine Da ?_);refine eU ?_;(refine Ca (CS) ?_;rintro _ _ ⟨_,⟨rfl,rfl⟩,rfl⟩;refine Da ?_);refine eU ?_;exact Ea (x:=⟨rfl,rfl⟩)
end Go.Proofs.YtbjalbcdbgcgdaaGreat.hand
namespace Go.Proofs.YtbjalbcdbgcgdaaGreat.lawHandStale
open Go.RowKit bG sl hand
theorem walk (s:ByteArray) (hs:s.size≤reachBytes) (text:ByteArray) (ht:text.size≤reachBytes) (more:ByteArray) (hm:more.size≤reachBytes) (W:World):Calls Tryz.prog 10 #[.string s, .string text, .string more] W fun e w'=>e= .returned (.bool true)∧Below W.heap.size W w':=by
 obtain⟨l1,rfl,h1⟩:=adI s;obtain⟨l2,rfl,h2⟩:=adI text;obtain⟨l3,rfl,h3⟩:=adI more;have hr:reachBytes=140737488351232:=rfl;rw[hr] at hs ht hm;exact akM aDG (aqC l1 l2 l3 (by omega) (by omega) (by omega))
end Go.Proofs.YtbjalbcdbgcgdaaGreat.lawHandStale
