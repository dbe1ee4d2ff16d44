/- Law HandStale: its texts, packed. -/
import Derived.Test.YtbjalbcdbgcgdaaGreatK33
import Derived.Test.YtbjalbcdbgcgdaaGreatK34
import Derived.Test.YtbjalbcdbgcgdaaGreatK07
import Derived.Test.YtbjalbcdbgcgdaaGreatK13
import Derived.Test.YtbjalbcdbgcgdaaGreatK15
open List renaming cons_append->jg,drop_eq_getElem_cons->cu,drop_length->o8,getElem?_eq_getElem->aj,getElem?_eq_some_iff->ah,length_append->ag,mem_of_getElem?->jm,nil_append->fe
open Nat renaming zero_le->fg
open Int renaming toNat_natCast->fq
set_option linter.unusedVariables false
set_option maxRecDepth 100000
set_option maxHeartbeats 8000000
namespace Go.Proofs.YtbjalbcdbgcgdaaGreat.fs
open Go.RowKit bG sl aX fV dE dO use file dir yQ
structure Nd where
 kind:Int
 gen:Int
 size:Nat
 parts:List (List UInt8)
def Nd.bytes (x:Nd):List UInt8:=jM x.size x.parts
def Nd.cC (x:Nd):List bA:=(jN x.bytes).getD []
abbrev jQ:=Nat→Option Nd
structure jO (d:FD) (n:Nat) (x:Nd) (l:List UInt8):Prop where
 told:Told d n l
 kind:kI l=x.kind
 gen:gI l=x.gen
 size:zI l=(x.size:Int)
 small:x.size≤4096
 data:afM d n x.size (pI l) x.parts
theorem EB {d:FD} {n z:Nat} {pl:List (Int×Int)} {ps:List (List UInt8)} (h:afM d n z pl ps) (hz:z≤4096):eT z ps:=by
 obtain⟨h1,h2,h3⟩:=h;refine⟨hz,by rw[h2,h1],fun i s hs hne=> ?_⟩;obtain⟨p,hp⟩: ∃ p,pl[i]? =some p:=⟨_,aj (by have:=(ah.1 hs).1;omega)⟩;rcases h3 i p s hp hs with⟨_,h⟩|⟨_,h,_⟩
 ·exact absurd h hne
 ·exact h
structure WO (d:FD) (tab:jQ):Prop where
 xL:aX.Good d.cs d.ps
 map:dP d.at' d.aE
 none: ∀ n,n<48→tab n=none→d.at'[n]? =some (0,0)
 some: ∀ n x,tab n=some x→ ∃ l,jO d n x l
theorem NK {d:FD} {tab:jQ} (h:WO d tab) {n:Nat} {x:Nd} (hx:tab n=some x):n<48:=by
 obtain⟨l,hl⟩:=h.some n x hx;exact hl.told.lt
structure Shut (tab:jQ):Prop where
 kinds: ∀ n x,tab n=some x→x.kind=1∨x.kind=2
 cC: ∀ n x,tab n=some x→x.kind=2→ ∃ E,jN x.bytes=some E∧ ∀ p∈E, ∃ y,tab p.2.toNat=some y
 root: ∃ x,tab 0=some x∧x.kind=2
def dR (tab:jQ) (n:Nat):List (List UInt8)→Int×Nat
 |[]=>(0,n)
 |s::r=>match tab n with
  |none=>(18,0)
  |some x=>if x.kind≠2 then (15,0) else if dY x.cC s≠0 then (dY x.cC s,0) else dR tab (iY x.cC s).toNat r
theorem aoF (n:Nat) (ps:List (List UInt8)):gG n ps 0 n=jM n ps:=by
 unfold gG jM;rw[Nat.sub_zero,Nat.min_self];congr 1;funext j;rw[Nat.zero_add]
attribute [local irreducible] box own sl gH aH bC Qt cJ cG dC dG eO
theorem SQ (b:Nat) (d:FD) (s t f o:Value) (n:Int) (k gn z:Int) (hk:k≠2) (q:Option Addr) (m c:Nat):
  Ct Tryz.prog 148 [aH b 0, .int .i64 n, .agg #[.int .i64 k, .int .i64 gn, .int .i64 z, .slice q m c]] [bE b d s t f o] fun v H'=>v= .tuple #[.slice none 0 0, .int .i64 15]∧H'=[bE b d s t f o]:=by
 unfold bE;(refine Ye Tryz.func148 Tryz.ntmps148 ?_;intro Fr);(repeat' (first|refine Wa ?_|refine Wk ?_|refine We ?_|(refine Wb ?_;intro b)|(refine Wq ?_;intro q)|(refine Ws ?_ ?_<;>intro h)|refine Wz ?_|fail));exact Ea (x:=⟨rfl,rfl⟩)
theorem VY (b:Nat) (d:FD) (s t f o:Value) (n:Nat) (x:Nd) (l:List UInt8) (h:jO d n x l) (hk:x.kind=2) {E:List bA} (hE:jN x.bytes=some E) (q:Option Addr) (c:Nat):
  Ct Tryz.prog 148 [aH b 0, .int .i64 (n:Int), .agg #[.int .i64 (kI l), .int .i64 (gI l), .int .i64 (zI l), .slice q (pI l).length c]] (bE b d s t f o::sl 2 (.slice q (pI l).length c) ((pI l).map jW)::bB d) fun v H'=> ∃ q' c',v= .tuple #[.slice q' E.length c', .int .i64 0]∧H'=[bE b d s t f o,own (.slice q' E.length c') 204 2 E.length (flat fE E)]:=by
 have hgf:=EB h.data h.small;have D0:=VV b d s t f o n x.size x.kind x.gen q c (pI l) x.parts h.told.xL h.small h.data;have R0:=fun q c=>aAV q c x.size x.parts hgf 0 x.size (by omega) (by have:=h.small;omega)
 rw[aoF] at R0;have hbl:x.bytes.length≤4096:=by unfold Nd.bytes;rw[fO];exact h.small
 have RD:Ct Tryz.prog 215 [.string (str x.bytes)] [] fun v H'=> ∃ q c,v= .tuple #[.slice q E.length c, .int .i64 0]∧H'=[own (.slice q E.length c) 204 2 E.length (flat fE E)]:=eW (dir.oG x.bytes (by omega)) fun v H' h2=>by
  rcases h2 with⟨zs,q,c,e,h3,h4⟩|⟨e,_⟩
  ·rw[hE] at e;cases e;exact⟨q,c,h3,h4⟩
  ·rw[hE] at e;cases e
 rw[h.kind,h.gen,h.size,hk];rw[hk] at D0;have hbe:jM x.size x.parts=x.bytes:=rfl;rw[hbe] at R0;have hzz:((0:Nat):Int)=0:=rfl;rw[hzz] at R0;obtain⟨a,ca,cs,w,cw,wl,m,cm,at',qg,cg,aE⟩:=d;unfold bE bB at*;dsimp only at D0 ⊢;generalize x.bytes=B at*;clear h hE hgf hbe hzz;(refine Ye Tryz.func148 Tryz.ntmps148 ?_;intro Fr);(repeat' (first|refine Wa ?_|refine Wk ?_|refine aF ?_|(refine Wb ?_;intro b)|(refine Wq ?_;intro q)|(refine Ws ?_ ?_<;>intro h)|refine Wz ?_|fail));(refine aB (Hq:=[_]) [0] [] rfl (by kernel_rfl) Za ?_);(repeat' (first|refine Wa ?_|refine Wk ?_|refine We ?_|(refine Wb ?_;intro b)|(refine Wr ?_;intro q)|(refine Ws ?_ ?_<;>intro h)|refine Wz ?_|fail));(refine aA 5 ?_;refine cU 9 (by kernel_rfl) ?_ ?_)
 ·(refine Cd 5 (D0) ?_;rintro _ _ ⟨_,⟨q5,c5,rfl,rfl⟩,rfl⟩;refine Te ?_;(try refine Da ?_));(repeat' (first|refine Wa ?_|refine Wk ?_|refine We ?_|(refine Wb ?_;intro b)|(refine Wq ?_;intro q)|refine Wc (R0 ..) ?_|(refine Ws ?_ ?_<;>intro h)|refine Wz ?_|fail));(refine Ca (RD) ?_;rintro _ _ ⟨_,⟨q6,c6,rfl,rfl⟩,rfl⟩;refine Da ?_);(repeat' (first|refine Wa ?_|refine Wk ?_|refine We ?_|(refine Wb ?_;intro b)|(refine Wq ?_;intro q)|(refine Ws ?_ ?_<;>intro h)|refine Wz ?_|fail));exact Ea (x:=⟨q6,c6,rfl,rfl⟩)
 ·(refine Oc (l:=by exact iI rfl) (k:= ?_);rintro _ _ ⟨b5,rfl,rfl⟩;refine Te ?_;(try refine Da ?_));(repeat' (first|refine Wa ?_|refine Wk ?_|refine We ?_|(refine Wb ?_;intro b)|(refine Wr ?_;intro q)|(refine Ws ?_ ?_<;>intro h)|refine Wz ?_|fail));(refine Cc 5 (D0) ?_;rintro _ _ ⟨_,⟨q5,c5,rfl,rfl⟩,rfl⟩;refine Te ?_;(try refine Da ?_));(repeat' (first|refine Wa ?_|refine Wk ?_|refine We ?_|(refine Wb ?_;intro b)|(refine Wq ?_;intro q)|refine Wc (R0 ..) ?_|(refine Ws ?_ ?_<;>intro h)|refine Wz ?_|fail));(refine Ca (RD) ?_;rintro _ _ ⟨_,⟨q6,c6,rfl,rfl⟩,rfl⟩;refine Da ?_);(repeat' (first|refine Wa ?_|refine Wk ?_|refine We ?_|(refine Wb ?_;intro b)|(refine Wq ?_;intro q)|(refine Ws ?_ ?_<;>intro h)|refine Wz ?_|fail));exact Ea (x:=⟨q6,c6,rfl,rfl⟩)
def wV (b:Nat) (d:FD) (s t f o:Value) (tab:jQ) (r:Int×Nat) (v:Value) (H':List Ent):Prop:=
 (r.1≠0∧v= .tuple #[.int .i64 0, .agg #[.int .i64 0, .int .i64 0, .int .i64 0, .slice none 0 0], .int .i64 r.1]∧H'=[bE b d s t f o])∨
 (∃ x l q c,(r.1=0∧tab r.2=some x∧jO d r.2 x l)∧v= .tuple #[.int .i64 (r.2:Int), .agg #[.int .i64 (kI l), .int .i64 (gI l), .int .i64 (zI l), .slice q (pI l).length c], .int .i64 0]∧H'=[bE b d s t f o,own (.slice q (pI l).length c) 77 2 (pI l).length (flat jW (pI l))])
theorem vW {x:Nd} {E:List bA} (h:jN x.bytes=some E):x.cC=E:=by unfold Nd.cC;rw[h];rfl
theorem aoG {E:List bA} {s:List UInt8} (h:dY E s=0): ∃ p∈E,iY E s=p.2:=by
 obtain⟨h1,h2,h3⟩:=mF h;have hlt:=afP h3;refine⟨E[eX E s],List.getElem_mem hlt, ?_⟩;unfold iY;rw[if_pos h,aj hlt]
theorem sM {s:List UInt8} {E:List bA} (h:jN s=some E):kZ E:=(cW E).1 (xK h).1
theorem afQ {tab:jQ} {n:Nat} {L:List (List UInt8)} {k:Nat} {s:List UInt8} {x:Nd} (hs:L[k]? =some s) (hx:tab n=some x):dR tab n (L.drop k)=if x.kind≠2 then (15,0) else if dY x.cC s≠0 then (dY x.cC s,0) else dR tab (iY x.cC s).toNat (L.drop (k+1)):=by
 obtain⟨h1,e1⟩:=ah.1 hs;rw[cu h1,e1,dR,hx]
attribute [local irreducible] dR dY iY
theorem uP (b:Nat) (d:FD) (s t f o:Value) (tab:jQ) (hL:WO d tab) (hS:Shut tab) (qL:Option Addr) (cL:Nat) (L:List (List UInt8)) (hl1:L.length≤1000000) (hl2: ∀ s∈L,s.length≤1000000):
  Ct Tryz.prog 63 [aH b 0, .slice qL L.length cL] (bE b d s t f o::sl 1 (.slice qL L.length cL) (L.map fT)::bB d) (wV b d s t f o tab (dR tab 0 L)):=by
 obtain⟨x0,hx0,hk0⟩:=hS.root;obtain⟨l0,hl0⟩:=hL.some 0 x0 hx0;have LD:=fun n l (h:Told d n l)=>ahY b d s t f o n h
 have L0:=LD 0 l0 hl0.told;have EF:=fun n k gn z (hk:k≠2) q m c=>SQ b d s t f o n k gn z hk q m c
 have EO:=fun n x l (h:jO d n x l) hk E hE q c=>VY b d s t f o n x l h hk (E:=E) hE q c
 obtain⟨R,hR⟩: ∃ R,dR tab 0 L=R:=⟨_,rfl⟩;rw[hR];have BAD: ∀ e:Int,e≠0→R=(e,0)→wV b d s t f o tab R (.tuple #[.int .i64 0, .agg #[.int .i64 0, .int .i64 0, .int .i64 0, .slice none 0 0], .int .i64 e]) [bE b d s t f o]:=fun e he h=> .inl ⟨by rw[h];exact he,by rw[h],rfl⟩
 have YES: ∀ n x l q c,R=(0,n)→tab n=some x→jO d n x l→wV b d s t f o tab R (.tuple #[.int .i64 (n:Int), .agg #[.int .i64 (kI l), .int .i64 (gI l), .int .i64 (zI l), .slice q (pI l).length c], .int .i64 0]) [bE b d s t f o,own (.slice q (pI l).length c) 77 2 (pI l).length (flat jW (pI l))]:=fun n x l q c h hx hl=> .inr ⟨x,l,q,c,by rw[h];exact⟨rfl,hx,hl⟩,by rw[h],rfl⟩
 refine lX (R:=wV b d s t f o tab R) ?_ fun _ _ h=>h
 generalize wV b d s t f o tab R=RR at*;have hn0:((0:Nat):Int)=0:=rfl;rw[hn0] at L0;have h00:dR tab 0 (L.drop 0)=R:=hR;have hroot: ∃ x,tab 0=some x∧jO d 0 x l0:=⟨x0,hx0,hl0⟩;clear hR hx0 hk0 hl0 hn0;obtain⟨a,ca,cs,w,cw,wl,m,cm,at',qg,cg,aE⟩:=d;unfold bE bB at*;dsimp only at LD L0 EF EO BAD YES ⊢;(refine Ye Tryz.func63 Tryz.ntmps63 ?_;intro Fr);(repeat' (first|refine Wa ?_|refine Wk ?_|refine We ?_|(refine Wb ?_;intro b)|(refine Wq ?_;intro q)|(refine Ws ?_ ?_<;>intro h)|refine Wz ?_|fail));(refine Ca (L0) ?_;rintro _ _ ⟨_,⟨q1,c1,rfl,rfl⟩,rfl⟩;refine Da ?_);(repeat' (first|refine Wa ?_|refine Wk ?_|refine We ?_|(refine Wb ?_;intro b)|(refine Wq ?_;intro q)|(refine Ws ?_ ?_<;>intro h)|refine Wz ?_|fail));(refine aC (σ:=Nat×Nat×List UInt8×Option Addr×Nat) (fun y=>y.1≤L.length∧(∃ x,tab y.2.1=some x∧jO ⟨a,ca,cs,w,cw,wl,m,cm,at',qg,cg,aE⟩ y.2.1 x y.2.2.1)∧dR tab y.2.1 (L.drop y.1)=R) (fun y=>[(22, .int .i64 (y.1:Int)),(7, .int .i64 (y.2.1:Int)),(9, .int .i64 0)]) (fun y=>[box b [.int .i64 (kI y.2.2.1), .int .i64 (gI y.2.2.1), .int .i64 (zI y.2.2.1), .slice y.2.2.2.1 (pI y.2.2.1).length y.2.2.2.2] 79,own (.slice y.2.2.2.1 (pI y.2.2.1).length y.2.2.2.2) 77 2 (pI y.2.2.1).length (flat jW (pI y.2.2.1))]) _ (fun y=>L.length-y.1) ((0,0,l0,q1,c1)) (by exact⟨fg _,hroot,h00⟩) (by exact gA) Zb (fun⟨k,n,l,q,c⟩ ⟨hk,⟨x,hx,hlx⟩,hw⟩=> ?_);refine Da ?_);clear hroot h00 L0;dsimp only at hk hx hlx hw ⊢;rcases iJ L k with⟨nm,hnm,hlt⟩|hge
 ·have hnl:=hl2 nm (jm hnm);rw[afQ hnm hx] at hw;by_cases hk2:x.kind=2
  ·obtain⟨E,hE,hin⟩:=hS.cC n x hx hk2;have hEg:=sM hE;have E0:=fun q c=>EO n x l hlx hk2 E hE q c
   have FN:=fun q c=>dir.AW q c E nm (by have:=hEg.1;omega) (fun p hp=>by have:=(gE (hEg.2.1 p hp)).1.2.2.2.1;omega) (by omega)
   rw[if_neg (by simp [hk2]),vW hE] at hw;by_cases hf:dY E nm=0
   ·rw[if_neg (by simp [hf])] at hw;obtain⟨p,hp,hpv⟩:=aoG hf;obtain⟨y,hy⟩:=hin p hp;obtain⟨l2,hl2y⟩:=hL.some _ y hy;have hp0:=(gE (hEg.2.1 p hp)).2.1;rw[hpv] at hw;rw[hf,hpv] at FN;obtain⟨n2,hn2⟩: ∃ n2:Nat,p.2=(n2:Int):=⟨p.2.toNat,by omega⟩;rw[hn2] at FN hw hy hl2y;rw[fq] at hw hy hl2y;have L1:=LD n2 l2 hl2y.told;clear hEg hE hin hf hpv hp hp0 hn2;(repeat' (first|refine Wa ?_|refine Wk ?_|refine We ?_|(refine Wb ?_;intro b)|(refine Wq ?_;intro q)|(refine Ws ?_ ?_<;>intro h)|refine Wz ?_|fail));(refine Ca (E0 _ _) ?_;rintro _ _ ⟨_,⟨q5,c5,rfl,rfl⟩,rfl⟩;refine Da ?_);(repeat' (first|refine Wa ?_|refine Wk ?_|refine We ?_|(refine Wb ?_;intro b)|(refine Wq ?_;intro q)|refine Wc (FN ..) ?_|(refine Ws ?_ ?_<;>intro h)|refine Wz ?_|fail));(refine Ca (L1) ?_;rintro _ _ ⟨_,⟨q6,c6,rfl,rfl⟩,rfl⟩;refine Da ?_);(repeat' (first|refine Wa ?_|refine Wk ?_|refine We ?_|(refine Wb ?_;intro b)|(refine Wq ?_;intro q)|(refine Ws ?_ ?_<;>intro h)|refine Wz ?_|fail));refine Ee ((k+1,n2,l2,q6,c6)) ?_ ?_
    ·exact⟨hlt,⟨y,hy,hl2y⟩,hw⟩
    ·dsimp only;omega
   ·rw[if_pos hf] at hw;have hb:=BAD _ hf hw.symm;clear hEg hE hin;generalize dY E nm=e at*;generalize iY E nm=v at*;(repeat' (first|refine Wa ?_|refine Wk ?_|refine We ?_|(refine Wb ?_;intro b)|(refine Wq ?_;intro q)|(refine Ws ?_ ?_<;>intro h)|refine Wz ?_|fail));(refine Ca (E0 _ _) ?_;rintro _ _ ⟨_,⟨q5,c5,rfl,rfl⟩,rfl⟩;refine Da ?_);(repeat' (first|refine Wa ?_|refine Wk ?_|refine We ?_|(refine Wb ?_;intro b)|(refine Wq ?_;intro q)|refine Wc (FN ..) ?_|(refine Ws ?_ ?_<;>intro h)|refine Wz ?_|fail));exact Ea (x:=hb)
  ·rw[if_pos hk2] at hw;have hb:=BAD 15 (by decide) hw.symm;have E0:=fun q c=>EF (n:Int) (kI l) (gI l) (zI l) (by rw[hlx.kind];exact hk2) q (pI l).length c
   (repeat' (first|refine Wa ?_|refine Wk ?_|refine We ?_|(refine Wb ?_;intro b)|(refine Wq ?_;intro q)|(refine Ws ?_ ?_<;>intro h)|refine Wz ?_|fail));(refine Ca (E0 _ _) ?_;rintro _ _ ⟨_,⟨rfl,rfl⟩,rfl⟩;refine Da ?_);(repeat' (first|refine Wa ?_|refine Wk ?_|refine We ?_|(refine Wb ?_;intro b)|(refine Wq ?_;intro q)|(refine Ws ?_ ?_<;>intro h)|refine Wz ?_|fail));exact Ea (x:=hb)
 ·have hkl:k=L.length:=by omega
  subst hkl;rw[o8] at hw;have hy:=YES n x l q c (by rw[←hw];unfold dR;rfl) hx hlx;(repeat' (first|refine Wa ?_|refine Wk ?_|refine aF ?_|(refine Wb ?_;intro b)|(refine Wq ?_;intro q)|(refine Ws ?_ ?_<;>intro h)|refine Wz ?_|fail));(refine aB (Hq:=[_]) [0] [] rfl (by kernel_rfl) Za ?_);(repeat' (first|refine Wa ?_|refine Wk ?_|refine We ?_|(refine Wb ?_;intro b)|(refine Wq ?_;intro q)|(refine Ws ?_ ?_<;>intro h)|refine Wz ?_|fail));exact Ea (x:=hy)
end Go.Proofs.YtbjalbcdbgcgdaaGreat.fs
namespace Go.Proofs.YtbjalbcdbgcgdaaGreat.fs
open Go.RowKit bG sl aX fV dE dO use file dir yQ
section
variable {σ:Type}
def NL (f:Nat→List UInt8→σ→σ×Bool) (at':List UInt8):List bA→σ→σ×Bool
 |[],s=>(s,true)
 |p::t,s=>if (f p.2.toNat (at'++[47]++p.1) s).2=false then ((f p.2.toNat (at'++[47]++p.1) s).1,false) else NL f at' t (f p.2.toNat (at'++[47]++p.1) s).1
def uQ (tab:jQ) (step:σ→Nat→List UInt8→Nd→σ×Bool):Nat→Nat→List UInt8→σ→σ×Bool
 |0,_,_,s=>(s,false)
 |k+1,n,at',s=>match tab n with
  |none=>(s,false)
  |some x=>if (step s n at' x).2=false then ((step s n at' x).1,false) else if x.kind=1 then ((step s n at' x).1,true) else NL (uQ tab step k) at' x.cC (step s n at' x).1
end
def Deep (tab:jQ):Nat→Nat→Prop
 |0,_=>False
 |k+1,n=> ∃ x,tab n=some x∧(x.kind=2→ ∀ p∈x.cC,Deep tab k p.2.toNat)
theorem aoH {σ:Type} {f:Nat→List UInt8→σ→σ×Bool} {at':List UInt8} {E:List bA} {j:Nat} {p:bA} {s:σ} (h:E[j]? =some p):NL f at' (E.drop j) s=if (f p.2.toNat (at'++[47]++p.1) s).2=false then ((f p.2.toNat (at'++[47]++p.1) s).1,false) else NL f at' (E.drop (j+1)) (f p.2.toNat (at'++[47]++p.1) s).1:=by
 obtain⟨h1,e1⟩:=ah.1 h;rw[cu h1,e1,NL]
def nL (hi:Int) (s:List UInt8) (n:Nat) (at':List UInt8) (x:Nd):List UInt8×Bool:=(at',decide ((n:Int)≠hi))
attribute [local irreducible] box own sl gH aH bC Qt cJ cG dC dG eO
theorem aBA (b6 b3:Nat) (hi g:Int) (s:List UInt8) (n:Nat) (at':List UInt8) (k gn z:Int) (q:Option Addr) (m c:Nat):
  Ct Tryz.prog 233 [.int .i64 (n:Int), .string (str at'), .agg #[.int .i64 k, .int .i64 gn, .int .i64 z, .slice q m c],aH b6 0,aH b3 0] [box b6 [.string (str s)] 9,box b3 [.int .i64 hi, .int .i64 g] 97] fun v H'=>v= .bool (decide ((n:Int)≠hi))∧H'=[box b6 [.string (str at')] 9,box b3 [.int .i64 hi, .int .i64 g] 97]:=by
 by_cases h:(n:Int)=hi
 ·rw[decide_eq_false (by simp [h])];(refine Ye Tryz.func233 Tryz.ntmps233 ?_;intro Fr);(repeat' (first|refine Wa ?_|refine We ?_|(refine Wb ?_;intro b)|fail));exact Ea (x:=⟨rfl,rfl⟩)
 ·rw[decide_eq_true h];(refine Ye Tryz.func233 Tryz.ntmps233 ?_;intro Fr);(repeat' (first|refine Wa ?_|refine We ?_|(refine Wb ?_;intro b)|fail));exact Ea (x:=⟨rfl,rfl⟩)
theorem aoI (b:Nat) (d:FD) (s t f o:Value) {tab:jQ} (hL:WO d tab) (hS:Shut tab) (b6 b3:Nat) (hi g:Int): ∀ (k n:Nat) (at' u:List UInt8),Deep tab k n→at'.length+20*k≤1000→
  Ct Tryz.prog 70 [aH b 0, .int .i64 (n:Int), .string (str at'), .func (.func 233) #[] #[aH b6 0,aH b3 0]] (bE b d s t f o::(bB d++[box b6 [.string (str u)] 9,box b3 [.int .i64 hi, .int .i64 g] 97])) fun v H'=>v= .bool (uQ tab (nL hi) k n at' u).2∧H'=[bE b d s t f o,box b6 [.string (str (uQ tab (nL hi) k n at' u).1)] 9,box b3 [.int .i64 hi, .int .i64 g] 97]:=by
 intro k;induction k with
 |zero=>intro n at' u hD;exact absurd hD id
 |succ k ih=>
  intro n at' u hD hlen;obtain⟨x,hx,hch⟩:=hD;obtain⟨l,hl⟩:=hL.some n x hx;have LD:=ahY b d s t f o n hl.told;have SE:=aBA b6 b3 hi g u n at' (kI l) (gI l) (zI l);have hv:uQ tab (nL hi) (k+1) n at' u=if decide ((n:Int)≠hi)=false then (at',false) else if x.kind=1 then (at',true) else NL (uQ tab (nL hi) k) at' x.cC at':=by rw[uQ,hx];rfl
  rw[hv];by_cases hn:(n:Int)=hi
  ·have e1:decide ((n:Int)≠hi)=false:=decide_eq_false (by simp [hn]);rw[e1] at SE ⊢;rw[if_pos rfl];dsimp only;obtain⟨a,ca,cs,w,cw,wl,m,cm,at1,qg,cg,aE⟩:=d;unfold bE bB at*;dsimp only[jg,fe] at*;(refine Ye Tryz.func70 Tryz.ntmps70 ?_;intro Fr);refine dN ?_;(refine Ca (LD) ?_;rintro _ _ ⟨_,⟨q1,c1,rfl,rfl⟩,rfl⟩;refine Da ?_);(repeat' (first|refine Wa ?_|refine aF ?_|(refine Wb ?_;intro b)|fail));(refine aI wt rfl (kU (by rfl) (by rfl) (by rfl) (SE _ _ _) (by rfl) PG) ?_;rintro _ _ ⟨_,⟨rfl,rfl⟩,rfl⟩;refine Da ?_);refine aZ ?_;exact Ea (x:=⟨rfl,rfl⟩)
  ·have e1:decide ((n:Int)≠hi)=true:=decide_eq_true hn;rw[e1] at SE ⊢;rw[if_neg (by simp)];rcases hS.kinds n x hx with hk|hk
   ·have hk1:kI l=1:=by rw[hl.kind];exact hk
    rw[if_pos hk];dsimp only;rw[hk1] at LD SE;obtain⟨a,ca,cs,w,cw,wl,m,cm,at1,qg,cg,aE⟩:=d;unfold bE bB at*;dsimp only[jg,fe] at*;(refine Ye Tryz.func70 Tryz.ntmps70 ?_;intro Fr);refine dN ?_;(refine Ca (LD) ?_;rintro _ _ ⟨_,⟨q1,c1,rfl,rfl⟩,rfl⟩;refine Da ?_);(repeat' (first|refine Wa ?_|refine aF ?_|(refine Wb ?_;intro b)|fail));(refine aI wt rfl (kU (by rfl) (by rfl) (by rfl) (SE _ _ _) (by rfl) PG) ?_;rintro _ _ ⟨_,⟨rfl,rfl⟩,rfl⟩;refine Da ?_);refine aZ ?_;exact Ea (x:=⟨rfl,rfl⟩)
   ·have hk2:kI l=2:=by rw[hl.kind];exact hk
    rw[if_neg (by omega)];obtain⟨E,hE,hin⟩:=hS.cC n x hx hk;have hxe:=vW hE;subst hxe;have hEg:=sM hE;have h24:=hEg.1;have EO:=VY b d s t f o n x l hl hk hE;have hch2:=hch hk;rw[hk2] at LD SE EO;obtain⟨R,hR⟩: ∃ R,NL (uQ tab (nL hi) k) at' x.cC at'=R:=⟨_,rfl⟩;rw[hR];have h00:NL (uQ tab (nL hi) k) at' (x.cC.drop 0) at'=R:=hR;clear hv hR hch;obtain⟨a,ca,cs,w,cw,wl,m,cm,at1,qg,cg,aE⟩:=d;unfold bE bB at*;dsimp only[jg,fe] at*;(refine Ye Tryz.func70 Tryz.ntmps70 ?_;intro Fr);refine dN ?_;(refine Ca (LD) ?_;rintro _ _ ⟨_,⟨q1,c1,rfl,rfl⟩,rfl⟩;refine Da ?_);(repeat' (first|refine Wa ?_|refine aF ?_|(refine Wb ?_;intro b)|fail));(refine aI wt rfl (kU (by rfl) (by rfl) (by rfl) (SE _ _ _) (by rfl) PG) ?_;rintro _ _ ⟨_,⟨rfl,rfl⟩,rfl⟩;refine Da ?_);refine dN ?_;(refine Ca (EO _ _) ?_;rintro _ _ ⟨_,⟨qe,ce,rfl,rfl⟩,rfl⟩;refine Da ?_);refine dN ?_;(refine aC (σ:=Nat×List UInt8) (fun y=>y.1≤x.cC.length∧NL (uQ tab (nL hi) k) at' (x.cC.drop y.1) y.2=R) (fun y=>[(44, .int .i64 (y.1:Int))]) (fun y=>[box b6 [.string (str y.2)] 9]) _ (fun y=>x.cC.length-y.1) ((0,at')) (by exact⟨fg _,h00⟩) (by exact gA) Zb (fun⟨j,w2⟩ ⟨hj,hw⟩=> ?_);refine Da ?_);clear h00;dsimp only at hj hw ⊢;rcases iJ x.cC j with⟨⟨nm,p2⟩,hp,hlt⟩|hge
    ·have hmem:=jm hp;have hf:=gE (hEg.2.1 _ hmem);have hf1:=hf.1.2.2.2.1;have hf2:=hf.2.1;dsimp only at hf1 hf2;obtain⟨m2,rfl⟩: ∃ m2:Nat,p2=(m2:Int):=⟨p2.toNat,by omega⟩;rw[aoH hp] at hw;dsimp only at hw;rw[fq] at hw;have hl1:(at'++[47]++nm).length+20*k≤1000:=by rw[ag,ag,List.length_singleton];omega
     have I1:=ih m2 (at'++[47]++nm) w2 (by have:=hch2 _ hmem;dsimp only at this;rwa [fq] at this) hl1;clear hf hE hin hmem ih hch2 LD SE EO;generalize hr:uQ tab (nL hi) k m2 (at'++[47]++nm) w2=r at*;obtain⟨r1,r2⟩:=r;dsimp only at hw I1;have hl2:at'.length≤1000:=by omega
     cases r2 with
     |false=>
      rw[if_pos rfl] at hw;(repeat' (first|refine Wa ?_|refine We ?_|(refine Wb ?_;intro b)|fail));dsimp only[fE]
      skip
      (refine Ca (I1) ?_;rintro _ _ ⟨_,⟨rfl,rfl⟩,rfl⟩;refine Da ?_);refine aZ ?_;exact Ea (x:=⟨by rw[←hw],by rw[←hw]⟩)
     |true=>
      rw[if_neg (by simp)] at hw;(repeat' (first|refine Wa ?_|refine We ?_|(refine Wb ?_;intro b)|fail));dsimp only[fE]
      skip
      (refine Ca (I1) ?_;rintro _ _ ⟨_,⟨rfl,rfl⟩,rfl⟩;refine Da ?_);refine eU ?_;refine Ee ((j+1,r1)) ?_ ?_
      ·exact⟨hlt,hw⟩
      ·dsimp only;omega
    ·have hjl:j=x.cC.length:=by omega
     subst hjl;rw[o8,NL] at hw;refine aZ ?_;exact Ea (x:=⟨by rw[←hw],by rw[←hw]⟩)
end Go.Proofs.YtbjalbcdbgcgdaaGreat.fs
namespace Go.Proofs.YtbjalbcdbgcgdaaGreat.fs
open Go.RowKit bG sl aX fV dE dO use file dir yQ
def pZ (tab:jQ) (k n:Nat):List UInt8:=if (uQ tab (nL (n:Int)) k 0 [] []).1=[] then [47] else (uQ tab (nL (n:Int)) k 0 [] []).1
attribute [local irreducible] box own sl gH aH bC Qt cJ cG dC dG eO
theorem abG (b:Nat) (d:FD) (s t f o:Value) (n:Nat) (g:Int) (hn:n<48) {p:Int×Int} {g0:Int} (hp:d.at'[n]? =some p) (hg:d.aE[n]? =some g0) (h:p.1=0∨g0≠g):
  Ct Tryz.prog 175 [aH b 0, .agg #[.int .i64 (n:Int), .int .i64 g]] (bE b d s t f o::bB d) fun v H'=>v= .tuple #[.string (str []), .int .i64 19]∧H'=[bE b d s t f o]:=by
 have hlp:=(ah.1 hp).1;have hlg:=(ah.1 hg).1;obtain⟨a,ca,cs,w,cw,wl,m,cm,at1,qg,cg,aE⟩:=d;unfold bE bB at*;dsimp only[jg,fe] at*;by_cases h0:p.1=0
 ·clear h;(refine Ye Tryz.func175 Tryz.ntmps175 ?_;intro Fr);(repeat' (first|refine Wa ?_|refine aF ?_|(refine Wb ?_;intro b)|fail));(refine aB (Hq:=[_,_,_,_]) [0,1,4,5] [] rfl (by kernel_rfl) Za ?_);refine KA ?_
  skip
  exact Ea (x:=⟨rfl,rfl⟩)
 ·have h1:=h.resolve_left h0;clear h;(refine Ye Tryz.func175 Tryz.ntmps175 ?_;intro Fr);(repeat' (first|refine Wa ?_|refine aF ?_|(refine Wb ?_;intro b)|fail));(refine aB (Hq:=[_,_,_,_]) [0,1,4,5] [] rfl (by kernel_rfl) Za ?_);refine KA ?_
  skip
  exact Ea (x:=⟨rfl,rfl⟩)
theorem avQ (b:Nat) (d:FD) (s t f o:Value) {tab:jQ} (hL:WO d tab) (hS:Shut tab) {k:Nat} (hD:Deep tab k 0) (hk:k≤40) (n:Nat) (g:Int) (hn:n<48) {p:Int×Int} (hp:d.at'[n]? =some p) (hg:d.aE[n]? =some g) (h0:p.1≠0):
  Ct Tryz.prog 175 [aH b 0, .agg #[.int .i64 (n:Int), .int .i64 g]] (bE b d s t f o::bB d) fun v H'=>v= .tuple #[.string (str (pZ tab k n)), .int .i64 0]∧H'=[bE b d s t f o]:=by
 have V0:=fun b6 b3=>aoI b d s t f o hL hS b6 b3 (n:Int) g k 0 [] [] hD (by rw[List.length_nil];omega)
 unfold pZ;generalize uQ tab (nL (n:Int)) k 0 [] []=r at*;have hz:((0:Nat):Int)=0:=rfl;rw[hz] at V0;obtain⟨r1,r2⟩:=r;have hlp:=(ah.1 hp).1;have hlg:=(ah.1 hg).1;obtain⟨a,ca,cs,w,cw,wl,m,cm,at1,qg,cg,aE⟩:=d;unfold bE bB at*;dsimp only[jg,fe] at*;by_cases hr:r1=[]
 ·rw[if_pos hr];have e0:(r1==[])=true:=by rw[hr];rfl
  (refine Ye Tryz.func175 Tryz.ntmps175 ?_;intro Fr);(repeat' (first|refine Wa ?_|refine aF ?_|(refine Wb ?_;intro b)|fail));(refine aB (Hq:=[_,_,_,_]) [0,1,4,5] [] rfl (by kernel_rfl) Za ?_);(repeat' (first|refine Wa ?_|refine Wk ?_|refine We ?_|(refine Wb ?_;intro b)|fail))
  skip
  (refine Ca (V0 _ _) ?_;rintro _ _ ⟨_,⟨rfl,rfl⟩,rfl⟩;refine Da ?_);refine aZ ?_;exact Ea (x:=⟨rfl,rfl⟩)
 ·rw[if_neg hr];have e0:(r1==[])=false:=by simpa using hr
  (refine Ye Tryz.func175 Tryz.ntmps175 ?_;intro Fr);(repeat' (first|refine Wa ?_|refine aF ?_|(refine Wb ?_;intro b)|fail));(refine aB (Hq:=[_,_,_,_]) [0,1,4,5] [] rfl (by kernel_rfl) Za ?_);(repeat' (first|refine Wa ?_|refine Wk ?_|refine We ?_|(refine Wb ?_;intro b)|fail))
  skip
  (refine Ca (V0 _ _) ?_;rintro _ _ ⟨_,⟨rfl,rfl⟩,rfl⟩;refine Da ?_);refine aZ ?_;exact Ea (x:=⟨rfl,rfl⟩)
end Go.Proofs.YtbjalbcdbgcgdaaGreat.fs
namespace Go.Proofs.YtbjalbcdbgcgdaaGreat.hand
open Go.RowKit bG sl aX dE dO use fs
structure Hd where
 hi:Int
 hg:Int
 qE:Int
 xB:Bool
def Hd.cells (h:Hd):List Value:=[.int .i64 h.hi, .int .i64 h.hg, .int .i64 h.qE, .bool h.xB]
def eR:Hd:=⟨0,0,0,false⟩
def rF (bt b:Nat) (x y:Hd):Ent:=box bt (aH b 0::(x.cells++(y.cells++(eR.cells++eR.cells++eR.cells++eR.cells++eR.cells++eR.cells)))) 102
instance:Arr Tryz.prog 100 8 99:=⟨by kernel_rfl⟩
theorem cS {P:Program} {n:Nat} {F:dF} {H:List Ent} {o:Oper} {x y:Operand} {z':Value} {T:TypeId} {b i k m len e sz by':Nat} {j:Int} {kd:IntKind} {agg:Bool} [ht:Arr P T len e] [hs:Ty P e agg sz by' z'] (ho:o.op= .indexAddr T x y) (hx:ev F x=some (aH b i)) (hy:ev F y=some (.int kd j)) (hj:j=(k:Int)) (hk:k<len) (hm:i+k*sz=m):Qt P n o F H (aH b m):=fun a w ha _=>by
 subst hm;have he:P.elem T=e:=by simp [Program.elem,ht.h]
 have hl:P.arrayLen T=len:=by simp [Program.arrayLen,ht.h]
 have hu:P.underlying T=some (.array (P.arrayLen T) (P.elem T)):=by rw[he,hl];exact ht.h
 have h1:=run_indexAt_array (P:=P) w T ⟨b,i,none⟩ kd j hu;rw[he,hl,cV hs,if_pos ⟨by omega,by omega⟩] at h1;simp only[Result.andThen_ok] at h1;have h2:(⟨b,i,none⟩:Addr).add (j.toNat*sz)=⟨b,i+k*sz,none⟩:=by rw[hj];simp [Addr.add]
 rw[h2] at h1;simp only[execOp,ho,ha.eval hx,ha.eval hy,aH,Sem.run_bind,h1,Result.andThen_ok,Sem.run_pure]
attribute [local irreducible] box own sl gH aH bC Qt cJ cG dC dG eO
theorem NM (bt b:Nat) (x y:Hd) (hx:x.xB=true):Ct Tryz.prog 45 [aH bt 0, .int .i64 0] [rF bt b x y] fun v H'=>v= .int .i64 0∧H'=[rF bt b eR y]:=by
 obtain⟨x1,x2,x3,x4⟩:=x;obtain⟨y1,y2,y3,y4⟩:=y;dsimp only at hx;subst hx;unfold rF eR Hd.cells;dsimp only[jg,fe];(refine Ye Tryz.func45 Tryz.ntmps45 ?_;intro Fr);refine aZ ?_;refine gK 3 rfl wt rfl (cS (k:=0) rfl rfl rfl rfl (by omega) rfl) ?_;refine aZ ?_;refine gK 3 rfl wt rfl (cS (k:=0) rfl rfl rfl rfl (by omega) rfl) ?_;refine aZ ?_;exact Ea (x:=⟨rfl,rfl⟩)
theorem NN (bt b:Nat) (x y:Hd) (hx:x.xB=false):Ct Tryz.prog 45 [aH bt 0, .int .i64 0] [rF bt b x y] fun v H'=>v= .int .i64 12∧H'=[rF bt b x y]:=by
 obtain⟨x1,x2,x3,x4⟩:=x;obtain⟨y1,y2,y3,y4⟩:=y;dsimp only at hx;subst hx;unfold rF eR Hd.cells;dsimp only[jg,fe];(refine Ye Tryz.func45 Tryz.ntmps45 ?_;intro Fr);refine aZ ?_;refine gK 3 rfl wt rfl (cS (k:=0) rfl rfl rfl rfl (by omega) rfl) ?_;refine aZ ?_;exact Ea (x:=⟨rfl,rfl⟩)
theorem EC (bt b:Nat) (d:FD) (s t f o:Value) (x y:Hd) (hx:x.xB=true) {n:Nat} (hxi:x.hi=(n:Int)) (hn:n<48) {p:Int×Int} {g0:Int} (hp:d.at'[n]? =some p) (hg:d.aE[n]? =some g0) (h:p.1=0∨g0≠x.hg):
  Ct Tryz.prog 106 [aH bt 0, .int .i64 0] (rF bt b x y::bE b d s t f o::bB d) fun v H'=>v= .tuple #[.pointer none, .string (str []), .int .i64 19]∧H'=[rF bt b x y,bE b d s t f o]:=by
 have W0:=abG b d s t f o n x.hg hn hp hg h;obtain⟨x1,x2,x3,x4⟩:=x;obtain⟨y1,y2,y3,y4⟩:=y;dsimp only at hx hxi W0;subst hx hxi;clear h;obtain⟨a,ca,cs,w,cw,wl,m,cm,at1,qg,cg,aE⟩:=d;unfold rF eR Hd.cells;unfold bE bB at*;dsimp only[jg,fe] at*;(refine Ye Tryz.func106 Tryz.ntmps106 ?_;intro Fr);refine dN ?_;refine gK 3 rfl wt rfl (cS (k:=0) rfl rfl rfl rfl (by omega) rfl) ?_;refine dN ?_;(refine aB (Hq:=[_]) [0] [] rfl (by kernel_rfl) Za ?_);refine gX ?_;(refine aA 8 ?_;refine aU _ rfl rfl wt (by decide +kernel) iS rfl (cS (k:=0) rfl rfl rfl rfl (by omega) rfl) ?_);refine gX ?_;(refine Cc 11 (W0) ?_;rintro _ _ ⟨_,⟨rfl,rfl⟩,rfl⟩;refine Te ?_;(try refine Da ?_));refine KA ?_;exact Ea (x:=⟨rfl,rfl⟩)
theorem aoJ (bt b:Nat) (d:FD) (s t f o:Value) (x y:Hd) (hx:x.xB=true) {tab:jQ} (hL:WO d tab) (hS:fs.Shut tab) {k:Nat} (hD:Deep tab k 0) (hk:k≤40) {n:Nat} (hxi:x.hi=(n:Int)) (hn:n<48) {p:Int×Int} (hp:d.at'[n]? =some p) (hg:d.aE[n]? =some x.hg) (h0:p.1≠0):
  Ct Tryz.prog 106 [aH bt 0, .int .i64 0] (rF bt b x y::bE b d s t f o::bB d) fun v H'=>v= .tuple #[aH bt 1, .string (str (pZ tab k n)), .int .i64 0]∧H'=[rF bt b x y,bE b d s t f o]:=by
 have W0:=avQ b d s t f o hL hS hD hk n x.hg hn hp hg h0;obtain⟨x1,x2,x3,x4⟩:=x;obtain⟨y1,y2,y3,y4⟩:=y;dsimp only at hx hxi W0;subst hx hxi;generalize pZ tab k n=pth at*;obtain⟨a,ca,cs,w,cw,wl,m,cm,at1,qg,cg,aE⟩:=d;unfold rF eR Hd.cells;unfold bE bB at*;dsimp only[jg,fe] at*;(refine Ye Tryz.func106 Tryz.ntmps106 ?_;intro Fr);refine dN ?_;refine gK 3 rfl wt rfl (cS (k:=0) rfl rfl rfl rfl (by omega) rfl) ?_;refine dN ?_;(refine aB (Hq:=[_]) [0] [] rfl (by kernel_rfl) Za ?_);refine gX ?_;(refine aA 8 ?_;refine aU _ rfl rfl wt (by decide +kernel) iS rfl (cS (k:=0) rfl rfl rfl rfl (by omega) rfl) ?_);refine gX ?_;(refine Cc 11 (W0) ?_;rintro _ _ ⟨_,⟨rfl,rfl⟩,rfl⟩;refine Te ?_;(try refine Da ?_));refine KA ?_;refine gK 3 rfl wt rfl (cS (k:=0) rfl rfl rfl rfl (by omega) rfl) ?_;refine eU ?_;exact Ea (x:=⟨rfl,rfl⟩)
theorem NO (bt b:Nat) (d:FD) (s t f o:Value) (x y:Hd) (hx:x.xB=true) {n:Nat} (hxi:x.hi=(n:Int)) (hn:n<48) {p:Int×Int} {g0:Int} (hp:d.at'[n]? =some p) (hg:d.aE[n]? =some g0) (h:p.1=0∨g0≠x.hg) (z:Int):
  Ct Tryz.prog 44 [aH bt 0, .int .i64 0, .int .i64 z] (rF bt b x y::bE b d s t f o::bB d) fun v H'=>v= .int .i64 19∧H'=[rF bt b x y,bE b d s t f o]:=by
 have G0:=EC bt b d s t f o x y hx hxi hn hp hg h;clear h;obtain⟨a,ca,cs,w,cw,wl,m,cm,at1,qg,cg,aE⟩:=d;unfold rF at*;unfold bE bB at*;dsimp only[jg,fe] at*;generalize x.cells++(y.cells++(eR.cells++eR.cells++eR.cells++eR.cells++eR.cells++eR.cells))=TC at*;(refine Ye Tryz.func44 Tryz.ntmps44 ?_;intro Fr);refine dN ?_;(refine Ca (G0) ?_;rintro _ _ ⟨_,⟨rfl,rfl⟩,rfl⟩;refine Da ?_);refine aZ ?_;exact Ea (x:=⟨rfl,rfl⟩)
theorem NP (bt b:Nat) (d:FD) (s t f o:Value) (x y:Hd) (hx:x.xB=true) {n:Nat} (hxi:x.hi=(n:Int)) (hn:n<48) {p:Int×Int} {g0:Int} (hp:d.at'[n]? =some p) (hg:d.aE[n]? =some g0) (h:p.1=0∨g0≠x.hg) (z:Int):
  Ct Tryz.prog 43 [aH bt 0, .int .i64 0, .int .i64 z] (rF bt b x y::bE b d s t f o::bB d) fun v H'=>v= .tuple #[.string (str []), .int .i64 19]∧H'=[rF bt b x y,bE b d s t f o]:=by
 have G0:=EC bt b d s t f o x y hx hxi hn hp hg h;clear h;obtain⟨a,ca,cs,w,cw,wl,m,cm,at1,qg,cg,aE⟩:=d;unfold rF at*;unfold bE bB at*;dsimp only[jg,fe] at*;generalize x.cells++(y.cells++(eR.cells++eR.cells++eR.cells++eR.cells++eR.cells++eR.cells))=TC at*;(refine Ye Tryz.func43 Tryz.ntmps43 ?_;intro Fr);refine dN ?_;(refine Ca (G0) ?_;rintro _ _ ⟨_,⟨rfl,rfl⟩,rfl⟩;refine Da ?_);refine aZ ?_;exact Ea (x:=⟨rfl,rfl⟩)
theorem GC (bt b:Nat) (d:FD) (s t f o:Value) (x y:Hd) (hx:x.xB=true) {n:Nat} (hxi:x.hi=(n:Int)) (hn:n<48) {p:Int×Int} {g0:Int} (hp:d.at'[n]? =some p) (hg:d.aE[n]? =some g0) (h:p.1=0∨g0≠x.hg) (text:ByteArray):
  Ct Tryz.prog 42 [aH bt 0, .int .i64 0, .string text] (rF bt b x y::bE b d s t f o::bB d) fun v H'=>v= .int .i64 19∧H'=[rF bt b x y,bE b d s t f o]:=by
 have G0:=EC bt b d s t f o x y hx hxi hn hp hg h;clear h;obtain⟨a,ca,cs,w,cw,wl,m,cm,at1,qg,cg,aE⟩:=d;unfold rF at*;unfold bE bB at*;dsimp only[jg,fe] at*;generalize x.cells++(y.cells++(eR.cells++eR.cells++eR.cells++eR.cells++eR.cells++eR.cells))=TC at*;(refine Ye Tryz.func42 Tryz.ntmps42 ?_;intro Fr);refine dN ?_;(refine Ca (G0) ?_;rintro _ _ ⟨_,⟨rfl,rfl⟩,rfl⟩;refine Da ?_);refine aZ ?_;exact Ea (x:=⟨rfl,rfl⟩)
end Go.Proofs.YtbjalbcdbgcgdaaGreat.hand
