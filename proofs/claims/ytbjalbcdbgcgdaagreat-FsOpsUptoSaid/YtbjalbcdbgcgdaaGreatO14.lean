/- FsOps, packed. -/
import Derived.Test.YtbjalbcdbgcgdaaGreatOQ
import Derived.Test.YtbjalbcdbgcgdaaGreatO05
import Derived.Test.YtbjalbcdbgcgdaaGreatO09
import Derived.Test.YtbjalbcdbgcgdaaGreatO11
import Derived.Test.YtbjalbcdbgcgdaaGreatO12
import Derived.Test.YtbjalbcdbgcgdaaGreatO00
import Derived.Test.YtbjalbcdbgcgdaaGreatO08
open List renaming drop_eq_getElem_cons->bh,getElem?_eq_getElem->ak,getElem?_eq_some_iff->aj,length_append->ae,length_singleton->gk
open Nat renaming zero_le->fe
set_option linter.unusedVariables false
set_option maxRecDepth 100000
set_option maxHeartbeats 8000000
namespace Go.Proofs.YtbjalbcdbgcgdaaGreat
open Go.RowKit bA bO cK cO dZ file sl use
namespace fs
def KX (d:FD) (n z k:Nat) (p:Int×Int) (s:List UInt8):Prop:=
 p.1=0∧s=[]∨p.1≠0∧s.length=cX z k∧ ∃ t,iW d.cs d.ps (n:Int) (k:Int) p=(t,0)∧mI.tL s t
def aoK (d:FD) (n z:Nat) (pl:List (Int×Int)) (ps:List (List UInt8)):Prop:=
 pl.length=aQ z∧ps.length=pl.length∧ ∀ k p s,pl[k]? =some p→ps[k]? =some s→KX d n z k p s
attribute [local irreducible] box own sl bL aH bJ Qt cN cM dG dL eQ
theorem IB (b:Nat) (d:FD) (s t f o:Value) (n z:Nat) (kd gn:Int) (q:Option Addr) (c:Nat) (pl:List (Int×Int)) (ps:List (List UInt8)) (hg:bA.Good d.cs d.ps) (hz:z≤4096) (hD:aoK d n z pl ps):
  Ct Tryz.prog 72 [aH b 0, .int .i64 (n:Int), .agg #[.int .i64 kd, .int .i64 gn, .int .i64 (z:Int), .slice q pl.length c]] (bC b d s t f o::sl 2 (.slice q pl.length c) (pl.map jP)::aX d) fun v H'=> ∃ q' c',v= .tuple #[.agg #[.int .i64 (z:Int), .slice q' ps.length c'], .int .i64 0]∧H'=[bC b d s t f o,own (.slice q' ps.length c') 9 1 ps.length (flat fT ps)]:=by
 obtain⟨hl,hpl,hD⟩:=hD;have PT:=fun k p=>RQ d.a d.w d.ca d.cw d.cs d.ps (n:Int) k p hg
 obtain⟨a,ca,cs,w,cw,wl,m,cm,at',qg,cg,aA⟩:=d;have h8:pl.length≤8:=by unfold aQ at hl;omega
 have zx: ∀ k,k<pl.length→512*k<z:=fun k hk=>xR Z8
 unfold bC aX;dsimp only at PT ⊢;(refine Ye Tryz.func72 Tryz.ntmps72 ?_;intro Fr);(repeat' (first|refine Y1 ?_|(refine Wb ?_;intro b)|(refine Wq ?_;intro q)|(refine Ws ?_ ?_<;>intro h)|refine Wz ?_|fail));rename_i b6 b7;refine aO (aS _ 9 1) ?_;(refine aC (σ:=Nat×List (List UInt8)×Option Addr×Nat) (fun x=>x.1≤pl.length∧x.2.1=ps.take x.1∧x.2.1.length=x.1) (fun x=>[(20, .int .i64 (x.1:Int))]) (fun x=>[own (.slice x.2.2.1 x.2.1.length x.2.2.2) 9 1 x.2.1.length (flat fT x.2.1),box b [.int .i64 (z:Int), .slice x.2.2.1 x.2.1.length x.2.2.2] 67]) _ (fun x=>pl.length-x.1) ((0,[],none,0)) (by exact⟨fe _,rfl,rfl⟩) Ze Zb (fun⟨k,out,q2,c2⟩ ⟨hk,ho,zw⟩=> ?_);refine Da ?_);dsimp only at hk ho zw ⊢;rcases dW pl k with⟨p,hp,hlt⟩|hge
 ·obtain⟨x,hx⟩: ∃ x,ps[k]? =some x:=⟨_,ak Z8⟩;have zy:=hD k p x hp hx;have zu:ps.take (k+1)=out++[x]:=by rw[List.take_add_one,hx,ho];rfl
  have hz512:=zx k hlt;rcases zy with⟨h0,rfl⟩|⟨h0,zt,tt,zv,zr⟩
  ·clear hD zx ho;(repeat' (first|refine Y1 ?_|(refine Wb ?_;intro b)|(refine Wq ?_;intro q)|(refine Ws ?_ ?_<;>intro h)|refine Wz ?_|fail));refine aL wt rfl (by first|exact Ma (fT) [([]:List UInt8)] rfl|exact Mb (fT) [([]:List UInt8)] rfl) ?_;rintro _ _ ⟨q5,c5,rfl,rfl⟩;refine aF ?_;refine Ee ((k+1,out++[[]],q5,c5)) ?_ ?_
   ·exact⟨hlt,zu.symm,by dsimp only;rw[ae,gk,zw]⟩
   ·dsimp only;omega
  ·have P0:=PT (k:Int) p;dsimp only at zv;rw[zv] at P0;dsimp only at P0;have zq:x.length≤512:=by rw[zt];exact jX z k
   have O0:=mI.QY zq zr;unfold cX at zt;clear hD zx ho zv zr PT;(repeat' (first|refine Y1 ?_|(refine Wb ?_;intro b)|(refine Wq ?_;intro q)|refine Wc (P0 ..) ?_|refine Wc (O0 ..) ?_|(refine Ws ?_ ?_<;>intro h)|refine Wz ?_|fail));refine aL wt rfl (by first|exact Ma (fT) [x] rfl|exact Mb (fT) [x] rfl) ?_;rintro _ _ ⟨q5,c5,rfl,rfl⟩;refine aF ?_;refine Ee ((k+1,out++[x],q5,c5)) ?_ ?_
   ·exact⟨hlt,zu.symm,by dsimp only;rw[ae,gk,zw]⟩
   ·dsimp only;omega
 ·have hkl:k=pl.length:=Z8
  rw[List.take_of_length_le Z8] at ho;subst ho;clear hD zx;refine aF ?_;exact Ea (x:=⟨q2,c2,rfl,rfl⟩)
end fs
namespace fs
open dir uU
structure Nd where
 kind:Int
 gen:Int
 size:Nat
 parts:List (List UInt8)
def Nd.bytes (x:Nd):List UInt8:=lN x.size x.parts
def Nd.aP (x:Nd):List bH:=(iY x.bytes).getD []
abbrev cT:=Nat→Option Nd
structure eN (d:FD) (n:Nat) (x:Nd) (l:List UInt8):Prop where
 told:Told d n l
 kind:kI l=x.kind
 gen:gI l=x.gen
 size:zI l=(x.size:Int)
 small:x.size≤4096
 data:aoK d n x.size (pI l) x.parts
theorem uV {d:FD} {n z:Nat} {pl:List (Int×Int)} {ps:List (List UInt8)} (h:aoK d n z pl ps) (hz:z≤4096):gA z ps:=by
 obtain⟨h1,h2,h3⟩:=h;refine⟨hz,by rw[h2,h1],fun i s hs zy=> ?_⟩;obtain⟨p,hp⟩: ∃ p,pl[i]? =some p:=⟨_,ak (by have:=(aj.1 hs).1;omega)⟩;rcases h3 i p s hp hs with⟨_,h⟩|⟨_,h,_⟩
 ·exact absurd h zy
 ·exact h
structure Lie (d:FD) (tab:cT):Prop where
 mM:bA.Good d.cs d.ps
 map:eT d.at' d.aA
 none: ∀ n,n<48→tab n=none→d.at'[n]? =some (0,0)
 some: ∀ n x,tab n=some x→ ∃ l,eN d n x l
theorem aeD {d:FD} {tab:cT} (h:Lie d tab) {n:Nat} {x:Nd} (hx:tab n=some x):n<48:=by
 obtain⟨l,hl⟩:=h.some n x hx;exact hl.told.lt
structure Shut (tab:cT):Prop where
 kinds: ∀ n x,tab n=some x→x.kind=1∨x.kind=2
 aP: ∀ n x,tab n=some x→x.kind=2→ ∃ E,iY x.bytes=some E∧ ∀ p∈E, ∃ y,tab p.2.toNat=some y
 root: ∃ x,tab 0=some x∧x.kind=2
def aJ (tab:cT) (n:Nat):List (List UInt8)→Int×Nat
 |[]=>(0,n)
 |s::r=>match tab n with
  |none=>(18,0)
  |some x=>if x.kind≠2 then (15,0) else if cS x.aP s≠0 then (cS x.aP s,0) else aJ tab (jN x.aP s).toNat r
theorem axX (n:Nat) (ps:List (List UInt8)):iT n ps 0 n=lN n ps:=by
 unfold iT lN;rw[Nat.sub_zero,Nat.min_self];congr 1;funext j;rw[Nat.zero_add]
attribute [local irreducible] box own sl bL aH bJ Qt cN cM dG dL eQ
theorem zW (b:Nat) (d:FD) (s t f o:Value) (n:Int) (k gn z:Int) (hk:k≠2) (q:Option Addr) (m c:Nat):
  Ct Tryz.prog 148 [aH b 0, .int .i64 n, .agg #[.int .i64 k, .int .i64 gn, .int .i64 z, .slice q m c]] [bC b d s t f o] fun v H'=>v= .tuple #[.slice none 0 0, .int .i64 15]∧H'=[bC b d s t f o]:=by
 unfold bC;(refine Ye Tryz.func148 Tryz.ntmps148 ?_;intro Fr);(refine fH ?_;intro b);exact Ea (x:=⟨rfl,rfl⟩)
theorem wJ (b:Nat) (d:FD) (s t f o:Value) (n:Nat) (x:Nd) (l:List UInt8) (h:eN d n x l) (hk:x.kind=2) {E:List bH} (hE:iY x.bytes=some E) (q:Option Addr) (c:Nat):
  Ct Tryz.prog 148 [aH b 0, .int .i64 (n:Int), .agg #[.int .i64 (kI l), .int .i64 (gI l), .int .i64 (zI l), .slice q (pI l).length c]] (bC b d s t f o::sl 2 (.slice q (pI l).length c) ((pI l).map jP)::aX d) fun v H'=> ∃ q' c',v= .tuple #[.slice q' E.length c', .int .i64 0]∧H'=[bC b d s t f o,own (.slice q' E.length c') 204 2 E.length (flat fE E)]:=by
 have zy:=uV h.data h.small;have D0:=IB b d s t f o n x.size x.kind x.gen q c (pI l) x.parts h.told.mM h.small h.data;have R0:=fun q c=>asJ q c x.size x.parts zy 0 x.size Z8 (by have:=h.small;omega)
 rw[axX] at R0;have hbl:x.bytes.length≤4096:=by unfold Nd.bytes;rw[iI];exact h.small
 have RD:Ct Tryz.prog 215 [.string (str x.bytes)] [] fun v H'=> ∃ q c,v= .tuple #[.slice q E.length c, .int .i64 0]∧H'=[own (.slice q E.length c) 204 2 E.length (flat fE E)]:=bY (dir.rI x.bytes Z8) fun v H' h2=>by
  rcases h2 with⟨zs,q,c,e,h3,h4⟩|⟨e,_⟩
  ·rw[hE] at e;cases e;exact⟨q,c,h3,h4⟩
  ·rw[hE] at e;cases e
 rw[h.kind,h.gen,h.size,hk];rw[hk] at D0;have zx:lN x.size x.parts=x.bytes:=rfl;rw[zx] at R0;have zw:((0:Nat):Int)=0:=rfl;rw[zw] at R0;obtain⟨a,ca,cs,w,cw,wl,m,cm,at',qg,cg,aA⟩:=d;unfold bC aX at*;dsimp only at D0 ⊢;generalize x.bytes=B at*;clear h hE zy zx zw;(refine Ye Tryz.func148 Tryz.ntmps148 ?_;intro Fr);(refine bD ?_;intro b);(refine aD (Hq:=[_]) [0] [] rfl Jd Za ?_);refine dP ?_;(refine aB 5 ?_;refine cD 9 Jd ?_ ?_)
 ·(refine Cd 5 (D0) ?_;rintro _ _ ⟨_,⟨q5,c5,rfl,rfl⟩,rfl⟩;refine Te ?_;(try refine Da ?_));(refine auE ?_;intro b);(refine Ca (RD) ?_;rintro _ _ ⟨_,⟨q6,c6,rfl,rfl⟩,rfl⟩;refine Da ?_);refine aF ?_;exact Ea (x:=⟨q6,c6,rfl,rfl⟩)
 ·(refine Oc (l:=by exact gV rfl) (k:= ?_);rintro _ _ ⟨b5,rfl,rfl⟩;refine Te ?_;(try refine Da ?_));refine dP ?_;(refine Cc 5 (D0) ?_;rintro _ _ ⟨_,⟨q5,c5,rfl,rfl⟩,rfl⟩;refine Te ?_;(try refine Da ?_));refine aBS ?_;(refine Ca (RD) ?_;rintro _ _ ⟨_,⟨q6,c6,rfl,rfl⟩,rfl⟩;refine Da ?_);refine aF ?_;exact Ea (x:=⟨q6,c6,rfl,rfl⟩)
def nV (b:Nat) (d:FD) (s t f o:Value) (tab:cT) (r:Int×Nat) (v:Value) (H':List Ent):Prop:=
 (r.1≠0∧v= .tuple #[.int .i64 0, .agg #[.int .i64 0, .int .i64 0, .int .i64 0, .slice none 0 0], .int .i64 r.1]∧H'=[bC b d s t f o])∨
 (∃ x l q c,(r.1=0∧tab r.2=some x∧eN d r.2 x l)∧v= .tuple #[.int .i64 (r.2:Int), .agg #[.int .i64 (kI l), .int .i64 (gI l), .int .i64 (zI l), .slice q (pI l).length c], .int .i64 0]∧H'=[bC b d s t f o,own (.slice q (pI l).length c) 77 2 (pI l).length (flat jP (pI l))])
theorem sY {x:Nd} {E:List bH} (h:iY x.bytes=some E):x.aP=E:=by unfold Nd.aP;rw[h];rfl
theorem axY {E:List bH} {s:List UInt8} (h:cS E s=0): ∃ p∈E,jN E s=p.2:=by
 obtain⟨h1,h2,h3⟩:=iJ h;have hlt:=DG h3;refine⟨E[gP E s],List.getElem_mem hlt, ?_⟩;unfold jN;rw[Jg h,ak hlt]
theorem mU {s:List UInt8} {E:List bH} (h:iY s=some E):kY E:=(eI E).1 (vM h).1
theorem aoO {tab:cT} {n:Nat} {L:List (List UInt8)} {k:Nat} {s:List UInt8} {x:Nd} (hs:L[k]? =some s) (hx:tab n=some x):aJ tab n (L.drop k)=if x.kind≠2 then (15,0) else if cS x.aP s≠0 then (cS x.aP s,0) else aJ tab (jN x.aP s).toNat (L.drop (k+1)):=by
 obtain⟨h1,e1⟩:=aj.1 hs;rw[bh h1,e1,aJ,hx]
attribute [local irreducible] aJ cS jN
theorem iK (b:Nat) (d:FD) (s t f o:Value) (tab:cT) (hL:Lie d tab) (hS:Shut tab) (qL:Option Addr) (cL:Nat) (L:List (List UInt8)) (hl1:L.length≤1000000) (zj: ∀ s∈L,s.length≤1000000):
  Ct Tryz.prog 63 [aH b 0, .slice qL L.length cL] (bC b d s t f o::sl 1 (.slice qL L.length cL) (L.map fT)::aX d) (nV b d s t f o tab (aJ tab 0 L)):=by
 obtain⟨x0,zt,zh⟩:=hS.root;obtain⟨l0,zr⟩:=hL.some 0 x0 zt;have LD:=fun n l (h:Told d n l)=>adA b d s t f o n h
 have L0:=LD 0 l0 zr.told;have EF:=fun n k gn z (hk:k≠2) q m c=>zW b d s t f o n k gn z hk q m c
 have EO:=fun n x l (h:eN d n x l) hk E hE q c=>wJ b d s t f o n x l h hk (E:=E) hE q c
 obtain⟨R,hR⟩: ∃ R,aJ tab 0 L=R:=⟨_,rfl⟩;rw[hR];have BAD: ∀ e:Int,e≠0→R=(e,0)→nV b d s t f o tab R (.tuple #[.int .i64 0, .agg #[.int .i64 0, .int .i64 0, .int .i64 0, .slice none 0 0], .int .i64 e]) [bC b d s t f o]:=fun e he h=> .inl ⟨by rw[h];exact he,by rw[h],rfl⟩
 have YES: ∀ n x l q c,R=(0,n)→tab n=some x→eN d n x l→nV b d s t f o tab R (.tuple #[.int .i64 (n:Int), .agg #[.int .i64 (kI l), .int .i64 (gI l), .int .i64 (zI l), .slice q (pI l).length c], .int .i64 0]) [bC b d s t f o,own (.slice q (pI l).length c) 77 2 (pI l).length (flat jP (pI l))]:=fun n x l q c h hx hl=> .inr ⟨x,l,q,c,by rw[h];exact⟨rfl,hx,hl⟩,by rw[h],rfl⟩
 refine gH (R:=nV b d s t f o tab R) ?_ fun _ _ h=>h
 generalize nV b d s t f o tab R=RR at*;have zm:((0:Nat):Int)=0:=rfl;rw[zm] at L0;have h00:aJ tab 0 (L.drop 0)=R:=hR;have zx: ∃ x,tab 0=some x∧eN d 0 x l0:=⟨x0,zt,zr⟩;clear hR zt zh zr zm;obtain⟨a,ca,cs,w,cw,wl,m,cm,at',qg,cg,aA⟩:=d;unfold bC aX at*;dsimp only at LD L0 EF EO BAD YES ⊢;(refine Ye Tryz.func63 Tryz.ntmps63 ?_;intro Fr);(refine fH ?_;intro b);(refine Ca (L0) ?_;rintro _ _ ⟨_,⟨q1,c1,rfl,rfl⟩,rfl⟩;refine Da ?_);(refine fH ?_;intro b);(refine aC (σ:=Nat×Nat×List UInt8×Option Addr×Nat) (fun y=>y.1≤L.length∧(∃ x,tab y.2.1=some x∧eN ⟨a,ca,cs,w,cw,wl,m,cm,at',qg,cg,aA⟩ y.2.1 x y.2.2.1)∧aJ tab y.2.1 (L.drop y.1)=R) (fun y=>[(22, .int .i64 (y.1:Int)),(7, .int .i64 (y.2.1:Int)),(9, .int .i64 0)]) (fun y=>[box b [.int .i64 (kI y.2.2.1), .int .i64 (gI y.2.2.1), .int .i64 (zI y.2.2.1), .slice y.2.2.2.1 (pI y.2.2.1).length y.2.2.2.2] 79,own (.slice y.2.2.2.1 (pI y.2.2.1).length y.2.2.2.2) 77 2 (pI y.2.2.1).length (flat jP (pI y.2.2.1))]) _ (fun y=>L.length-y.1) ((0,0,l0,q1,c1)) (by exact⟨fe _,zx,h00⟩) Ze Zb (fun⟨k,n,l,q,c⟩ ⟨hk,⟨x,hx,zu⟩,hw⟩=> ?_);refine Da ?_);clear zx h00 L0;dsimp only at hk hx zu hw ⊢;rcases dW L k with⟨nm,zl,hlt⟩|hge
 ·have hnl:=zj nm (List.mem_of_getElem? zl);rw[aoO zl hx] at hw;by_cases zw:x.kind=2
  ·obtain⟨E,hE,zq⟩:=hS.aP n x hx zw;have zv:=mU hE;have E0:=fun q c=>EO n x l zu zw E hE q c
   have FN:=fun q c=>dir.yC q c E nm (by have:=zv.1;omega) (fun p hp=>by have:=(cQ (zv.2.1 p hp)).1.2.2.2.1;omega) Z8
   rw[Jf (by simp [zw]),sY hE] at hw;by_cases hf:cS E nm=0
   ·rw[Jf ZV] at hw;obtain⟨p,hp,zn⟩:=axY hf;obtain⟨y,hy⟩:=zq p hp;obtain⟨l2,zy⟩:=hL.some _ y hy;have zg:=(cQ (zv.2.1 p hp)).2.1;rw[zn] at hw;rw[hf,zn] at FN;obtain⟨n2,zk⟩: ∃ n2:Nat,p.2=(n2:Int):=⟨p.2.toNat,Z8⟩;rw[zk] at FN hw hy zy;rw[Int.toNat_natCast] at hw hy zy;have L1:=LD n2 l2 zy.told;clear zv hE zq hf zn hp zg zk;refine aF ?_;(refine Ca (E0 _ _) ?_;rintro _ _ ⟨_,⟨q5,c5,rfl,rfl⟩,rfl⟩;refine Da ?_);refine agD ?_;(refine Ca (L1) ?_;rintro _ _ ⟨_,⟨q6,c6,rfl,rfl⟩,rfl⟩;refine Da ?_);refine aF ?_;refine Ee ((k+1,n2,l2,q6,c6)) ?_ ?_
    ·exact⟨hlt,⟨y,hy,zy⟩,hw⟩
    ·dsimp only;omega
   ·rw[Jg hf] at hw;have hb:=BAD _ hf hw.symm;clear zv hE zq;generalize cS E nm=e at*;generalize jN E nm=v at*;refine aF ?_;(refine Ca (E0 _ _) ?_;rintro _ _ ⟨_,⟨q5,c5,rfl,rfl⟩,rfl⟩;refine Da ?_);refine agD ?_;exact Ea (x:=hb)
  ·rw[Jg zw] at hw;have hb:=BAD 15 Z9 hw.symm;have E0:=fun q c=>EF (n:Int) (kI l) (gI l) (zI l) (by rw[zu.kind];exact zw) q (pI l).length c
   refine aF ?_;(refine Ca (E0 _ _) ?_;rintro _ _ ⟨_,⟨rfl,rfl⟩,rfl⟩;refine Da ?_);refine aF ?_;exact Ea (x:=hb)
 ·have zf:k=L.length:=Z8
  subst zf;rw[List.drop_length] at hw;have hy:=YES n x l q c (by rw[←hw];unfold aJ;rfl) hx zu;refine aM ?_;(refine aD (Hq:=[_]) [0] [] rfl Jd Za ?_);refine aF ?_;exact Ea (x:=hy)
end fs
namespace fs
open dir uU
def yG (b:Nat) (d:FD) (s t f o:Value) (tab:cT) (nm:List UInt8) (r:Int×Nat) (v:Value) (H':List Ent):Prop:=
 (r.1≠0∧v= .tuple #[.int .i64 0, .agg #[.int .i64 0, .int .i64 0, .int .i64 0, .slice none 0 0], .slice none 0 0, .string (str []), .int .i64 r.1]∧H'=[bC b d s t f o])∨
 (∃ x l q c,(r.1=0∧tab r.2=some x∧eN d r.2 x l∧x.kind≠2)∧v= .tuple #[.int .i64 (r.2:Int), .agg #[.int .i64 (kI l), .int .i64 (gI l), .int .i64 (zI l), .slice q (pI l).length c], .slice none 0 0, .string (str nm), .int .i64 15]∧H'=[bC b d s t f o,own (.slice q (pI l).length c) 77 2 (pI l).length (flat jP (pI l))])∨
 (∃ x l q c qe ce,(r.1=0∧tab r.2=some x∧eN d r.2 x l∧x.kind=2∧iY x.bytes=some x.aP)∧v= .tuple #[.int .i64 (r.2:Int), .agg #[.int .i64 (kI l), .int .i64 (gI l), .int .i64 (zI l), .slice q (pI l).length c], .slice qe x.aP.length ce, .string (str nm), .int .i64 0]∧H'=[bC b d s t f o,own (.slice q (pI l).length c) 77 2 (pI l).length (flat jP (pI l)),own (.slice qe x.aP.length ce) 204 2 x.aP.length (flat fE x.aP)])
attribute [local irreducible] box own sl bL aH bJ Qt cN cM dG dL eQ
theorem qZ (b:Nat) (d:FD) (s t f o:Value) (tab:cT) (hL:Lie d tab) (hS:Shut tab) (qL:Option Addr) (cL:Nat) (L:List (List UInt8)) (hl1:L.length≤1000000) (zv: ∀ s∈L,s.length≤1000000) {nm:List UInt8} {k:Nat} (hk:L.length=k+1) (hnm:L[k]? =some nm):
  Ct Tryz.prog 137 [aH b 0, .slice qL L.length cL] (bC b d s t f o::sl 1 (.slice qL L.length cL) (L.map fT)::aX d) (yG b d s t f o tab nm (aJ tab 0 (L.take k))):=by
 have W0:=iK b d s t f o tab hL hS qL cL (L.take k) ZH (fun s hs=>zv s (List.mem_of_mem_take hs));rw[show (L.take k).length=k from by rw[List.length_take];omega] at W0;have EF:=fun n kk gn z (hk:kk≠2) q m c=>zW b d s t f o n kk gn z hk q m c
 have EO:=fun n x l (h:eN d n x l) hk E hE q c=>wJ b d s t f o n x l h hk (E:=E) hE q c
 obtain⟨R,hR⟩: ∃ R,aJ tab 0 (L.take k)=R:=⟨_,rfl⟩;rw[hR] at W0 ⊢;unfold yG;obtain⟨re,rn⟩:=R;have zw:((L.length:Int)-1)=((k:Nat):Int):=Z8
 unfold nV at W0;have XW:Xcl fun v H'=>(re≠0∧v= .tuple #[.int .i64 0, .agg #[.int .i64 0, .int .i64 0, .int .i64 0, .slice none 0 0], .int .i64 re]∧H'=[bC b d s t f o])∨
 (∃ x l q c,(re=0∧tab rn=some x∧eN d rn x l)∧v= .tuple #[.int .i64 (rn:Int), .agg #[.int .i64 (kI l), .int .i64 (gI l), .int .i64 (zI l), .slice q (pI l).length c], .int .i64 0]∧H'=[bC b d s t f o,own (.slice q (pI l).length c) 77 2 (pI l).length (flat jP (pI l))]):=by infer_instance
 obtain⟨a,ca,cs,w,cw,wl,m,cm,at',qg,cg,aA⟩:=d;unfold bC aX at*;dsimp only at W0 EF EO XW ⊢;(refine Ye Tryz.func137 Tryz.ntmps137 ?_;intro Fr);(refine iB ?_;intro b);rw[zw];refine oI 12 rfl wt rfl (tY (m:=k) rfl rfl rfl aU rfl Z8) ?_
 skip
 (refine Ca (W0) ?_;rintro _ _ ⟨_,hr,rfl⟩;(try refine Da ?_));rcases hr with⟨h0,rfl,rfl⟩|⟨x,l,q,c,⟨rfl,hx,zx⟩,rfl,rfl⟩
 ·refine Da ?_;(refine bF ?_;intro b);exact Ea (x:= .inl ⟨h0,rfl,rfl⟩)
 ·refine Da ?_;by_cases zy:x.kind=2
  ·obtain⟨E,hE,hin⟩:=hS.aP rn x hx zy;have zu:=sY hE;subst zu;have E0:=fun q c=>EO rn x l zx zy _ hE q c
   (refine iB ?_;intro b);(refine Ca (E0 _ _) ?_;rintro _ _ ⟨_,⟨qe,ce,rfl,rfl⟩,rfl⟩;refine Da ?_);refine kB ?_;(refine aD (Hq:=[_,_]) [2,5] [] rfl Jd Za ?_);refine jV ?_;(refine aB 7 ?_;refine bN _ rfl rfl wt Je kA rfl (lF (i:=k) rfl rfl rfl aU zw ZA) ?_);refine sO ?_
   skip
   exact Ea (x:= .inr (.inr ⟨x,l,q,c,qe,ce,⟨rfl,hx,zx,zy,hE⟩,rfl,rfl⟩))
  ·have E0:=fun q c=>EF (rn:Int) (kI l) (gI l) (zI l) (by rw[zx.kind];exact zy) q (pI l).length c
   (refine iB ?_;intro b);(refine Ca (E0 _ _) ?_;rintro _ _ ⟨_,⟨rfl,rfl⟩,rfl⟩;refine Da ?_);refine kB ?_;(refine aD (Hq:=[_,_]) [1,4] [] rfl Jd Za ?_);refine jV ?_;(refine aB 7 ?_;refine bN _ rfl rfl wt Je kA rfl (lF (i:=k) rfl rfl rfl aU zw ZA) ?_);refine sO ?_
   skip
   exact Ea (x:= .inr (.inl ⟨x,l,q,c,⟨rfl,hx,zx,zy⟩,rfl,rfl⟩))
end fs
namespace fs
open dir uU
section
variable {σ:Type}
def yH (f:Nat→List UInt8→σ→σ×Bool) (at':List UInt8):List bH→σ→σ×Bool
 |[],s=>(s,true)
 |p::t,s=>if (f p.2.toNat (at'++[47]++p.1) s).2=false then ((f p.2.toNat (at'++[47]++p.1) s).1,false) else yH f at' t (f p.2.toNat (at'++[47]++p.1) s).1
def oR (tab:cT) (step:σ→Nat→List UInt8→Nd→σ×Bool):Nat→Nat→List UInt8→σ→σ×Bool
 |0,_,_,s=>(s,false)
 |k+1,n,at',s=>match tab n with
  |none=>(s,false)
  |some x=>if (step s n at' x).2=false then ((step s n at' x).1,false) else if x.kind=1 then ((step s n at' x).1,true) else yH (oR tab step k) at' x.aP (step s n at' x).1
end
def Deep (tab:cT):Nat→Nat→Prop
 |0,_=>False
 |k+1,n=> ∃ x,tab n=some x∧(x.kind=2→ ∀ p∈x.aP,Deep tab k p.2.toNat)
theorem ayH {σ:Type} {f:Nat→List UInt8→σ→σ×Bool} {at':List UInt8} {E:List bH} {j:Nat} {p:bH} {s:σ} (h:E[j]? =some p):yH f at' (E.drop j) s=if (f p.2.toNat (at'++[47]++p.1) s).2=false then ((f p.2.toNat (at'++[47]++p.1) s).1,false) else yH f at' (E.drop (j+1)) (f p.2.toNat (at'++[47]++p.1) s).1:=by
 obtain⟨h1,e1⟩:=aj.1 h;rw[bh h1,e1,yH]
end fs
