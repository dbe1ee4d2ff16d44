/- FsOps, packed. -/
import Derived.Test.YtbjalbcdbgcgdaaGreatOQ
import Derived.Test.YtbjalbcdbgcgdaaGreatO17
import Derived.Test.YtbjalbcdbgcgdaaGreatO00
open Go.Proofs.Tryz renaming prog->lk
open List renaming cons_append->dw,getElem?_eq_getElem->ak,getElem_of_mem->afa,length_cons->dv,length_nil->gr,nil_append->dz
set_option linter.unusedVariables false
set_option maxRecDepth 100000
set_option maxHeartbeats 8000000
namespace Go.Proofs.YtbjalbcdbgcgdaaGreat
open Go.RowKit bA bO cK cO dZ file sl uU use
namespace fs
open dir
def DR (e:Int) (t:List UInt8) (k n:Int) (q:Option Addr) (m c:Nat):Value:= .agg #[.int .i64 e, .string (str t), .int .i64 k, .int .i64 n, .slice q m c]
theorem apF {E:List bH} {i:Nat} {p:bH} (h:E[i]? =some p):(E.take (i+1)).map (·.1)=(E.take i).map (·.1)++[p.1]:=by
 rw[List.take_add_one,h,List.map_append];rfl
attribute [local irreducible] box own sl bL aH bJ Qt cN cM dG dL eQ
theorem azC (b:Nat) (d:FD) (s t f o:Value) (n k gn z:Int) (hk:k≠2) (q:Option Addr) (m c:Nat):
  Ct lk 64 [aH b 0, .int .i64 n, .agg #[.int .i64 k, .int .i64 gn, .int .i64 z, .slice q m c]] [bC b d s t f o] fun v H'=>v=eS 15∧H'=[bC b d s t f o]:=by
 have EF:=zW b d s t f o n k gn z hk q m c;have FA:=gX;unfold eS at FA ⊢;unfold bC at*;(refine Ye Tryz.func64 Tryz.ntmps64 ?_;intro Fr);(repeat' (first|refine Y2 ?_|(refine Wb ?_;intro b)|(refine Wq ?_;intro q)|(refine Ws ?_ ?_<;>intro h)|refine Wz ?_|fail));(refine Ca (EF) ?_;rintro _ _ ⟨_,⟨rfl,rfl⟩,rfl⟩;refine Da ?_);refine lG ?_;exact Ea (x:=⟨rfl,rfl⟩)
theorem aHV (b:Nat) (d:FD) (s t f o:Value) (n:Nat) (x:Nd) (l:List UInt8) (h:eN d n x l) (hk:x.kind=2) (hE:iY x.bytes=some x.aP) (q:Option Addr) (c:Nat):
  Ct lk 64 [aH b 0, .int .i64 (n:Int), .agg #[.int .i64 (kI l), .int .i64 (gI l), .int .i64 (zI l), .slice q (pI l).length c]] (bC b d s t f o::sl 2 (.slice q (pI l).length c) ((pI l).map jP)::aX d) fun v H'=> ∃ q' c',v=DR 0 [] 0 0 q' (x.aP.map (·.1)).length c'∧H'=[bC b d s t f o,own (.slice q' (x.aP.map (·.1)).length c') 9 1 (x.aP.map (·.1)).length (flat fT (x.aP.map (·.1)))]:=by
 have EO:=wJ b d s t f o n x l h hk hE q c;have zv:=mU hE;have h24:=zv.1;have zu:= @apF x.aP;have hln:(x.aP.map (·.1)).length=x.aP.length:=List.length_map ..;have h00:([]:List (List UInt8))=(x.aP.take 0).map (·.1):=rfl;have zx:(x.aP.take x.aP.length).map (·.1)=x.aP.map (·.1):=by rw[List.take_length]
 unfold DR;obtain⟨a,ca,cs,w,cw,wl,m,cm,at1,qg,cg,aA⟩:=d;unfold bC aX at*;dsimp only[dw,dz] at*;generalize x.aP=E at*;generalize kI l=k1 at*;generalize gI l=g1 at*;generalize zI l=z1 at*;clear h hE;(refine Ye Tryz.func64 Tryz.ntmps64 ?_;intro Fr);(repeat' (first|refine Y2 ?_|(refine Wb ?_;intro b)|(refine Wq ?_;intro q)|(refine Ws ?_ ?_<;>intro h)|refine Wz ?_|fail));(refine Ca (EO) ?_;rintro _ _ ⟨_,⟨qe,ce,rfl,rfl⟩,rfl⟩;refine Da ?_);(refine bD ?_;intro b);refine aO (aS _ 9 1) ?_;(refine aC (σ:=Nat×List (List UInt8)×Option Addr×Nat) (fun y=>y.1≤E.length∧y.2.1=(E.take y.1).map (·.1)∧y.2.1.length=y.1) (fun y=>[(25, .int .i64 (y.1:Int))]) (fun y=>[box b [.int .i64 0, .string (str []), .int .i64 0, .int .i64 0, .slice y.2.2.1 y.2.1.length y.2.2.2] 31,own (.slice y.2.2.1 y.2.1.length y.2.2.2) 9 1 y.2.1.length (flat fT y.2.1)]) _ (fun y=>E.length-y.1) ((0,[],none,0)) (by exact⟨Nat.zero_le _,h00,rfl⟩) Ze Zb (fun⟨i,ns,q2,c2⟩ ⟨hi,zy,zw⟩=> ?_);refine Da ?_);clear h00;dsimp only at hi zy zw ⊢;rcases dW E i with⟨⟨nm,p2⟩,hp,hlt⟩|hge
 ·have hst:=zu hp;rw[←zy] at hst;(repeat' (first|refine Y1 ?_|(refine Wb ?_;intro b)|(refine Wq ?_;intro q)|(refine Ws ?_ ?_<;>intro h)|refine Wz ?_|fail));dsimp only[fE];refine aF ?_;(refine aL wt Jb (by first|exact Ma (fT) [nm] rfl|exact Mb (fT) [nm] rfl) ?_;rintro _ _ ⟨q5,c5,rfl,rfl⟩);refine aF ?_;refine Ee ((i+1,ns++[nm],q5,c5)) ?_ ?_
  ·exact⟨hlt,hst.symm,by rw[List.length_append,zw];rfl⟩
  ·dsimp only;omega
 ·obtain rfl:i=E.length:=Z8
  rw[zx] at zy;subst zy;refine aF ?_;exact Ea (x:=⟨_,_,rfl,rfl⟩)
theorem aHW (b:Nat) (d:FD) (s t f o:Value) (n:Nat) (x:Nd) (l:List UInt8) (h:eN d n x l) (hk:x.kind=2) (hE:iY x.bytes=some x.aP) (q:Option Addr) (c:Nat):
  Ct lk 65 [aH b 0, .int .i64 (n:Int), .agg #[.int .i64 2, .int .i64 (gI l), .int .i64 (zI l), .slice q (pI l).length c]] (bC b d s t f o::sl 2 (.slice q (pI l).length c) ((pI l).map jP)::aX d) fun v H'=>v=DR 0 [] 2 (x.aP.length:Int) none 0 0∧H'=[bC b d s t f o]:=by
 have EO:=wJ b d s t f o n x l h hk hE q c;rw[show kI l=2 from by rw[h.kind];exact hk] at EO;unfold DR;obtain⟨a,ca,cs,w,cw,wl,m,cm,at1,qg,cg,aA⟩:=d;unfold bC aX at*;dsimp only[dw,dz] at*;(refine Ye Tryz.func65 Tryz.ntmps65 ?_;intro Fr);(repeat' (first|refine Y2 ?_|(refine Wb ?_;intro b)|(refine Wq ?_;intro q)|(refine Ws ?_ ?_<;>intro h)|refine Wz ?_|fail));(refine Ca (EO) ?_;rintro _ _ ⟨_,⟨qe,ce,rfl,rfl⟩,rfl⟩;refine Da ?_);refine aF ?_;exact Ea (x:=⟨rfl,rfl⟩)
theorem apG (b:Nat) (d:FD) (s t f o:Value) (qL:Option Addr) (mL cL:Nat) (n k gn z:Int) (hk:k≠2) (q:Option Addr) (m c:Nat):
  Ct lk 67 [aH b 0, .slice qL mL cL, .int .i64 n, .agg #[.int .i64 k, .int .i64 gn, .int .i64 z, .slice q m c]] [bC b d s t f o] fun v H'=>v= .int .i64 15∧H'=[bC b d s t f o]:=by
 have EF:=zW b d s t f o n k gn z hk q m c;unfold bC at*;(refine Ye Tryz.func67 Tryz.ntmps67 ?_;intro Fr);(refine bD ?_;intro b);(refine Ca (EF) ?_;rintro _ _ ⟨_,⟨rfl,rfl⟩,rfl⟩;refine Da ?_);refine aF ?_;exact Ea (x:=⟨rfl,rfl⟩)
theorem aHX (b:Nat) (d:FD) (s t f o:Value) (qL:Option Addr) (mL cL:Nat) (n:Nat) (x:Nd) (l:List UInt8) (h:eN d n x l) (hk:x.kind=2) (hE:iY x.bytes=some x.aP) (zy:mL=0∨x.aP≠[]) (q:Option Addr) (c:Nat):
  Ct lk 67 [aH b 0, .slice qL mL cL, .int .i64 (n:Int), .agg #[.int .i64 (kI l), .int .i64 (gI l), .int .i64 (zI l), .slice q (pI l).length c]] (bC b d s t f o::sl 2 (.slice q (pI l).length c) ((pI l).map jP)::aX d) fun v H'=>v= .int .i64 (if mL=0 then 1 else 16)∧H'=[bC b d s t f o]:=by
 have EO:=wJ b d s t f o n x l h hk hE q c;have hlen:mL≠0→0<x.aP.length:=fun h0=>List.length_pos_iff.2 (zy.resolve_left h0)
 obtain⟨a,ca,cs,w,cw,wl,m,cm,at1,qg,cg,aA⟩:=d;unfold bC aX at*;dsimp only[dw,dz] at*;clear zy;by_cases h0:mL=0
 ·rw[Jg h0];(refine Ye Tryz.func67 Tryz.ntmps67 ?_;intro Fr);(refine bD ?_;intro b);(refine Ca (EO) ?_;rintro _ _ ⟨_,⟨qe,ce,rfl,rfl⟩,rfl⟩;refine Da ?_);refine aF ?_;exact Ea (x:=⟨rfl,rfl⟩)
 ·rw[Jf h0];have hl0:=hlen h0;(refine Ye Tryz.func67 Tryz.ntmps67 ?_;intro Fr);(refine bD ?_;intro b);(refine Ca (EO) ?_;rintro _ _ ⟨_,⟨qe,ce,rfl,rfl⟩,rfl⟩;refine Da ?_);refine aF ?_;exact Ea (x:=⟨rfl,rfl⟩)
theorem aHY (b:Nat) (x:iV) {tab:cT} (hI:Inv x tab) (hO:VH tab) (zw:x.ops.length≤1000) (qL:Option Addr) (cL:Nat) (L:List (List UInt8)) (zt:L.length≤1000) (zr: ∀ s∈L,gU s) {nm:List UInt8} {k:Nat} (hk:L.length=k+1) (zq:L[k]? =some nm) {rn:Nat} {y:Nd} (hw:aJ tab 0 (L.take k)=(0,rn)) (hy:tab rn=some y) (zv:y.kind=2) (hf:cS y.aP nm=0) {ino:Nat} (zy:ino=(jN y.aP nm).toNat) {z:Nd} (hz:tab ino=some z) (zu:z.kind=2) (zx:z.gen<2147483647) (he:z.aP=[]) {l:List UInt8} (hl:eN x.d ino z l) (hE:iY z.bytes=some z.aP) (q:Option Addr) (c:Nat):
  Ct lk 67 [aH b 0, .slice qL L.length cL, .int .i64 (ino:Int), .agg #[.int .i64 (kI l), .int .i64 (gI l), .int .i64 (zI l), .slice q (pI l).length c]] (bI b x++[sl 1 (.slice qL L.length cL) (L.map fT),sl 2 (.slice q (pI l).length c) ((pI l).map jP)]) (hU b x (dU tab rn y nm ino) (x.d.aA.set ino (x.d.aA[ino]?.getD 0+1)) 3 4):=by
 have EO:=wJ b x.d (.int .i64 x.gJ) (.int .i64 x.turn) (.slice x.qf x.fr.length x.cf) (.slice x.qo x.ops.length x.co) ino z l hl zu hE q c;have GA:=akS b x hI hO zw qL cL L zt zr hk zq hw hy zv hf zy hz zx (fun _=>he);rw[show z.aP.length=0 from by rw[he];rfl] at EO;have hint:=fun v H'=>gK (b:=b) (x:=x) (tab':=dU tab rn y nm ino) (G:=(x.d.aA.set ino (x.d.aA[ino]?.getD 0+1))) (N:=3) (keep:=4) (v:=v) (H':=H')
 refine gH (R:=hU b x (dU tab rn y nm ino) (x.d.aA.set ino (x.d.aA[ino]?.getD 0+1)) 3 4) ?_ fun _ _ h=>h
 generalize hU b x (dU tab rn y nm ino) (x.d.aA.set ino (x.d.aA[ino]?.getD 0+1)) 3 4=CR at*;clear hw hy zv hf zy zx hz zu he hl hE hI;generalize flat fE z.aP=fz at*;obtain⟨d,s0,tn,qf,cf,F,qo,co,Lo⟩:=x;obtain⟨a,ca,cs,w,cw,wl,m,cm,at1,qg,cg,aA⟩:=d;unfold bI bC aX at*;dsimp only[dw,dz] at*;(refine Ye Tryz.func67 Tryz.ntmps67 ?_;intro Fr);(refine bD ?_;intro b);(refine Ca (EO) ?_;rintro _ _ ⟨_,⟨qe,ce,rfl,rfl⟩,rfl⟩;refine Da ?_);refine aM ?_;refine Cb (GA) ?_;rintro _ _ ⟨_,hm,rfl⟩;obtain⟨e2,rfl⟩:=hint _ _ hm;refine aN (cA List.perm_append_comm) ?_;refine Da ?_;refine aF ?_;exact Ec (x:=hm)
end fs
namespace fs
def ctE (m:Int):Int:=if m<0 then 1 else if 4096<m then 2 else 0
theorem aIC {n:Nat} {ps:List (List UInt8)} (h:gA n ps) (m:Int):file.aFT (n:Int) ps m=ctE m:=by
 unfold file.aFT ctE;rw[Jf (by simp [jQ h])]
theorem aID {m:Int} (h:ctE m=0):0≤m∧m≤4096:=by
 unfold ctE at h;split at h
 ·cases h
 ·split at h
  ·cases h
  ·omega
def CtR (b:Nat) (x:iV) (tab:cT) (n:Nat) (y:Nd) (m:Int) (v:Value) (H':List Ent):Prop:=
 ((ctE m≠0∨m=(y.size:Int))∧v=eS (ctE m)∧H'=bI b x)∨
 ((ctE m=0∧m≠(y.size:Int))∧VL b x (mJ tab n (some ⟨1,y.gen,m.toNat,fD m.toNat y.parts⟩)) x.d.aA 9 4 v H')
attribute [local irreducible] box own sl bL aH bJ Qt cN cM dG dL eQ
def rdE (at' N:Int):Int:=if at'<0∨N<0 then 1 else 0
def rdT (y:Nd) (at' N:Int):List UInt8:=if at'<0∨N<0 then [] else iT y.size y.parts at'.toNat N.toNat
theorem apI (b:Nat) (d:FD) (s t f o:Value) {n:Nat} {y:Nd} {l:List UInt8} (hl:eN d n y l) (s1 s2:ByteArray) (at' N:Int) (ha:at'≤9223372036854775807) (hN:N≤9223372036854775807) (text:List UInt8) (q:Option Addr) (c:Nat):
  Ct lk 68 [aH b 0, .agg #[.int .i64 4, .string s1, .string s2, .int .i64 at', .int .i64 N, .string (str text)], .int .i64 (n:Int), .agg #[.int .i64 (kI l), .int .i64 (gI l), .int .i64 (zI l), .slice q (pI l).length c]] (bC b d s t f o::sl 2 (.slice q (pI l).length c) ((pI l).map jP)::aX d) fun v H'=>v=DR (rdE at' N) (rdT y at' N) 0 0 none 0 0∧H'=[bC b d s t f o]:=by
 have zy:=uV hl.data hl.small;have D0:=IB b d s t f o n y.size (kI l) (gI l) q c (pI l) y.parts hl.told.mM hl.small hl.data;have R0: ∀ q c,Ct lk 73 [.agg #[.int .i64 (y.size:Int), .slice q y.parts.length c], .int .i64 at', .int .i64 N] [sl 1 (.slice q y.parts.length c) (y.parts.map fT)] fun v H'=>v= .tuple #[.string (str (rdT y at' N)), .int .i64 (rdE at' N)]∧H'=[]:=fun q c=>by
  unfold rdT rdE;by_cases h:at'<0∨N<0
  ·rw[Jg h,Jg h];exact aFX q c y.size y.parts zy at' N h
  ·rw[Jf h,Jf h];obtain⟨a0,rfl⟩: ∃ a0:Nat,at'=(a0:Int):=⟨at'.toNat,Z8⟩;obtain⟨n0,rfl⟩: ∃ n0:Nat,N=(n0:Int):=⟨N.toNat,Z8⟩;exact asJ q c y.size y.parts zy a0 n0 Z8 Z8
 rw[←hl.size] at D0 R0;generalize rdE at' N=e at*;generalize rdT y at' N=tx at*;unfold DR;obtain⟨a,ca,cs,w,cw,wl,m,cm,at1,qg,cg,aA⟩:=d;unfold bC aX at*;dsimp only[dw,dz] at*;generalize y.parts=P1 at*;generalize kI l=k1 at*;generalize gI l=g1 at*;generalize zI l=z1 at*;clear hl zy;(refine Ye Tryz.func68 Tryz.ntmps68 ?_;intro Fr);(repeat' (first|refine Y2 ?_|(refine Wb ?_;intro b)|(refine Wq ?_;intro q)|(refine Ws ?_ ?_<;>intro h)|refine Wz ?_|fail));(refine aD (Hq:=[_]) [1] [] rfl Jd Za ?_);refine dP ?_;(refine aB 5 ?_;refine cD 9 Jd ?_ ?_)
 ·(refine Cd 5 (D0) ?_;rintro _ _ ⟨_,⟨q5,c5,rfl,rfl⟩,rfl⟩;refine Te ?_;(try refine Da ?_));(repeat' (first|refine Y1 ?_|(refine Wb ?_;intro b)|(refine Wq ?_;intro q)|refine Wc (R0 _ _) ?_|(refine Ws ?_ ?_<;>intro h)|refine Wz ?_|fail));exact Ea (x:=⟨rfl,rfl⟩)
 ·(refine Oc (l:=by exact gV rfl) (k:= ?_);rintro _ _ ⟨b5,rfl,rfl⟩;refine Te ?_;(try refine Da ?_));refine dP ?_;(refine Cc 5 (D0) ?_;rintro _ _ ⟨_,⟨q5,c5,rfl,rfl⟩,rfl⟩;refine Te ?_;(try refine Da ?_));(repeat' (first|refine Y1 ?_|(refine Wb ?_;intro b)|(refine Wq ?_;intro q)|refine Wc (R0 _ _) ?_|(refine Ws ?_ ?_<;>intro h)|refine Wz ?_|fail));exact Ea (x:=⟨rfl,rfl⟩)
theorem azD (b:Nat) (x:iV) {tab:cT} (hI:Inv x tab) (zv:x.ops.length≤1000) {n:Nat} {y:Nd} (hy:tab n=some y) (hk:y.kind=1) {l:List UInt8} (hl:eN x.d n y l) (s1 s2:ByteArray) (at' N:Int) (text:List UInt8) (q:Option Addr) (c:Nat):
  Ct lk 68 [aH b 0, .agg #[.int .i64 5, .string s1, .string s2, .int .i64 at', .int .i64 N, .string (str text)], .int .i64 (n:Int), .agg #[.int .i64 (kI l), .int .i64 (gI l), .int .i64 (zI l), .slice q (pI l).length c]] (bI b x++[sl 2 (.slice q (pI l).length c) ((pI l).map jP)]) (CtR b x tab n y N):=by
 have zw:=uV hl.data hl.small;have D0:=IB b x.d (.int .i64 x.gJ) (.int .i64 x.turn) (.slice x.qf x.fr.length x.cf) (.slice x.qo x.ops.length x.co) n y.size (kI l) (gI l) q c (pI l) y.parts hl.told.mM hl.small hl.data;rw[←hl.size] at D0;have zq:(pI l).length=y.parts.length:=hl.data.2.1.symm;have hp8:y.parts.length≤8:=by have:=hl.data.1;have:=hl.small;unfold aQ at*;omega
 have FA:=akT;unfold eS at FA;have BAD:ctE N≠0∨N=(y.size:Int)→CtR b x tab n y N (eS (ctE N)) (bI b x):=fun h=> .inl ⟨h,rfl,rfl⟩
 have YES:ctE N=0→N≠(y.size:Int)→ ∀ e H',hU b x (mJ tab n (some ⟨1,y.gen,N.toNat,fD N.toNat y.parts⟩)) x.d.aA 9 4 (.int .i64 e) H'→CtR b x tab n y N (eS e) H':=fun h1 h2 e H' h3=> .inr ⟨⟨h1,h2⟩,e,rfl,h3⟩
 unfold eS at BAD YES;have CI:=fun tab' l (hl:l.length≤100) hC hS zn q0 c0 hN zm=>oQ b x hI zv (tab':=tab') (l:=l) hl hC hS zn q0 c0 4 Z8 (N:=9) hN (G:=x.d.aA) zm
 refine gH (R:=CtR b x tab n y N) ?_ fun _ _ h=>h
 generalize CtR b x tab n y N=RR at*;by_cases hw:ctE N=0
 ·obtain⟨ha0,hat⟩:=aID hw;obtain⟨m0,rfl⟩: ∃ m0:Nat,N=(m0:Int):=⟨N.toNat,Z8⟩;rw[Int.toNat_natCast] at YES;have W0:=fun q c=>xQ q c y.size y.parts m0 zw Z8
  rw[←hl.size] at W0;have zx:=DD (m:=m0) y.parts Z8;have zu:(fD m0 y.parts).length=aQ m0:=zx.2.1;rw[←zu] at W0;by_cases ht0:m0=y.size
  ·have hb:=BAD (.inr Z8);rw[hw] at hb;have zl:=hl.size;clear CI YES BAD hw zx zu;generalize fD m0 y.parts=P2 at*;obtain⟨d,s,tn,qf,cf,F,qo,co,Lo⟩:=x;obtain⟨a,ca,cs,w,cw,wl,m,cm,at1,qg,cg,aA⟩:=d;unfold bI bC aX at*;dsimp only[dw,dz] at*;(refine Ye Tryz.func68 Tryz.ntmps68 ?_;intro Fr);(repeat' (first|refine Y2 ?_|(refine Wb ?_;intro b)|(refine Wq ?_;intro q)|(refine Ws ?_ ?_<;>intro h)|refine Wz ?_|fail));(refine aD (Hq:=[_]) [1] [] rfl Jd Za ?_);refine dP ?_;(refine aB 5 ?_;refine cD 9 Jd ?_ ?_)
   ·(refine Cd 5 (D0) ?_;rintro _ _ ⟨_,⟨q5,c5,rfl,rfl⟩,rfl⟩;refine Te ?_;(try refine Da ?_));(repeat' (first|refine Y2 ?_|(refine Wb ?_;intro b)|(refine Wq ?_;intro q)|(refine Ws ?_ ?_<;>intro h)|refine Wz ?_|fail));(refine Ca (W0 _ _) ?_;rintro _ _ ⟨_,⟨q6,rfl,rfl⟩,rfl⟩;refine Da ?_);refine lG ?_;exact Ea (x:=hb)
   ·(refine Oc (l:=by exact gV rfl) (k:= ?_);rintro _ _ ⟨b5,rfl,rfl⟩;refine Te ?_;(try refine Da ?_));refine dP ?_;(refine Cc 5 (D0) ?_;rintro _ _ ⟨_,⟨q5,c5,rfl,rfl⟩,rfl⟩;refine Te ?_;(try refine Da ?_));(refine bD ?_;intro b);(refine Ca (W0 _ _) ?_;rintro _ _ ⟨_,⟨q6,rfl,rfl⟩,rfl⟩;refine Da ?_);refine lG ?_;exact Ea (x:=hb)
  ·have zl:=hl.size;have hne:(m0:Int)≠zI l:=Z8
   have zr:=YES hw Z8;have zk:(fD m0 y.parts).length≤1000:=by have:=zx.2.1;have:=zx.1;unfold aQ at*;omega
   have zy: ∀ t∈fD m0 y.parts,t.length≤512:=fun t ht=>by
    obtain⟨i,hi,rfl⟩:=afa ht;by_cases h0:(fD m0 y.parts)[i]=[]
    ·rw[h0];simp
    ·rw[zx.2.2 i _ (ak hi) h0];exact jX _ _
   have TC:=fun ps ho nq nl nc q c=>VE hl (.inl hk) (news:=fD m0 y.parts) (ps:=ps) ho zx nq nl nc q c
   have PC:=fun c hc hg hs=>asR hI hy hk (z:=⟨1,y.gen,m0,fD m0 y.parts⟩) (c:=c) hc hg hs rfl
   rw[hk] at TC;have CI1:=CI (mJ tab n (some ⟨1,y.gen,m0,fD m0 y.parts⟩));have TN:=fun qo co qn cn=>wL (n:Int) (kI l) (gI l) (zI l) (zI l) (m0:Int) q c (pI l) qo co y.parts qn cn (fD m0 y.parts) zq zk zy Z8
   clear CI YES BAD zx hw zu zy;generalize fD m0 y.parts=P2 at*;generalize mJ tab n (some ⟨1,y.gen,m0,P2⟩)=T2 at*;obtain⟨d,s,tn,qf,cf,F,qo,co,Lo⟩:=x;obtain⟨a,ca,cs,w,cw,wl,m,cm,at1,qg,cg,aA⟩:=d;unfold bI bC aX at*;dsimp only[dw,dz] at*;(refine Ye Tryz.func68 Tryz.ntmps68 ?_;intro Fr);(repeat' (first|refine Y2 ?_|(refine Wb ?_;intro b)|(refine Wq ?_;intro q)|(refine Ws ?_ ?_<;>intro h)|refine Wz ?_|fail));(refine aD (Hq:=[_]) [1] [] rfl Jd Za ?_);refine dP ?_;(refine aB 5 ?_;refine cD 9 Jd ?_ ?_)
   ·(refine Cd 5 (D0) ?_;rintro _ _ ⟨_,⟨q5,c5,rfl,rfl⟩,rfl⟩;refine Te ?_;(try refine Da ?_));(repeat' (first|refine Y2 ?_|(refine Wb ?_;intro b)|(refine Wq ?_;intro q)|(refine Ws ?_ ?_<;>intro h)|refine Wz ?_|fail));(refine Ca (W0 _ _) ?_;rintro _ _ ⟨_,⟨q6,rfl,rfl⟩,rfl⟩;refine Da ?_);refine aM ?_;(refine aD (Hq:=[_,_,_]) [0,2,6] [11] rfl Jd Za ?_);refine dP ?_;(refine Cc 7 (TN _ _ _ _) ?_;rintro _ _ ⟨_,⟨ps,q7,c7,zt,rfl,rfl⟩,rfl⟩;refine Te ?_;(try refine Da ?_));(refine aB 8 ?_;refine Oa (l:=by exact aT rfl rfl rfl Zp rfl rfl Z9 rfl) (k:= ?_);rintro _ _ ⟨q9,rfl,rfl⟩;refine Te ?_;(try refine Da ?_));obtain⟨t1,t2⟩:=TC ps zt q (pI l).length c q7 c7;obtain⟨m1,m2,m3,m4⟩:=PC _ t1 rfl t2;have C1:=CI1 _ Ja m1 m2 m3 q9 1 m4 rfl;dsimp only[dv,gr,Nat.reduceAdd] at C1;clear t1 t2 m1 m2 m3 m4 CI1 TC PC TN D0 W0;refine bS (bB (v:= .slice q9 1 1) (e:=237) (m:=1) (f:=mQ) (ys:=[⟨(n:Int),kI l,gI l,(m0:Int),q,(pI l).length,c,ps,q7,c7,false⟩]) aU (fun _=>rfl) rfl) ?_;refine bS (bB (v:= .slice q7 ps.length c7) (e:=289) (m:=ps.length) (f:=eX) (ys:=ps) aU (fun _=>rfl) rfl) ?_;refine bS (kO (sz:=4)) ?_;refine bS (kF (v:= .slice q7 ps.length c7) (rows:=ps.map eX) aU aU) ?_;(refine Ce 9 (C1) ?_;rintro _ _ ⟨_,hc,rfl⟩;refine Tf ?_;(try refine Da ?_));obtain⟨e2,rfl⟩:=gK hc;refine zY ?_;refine Da ?_;(refine Cc 10 (FA _) ?_;rintro _ _ ⟨_,⟨rfl,rfl⟩,rfl⟩;refine Te ?_;(try refine Da ?_));(refine aB 11 ?_;refine Ob (l:=by exact Zj) (k:= ?_);rintro _ _ ⟨rfl,rfl⟩;refine Te ?_;(try refine Da ?_));refine dP ?_;exact Ec (x:=zr e2 _ hc)
   ·(refine Oc (l:=by exact gV rfl) (k:= ?_);rintro _ _ ⟨b5,rfl,rfl⟩;refine Te ?_;(try refine Da ?_));refine dP ?_;(refine Cc 5 (D0) ?_;rintro _ _ ⟨_,⟨q5,c5,rfl,rfl⟩,rfl⟩;refine Te ?_;(try refine Da ?_));(refine bD ?_;intro b);(refine Ca (W0 _ _) ?_;rintro _ _ ⟨_,⟨q6,rfl,rfl⟩,rfl⟩;refine Da ?_);refine aM ?_;(refine aD (Hq:=[_,_,_]) [0,2,6] [11] rfl Jd Za ?_);refine dP ?_;(refine Cc 7 (TN _ _ _ _) ?_;rintro _ _ ⟨_,⟨ps,q7,c7,zt,rfl,rfl⟩,rfl⟩;refine Te ?_;(try refine Da ?_));(refine aB 8 ?_;refine Oa (l:=by exact aT rfl rfl rfl Zp rfl rfl Z9 rfl) (k:= ?_);rintro _ _ ⟨q9,rfl,rfl⟩;refine Te ?_;(try refine Da ?_));obtain⟨t1,t2⟩:=TC ps zt q (pI l).length c q7 c7;obtain⟨m1,m2,m3,m4⟩:=PC _ t1 rfl t2;have C1:=CI1 _ Ja m1 m2 m3 q9 1 m4 rfl;dsimp only[dv,gr,Nat.reduceAdd] at C1;clear t1 t2 m1 m2 m3 m4 CI1 TC PC TN D0 W0;refine bS (bB (v:= .slice q9 1 1) (e:=237) (m:=1) (f:=mQ) (ys:=[⟨(n:Int),kI l,gI l,(m0:Int),q,(pI l).length,c,ps,q7,c7,false⟩]) aU (fun _=>rfl) rfl) ?_;refine bS (bB (v:= .slice q7 ps.length c7) (e:=289) (m:=ps.length) (f:=eX) (ys:=ps) aU (fun _=>rfl) rfl) ?_;refine bS (kO (sz:=4)) ?_;refine bS (kF (v:= .slice q7 ps.length c7) (rows:=ps.map eX) aU aU) ?_;(refine Ce 9 (C1) ?_;rintro _ _ ⟨_,hc,rfl⟩;refine Tf ?_;(try refine Da ?_));obtain⟨e2,rfl⟩:=gK hc;refine zY ?_;refine Da ?_;(refine Cc 10 (FA _) ?_;rintro _ _ ⟨_,⟨rfl,rfl⟩,rfl⟩;refine Te ?_;(try refine Da ?_));(refine aB 11 ?_;refine Ob (l:=by exact Zj) (k:= ?_);rintro _ _ ⟨rfl,rfl⟩;refine Te ?_;(try refine Da ?_));refine dP ?_;exact Ec (x:=zr e2 _ hc)
 ·have W0 := fun q c => aMO q c (y.size : Int) y.parts N Z8 (fun s hs => by
   obtain⟨i,hi,rfl⟩:=afa hs;by_cases h0:y.parts[i]=[]
   ·rw[h0];simp
   ·rw [zw.2.2 i _ (ak hi) h0];have := jX y.size i;omega) (by rw [aIC zw]; exact hw)
  rw[aIC zw, ←hl.size] at W0;have hb:=BAD (.inl hw);clear YES BAD CI;generalize ctE N=e at*;obtain⟨d,s,tn,qf,cf,F,qo,co,Lo⟩:=x;obtain⟨a,ca,cs,w,cw,wl,m,cm,at1,qg,cg,aA⟩:=d;unfold bI bC aX at*;dsimp only[dw,dz] at*;(refine Ye Tryz.func68 Tryz.ntmps68 ?_;intro Fr);(repeat' (first|refine Y2 ?_|(refine Wb ?_;intro b)|(refine Wq ?_;intro q)|(refine Ws ?_ ?_<;>intro h)|refine Wz ?_|fail));(refine aD (Hq:=[_]) [1] [] rfl Jd Za ?_);refine dP ?_;(refine aB 5 ?_;refine cD 9 Jd ?_ ?_)
  ·(refine Cd 5 (D0) ?_;rintro _ _ ⟨_,⟨q5,c5,rfl,rfl⟩,rfl⟩;refine Te ?_;(try refine Da ?_));(repeat' (first|refine Y1 ?_|(refine Wb ?_;intro b)|(refine Wq ?_;intro q)|refine Wc (W0 _ _) ?_|refine Wc (FA ..) ?_|(refine Ws ?_ ?_<;>intro h)|refine Wz ?_|fail));exact Ea (x:=hb)
  ·(refine Oc (l:=by exact gV rfl) (k:= ?_);rintro _ _ ⟨b5,rfl,rfl⟩;refine Te ?_;(try refine Da ?_));refine dP ?_;(refine Cc 5 (D0) ?_;rintro _ _ ⟨_,⟨q5,c5,rfl,rfl⟩,rfl⟩;refine Te ?_;(try refine Da ?_));(repeat' (first|refine Y1 ?_|(refine Wb ?_;intro b)|(refine Wq ?_;intro q)|refine Wc (W0 _ _) ?_|refine Wc (FA ..) ?_|(refine Ws ?_ ?_<;>intro h)|refine Wz ?_|fail));exact Ea (x:=hb)
end fs
