/- Law HandStale: its texts, packed. -/
import Derived.Test.YtbjalbcdbgcgdaaGreatK21
import Derived.Test.YtbjalbcdbgcgdaaGreatK07
open List renaming append_assoc->ep,append_nil->jc,drop_eq_getElem_cons->cu,getElem?_append_left->j9,getElem?_append_right->j7,getElem?_eq_getElem->aj,getElem?_eq_some_iff->ah,length_append->ag,length_cons->fb,length_drop->eu,length_take->b9,mem_iff_getElem?->kp,mem_of_getElem?->jm,take_add_one->ki,take_append_drop->il
open Nat renaming le_refl->aq,lt_or_ge->iq,not_lt_zero->mj,zero_le->fg
set_option linter.unusedVariables false
set_option maxRecDepth 100000
set_option maxHeartbeats 8000000
namespace Go.Proofs.YtbjalbcdbgcgdaaGreat.nJ
open Go.RowKit bG sl srt
def KB (b:Nat):Ent:=fro (box b [.func (.func 352) #[] #[]] 441)
theorem lR (b:Nat):(KB b).iD=false:=rfl
def sF (b:Nat):Value:= .func (.func 357) #[] #[aH b 0]
theorem LZ {P:Program} {n:Nat} {F:dF} {H R:List Ent} {o:Oper} {x:Operand} {v z':Value} {T:TypeId} {b by':Nat} {t:TypeId} [ht:Ty P T false 1 by' z'] (ho:o.op= .load T x) (hx:ev F x=some (aH b 0)) (p:bF (fro (box b [v] t)) H R):Qt P n o F H v:=fun a w ha hw=>by
 have hb:(box b [v] t).holds w:=by
  have h1:=hw.1 _ p.mem;exact h1
 have:=kS ht w ⟨b,0,none⟩ [v] rfl (fun j u hj=>by rw[addr_add,Nat.zero_add,vD hb];exact hj) (nU v);simp [execOp,ho,ha.eval hx,aH,Instr.loadAt,Instr.sureAddr,this]
theorem cR {S R:List Ent} {b:Nat} (p:bF (KB b) S R):View S (KB b):=View.same p rfl
theorem aeL {α:Type} [Key α] (l:List α) (x:α):aK (aK l++[x])=aK (l++[x]):=by
 have:=DQ l [x];rwa [cE (l:=[x]) (List.pairwise_singleton _ _)] at this
instance aIU:Ty Tryz.prog 441 false 1 8 .nilFunc:=⟨by kernel_rfl,by rfl⟩
attribute [local irreducible] box own sl gH aH bC Qt cJ cG dC dG eO
theorem aiN (x:CV):Ct Tryz.prog 352 [.agg (fC x).toArray] [] fun v H'=>v= .int .i64 x.1∧H'=[]:=by
 obtain⟨w,q,n,c⟩:=x;(refine Ye Tryz.func352 Tryz.ntmps352 ?_;intro Fr);(repeat' (first|refine Wa ?_|refine We ?_|(refine Wb ?_;intro b)|fail));exact Ea (x:=⟨rfl,rfl⟩)
theorem AM (b:Nat) (x y:CV) (hx:0≤x.1∧x.1≤1000000000000) (hy:0≤y.1∧y.1≤1000000000000):Ct Tryz.prog 357 [.agg (fC x).toArray, .agg (fC y).toArray,aH b 0] [KB b] fun v H'=>v= .int .i64 (x.1-y.1)∧H'=[]:=by
 have K1:=aiN x;have K2:=aiN y;obtain⟨xw,xq,xn,xc⟩:=x;obtain⟨yw,yq,yn,yc⟩:=y;dsimp only at hx hy;(refine Ye Tryz.func357 Tryz.ntmps357 ?_;intro Fr);(repeat' (first|refine Wa ?_|refine aF ?_|(refine Wb ?_;intro b)|fail));unfold KB;(refine aB (Hq:=[_,_,_]) [0,1,2] [] rfl (by kernel_rfl) Za ?_);(refine aA 0 ?_;refine aU _ rfl rfl wt (by decide +kernel) iS rfl (LZ rfl rfl aN) ?_);(refine aA 3 ?_;refine aU _ rfl rfl wt (by decide +kernel) iS rfl (LZ rfl rfl aN) ?_);(repeat' (first|refine Wa ?_|refine Wk ?_|refine Wg (K1 ..) ?_|refine Wg (K2 ..) ?_|refine Wz ?_|fail));exact Ea (x:=⟨rfl,rfl⟩)
theorem IQ (q:Option Addr) (c kb:Nat) (P M S:List CV) (a e N:Nat) (ha:P.length=a) (he:a+M.length=e) (hN:(P++M++S).length=N) (hN0:0<N) (hNb:N≤1000000000) (hw: ∀ x∈M,0≤x.1∧x.1≤1000000000000):
  Ct Tryz.prog 359 [.slice q N c, .int .i64 (a:Int), .int .i64 (e:Int),sF kb] [own (.slice q N c) 437 2 N (flat fC (P++M++S)),KB kb]
   fun v H'=>v= .tuple #[]∧H'=[own (.slice q N c) 437 2 N (flat fC (P++aK M++S))]:=by
 have hlen:P.length+M.length+S.length=N:=by rw[←hN];simp only[ag]
 unfold sF;have h1:P++M++S=P++aK (M.take 1)++M.drop 1++S:=by
  cases M with
  |nil=>simp [aK]
  |cons x M=>simp [aK,ins]
 rw[h1];have ha1:(a:Int)+1=((a+1:Nat):Int):=by omega
 (refine Ye Tryz.func359 Tryz.ntmps359 ?_;intro Fr);refine mD aN (by omega) ?_;rintro g rfl hc;refine aZ ?_;rw[ha1];(refine aC (σ:=Nat) (fun k=>1≤k∧(k≤M.length∨k=1)) (fun k=>[(8, .int .i64 ((a+k:Nat):Int))]) (fun k=>[own (.slice (some ⟨g,0,none⟩) N c) 437 2 N (flat fC (P++aK (M.take k)++M.drop k++S))]) _ (fun k=>M.length+1-k) (1) (by exact⟨aq _, .inr rfl⟩) (by exact gA) Zb (fun k ⟨hk1,hk2⟩=> ?_);refine Da ?_);rcases iq k M.length with hlt|hge
 ·obtain⟨x,hx⟩: ∃ x,M[k]? =some x:=⟨_,aj hlt⟩;obtain⟨h3,h4⟩:=ah.1 hx;have ed:M.drop k=x::M.drop (k+1):=by rw[cu h3,h4]
  have et:M.take (k+1)=M.take k++[x]:=by rw[ki,hx];rfl
  have hsl:(aK (M.take k)).length=k:=by rw[eC,b9];omega
  have hsr:=iP (M.take k);have hso:=aeL (M.take k) x;rw[←et] at hso;have hsm: ∀ y∈aK (M.take k),0≤y.1∧y.1≤1000000000000:=fun y hy=>hw y (List.mem_of_mem_take (kW.1 hy))
  have hwx:=hw x (jm hx);have hdl:(M.drop (k+1)).length=M.length-(k+1):=eu;have hak:((a+k:Nat):Int)+1=((a+(k+1):Nat):Int):=by omega
  have hake:((a+k:Nat):Int)<(e:Int):=by omega
  rw[ed];generalize hL:aK (M.take k)=L at*;generalize hTd:M.drop (k+1)=T at*;clear hx h3 h4 ed et hL;rw[show P++L++x::T++S=P++L++[x]++[]++(T++S) by simp];refine aZ ?_;(refine aC (σ:=List CV×List CV×Nat) (fun y=>(y.1++y.2.1=L∧ ∀ z∈y.2.1,x.1<z.1)∧(y.1.length=y.2.2∧y.2.2≤k)) (fun y=>[(9, .int .i64 ((a+y.2.2:Nat):Int))]) (fun y=>[own (.slice (some ⟨g,0,none⟩) N c) 437 2 N (flat fC (P++y.1++[x]++y.2.1++(T++S)))]) _ (fun y=>y.2.2) ((L,[],k)) (by exact⟨⟨jc _,fun z hz=>absurd hz List.not_mem_nil⟩,hsl,aq _⟩) (by exact gA) Zb (fun⟨L1,L2,j⟩ ⟨⟨hLL,hL2⟩,hl1,hl2⟩=> ?_);refine Da ?_);dsimp only at hLL hL2 hl1 hl2;have done1:(L1=[]∨ ∀ z∈L1,z.1≤x.1)→L1++x::L2=aK (M.take (k+1)):=fun h=>by
   rw[←hso, ←hLL];refine RX (by rw[hLL];exact hsr) (fun z hz=> ?_) hL2;rcases h with h|h
   ·rw[h] at hz;cases hz
   ·exact h z hz
  cases j with
  |zero=>
   have hL1:L1=[]:=List.eq_nil_of_length_eq_zero hl1;have hd:=done1 (.inl hL1);clear done1;refine KA ?_;rw[show P++L1++[x]++L2++(T++S)=P++(L1++x::L2)++T++S by simp,hd,hak, ←hTd];refine Ee (k+1) ?_ ?_
   ·exact⟨by omega, .inl hlt⟩
   ·omega
  |succ j=>
   obtain⟨L0,y,hL0⟩: ∃ L0 y,L1=L0++[y]:=⟨L1.dropLast,L1.getLast (fun h=>by rw[h] at hl1;simp at hl1),(List.dropLast_concat_getLast _).symm⟩;subst hL0;have hl0:L0.length=j:=by rw[ag,List.length_singleton] at hl1;omega
   obtain⟨z1,z2,_,_,z5,z6⟩:=AL (P++L0) [] (L2++(T++S)) y x (i:=a+j) (j:=a+(j+1)) Zi rfl;have eZ:P++(L0++[y])++[x]++L2++(T++S)=(P++L0)++y::([]++x::(L2++(T++S))):=by simp
   have eZ2:(P++L0)++x::([]++y::(L2++(T++S)))=P++L0++[x]++(y::L2)++(T++S):=by simp
   rw[eZ];rw[eZ2] at z6;have hwy:0≤y.1∧y.1≤1000000000000:=hsm y (by rw[←hLL];simp);have hJ:((a+(j+1):Nat):Int)-1=((a+j:Nat):Int):=by omega
   have hA:a+(j+1)<N:=by omega
   have hB:a+j<N:=by omega
   have hlZ:((P++L0)++y::([]++x::(L2++(T++S)))).length=N:=by
    have h5:=congrArg List.length hLL;simp only[ag,fb,List.length_nil] at h5 hl1 ⊢;omega
   have CM:=AM kb x y hwx hwy;have eZ':=eZ;generalize (P++L0)++y::([]++x::(L2++(T++S)))=Z at*;clear eZ;by_cases hxy:x.1<y.1
   ·have hsub:x.1-y.1<0:=by omega
    (repeat' (first|refine aF ?_|fail));(refine aB (Hq:=[_,_]) [0,1] [] rfl (by kernel_rfl) Za ?_);refine gX ?_;rw[hJ];(refine aA 12 ?_;refine aU _ rfl rfl wt (by decide +kernel) iS rfl (bR rfl rfl rfl aN rfl (by omega)) ?_);refine gX ?_;(refine aA 14 ?_;refine Oa (l:=by exact (dD (first:=[]) (cap:=[aH kb 0]) rfl rfl rfl CM rfl (Lp.view (lR kb) Lp.nil (cR aN)))) (k:= ?_);rintro _ _ ⟨rfl,rfl⟩;refine Te ?_;(try refine Da ?_));(repeat' (first|refine Wa ?_|refine Wk ?_|refine aF ?_|fail));refine IM (by kernel_rfl) Za ?_;refine aL 0 rfl wt (by decide +kernel) rfl (cD rfl rfl) ?_;refine aL 1 rfl wt (by decide +kernel) rfl (cD rfl rfl) ?_;refine aL 2 rfl wt (by decide +kernel) rfl (cD rfl rfl) ?_;refine aL 3 rfl wt (by decide +kernel) rfl (cD rfl rfl) ?_;refine aL 4 rfl wt (by decide +kernel) rfl (QB rfl rfl rfl (by omega)) ?_;refine aL 5 rfl wt (by decide +kernel) rfl (cD rfl rfl) ?_;refine aL 6 rfl wt (by decide +kernel) rfl (cD rfl rfl) ?_;refine aL 7 rfl wt (by decide +kernel) rfl (QB rfl rfl rfl (by omega)) ?_;rw[hJ];refine aL 8 rfl wt (by decide +kernel) rfl (jJ (i:=a+j) rfl rfl rfl hB) ?_;refine aL 10 rfl wt (by decide +kernel) rfl (cD rfl rfl) ?_;refine aL 11 rfl wt (by decide +kernel) rfl (cD rfl rfl) ?_;refine aL 12 rfl wt (by decide +kernel) rfl (jJ (i:=a+(j+1)) rfl rfl rfl hA) ?_;refine IP (Hq:=[own (.slice (some ⟨g,0,none⟩) N c) 437 2 N (flat fC Z)]) (nk:=[15,16,17]) (r:=1) (i:=0) ?_;refine gX ?_;(refine aA 15 ?_;refine Ob (l:=by exact (aG (f:=fC) (q':=y) rfl rfl rfl rfl (by exact aN) rfl (by omega) (by intro _;rfl) (by assumption) rfl rfl (by rfl))) (k:= ?_);rintro _ _ ⟨rfl,rfl⟩;refine Te ?_;(try refine Da ?_));(refine aA 16 ?_;refine Oa (l:=by exact (gV (bR (i:=a+j) rfl rfl rfl aN (by omega) (by omega)))) (k:= ?_);rintro _ _ ⟨rfl,rfl⟩;refine Te ?_;(try refine Da ?_));(refine aA 17 ?_;refine Ob (l:=by exact (aG (f:=fC) (q':=x) rfl rfl rfl rfl (by exact aN) rfl (by omega) (by intro _;rfl) (by assumption) rfl rfl (by rfl))) (k:= ?_);rintro _ _ ⟨rfl,rfl⟩;refine Te ?_;(try refine Da ?_));rw[z6];refine pT ?_;rw[hJ];refine Ee ((L0,y::L2,j)) ?_ ?_
    ·refine⟨⟨by rw[←hLL];simp,fun z hz=> ?_⟩,hl0,by dsimp only;omega⟩;rcases List.mem_cons.1 hz with rfl|hz
     ·exact hxy
     ·exact hL2 z hz
    ·dsimp only;omega
   ·have hsub: ¬ x.1-y.1<0:=by omega
    have hd := done1 (.inr fun z hz => by
     have h5:oL (L0++[y]++L2):=by rw[hLL];exact hsr
     have h6:=(nS.1 (nS.1 h5).1).2.2;rcases List.mem_append.1 hz with hz|hz
     ·have h7:z.1≤y.1:=h6 z hz y List.mem_cons_self;omega
     ·rw [List.mem_singleton.1 hz]; omega)
    (repeat' (first|refine aF ?_|fail));(refine aB (Hq:=[_,_]) [0,1] [] rfl (by kernel_rfl) Za ?_);refine gX ?_;rw[hJ];(refine aA 12 ?_;refine aU _ rfl rfl wt (by decide +kernel) iS rfl (bR rfl rfl rfl aN rfl (by omega)) ?_);refine gX ?_;(refine aA 14 ?_;refine Oa (l:=by exact (dD (first:=[]) (cap:=[aH kb 0]) rfl rfl rfl CM rfl (Lp.view (lR kb) Lp.nil (cR aN)))) (k:= ?_);rintro _ _ ⟨rfl,rfl⟩;refine Te ?_;(try refine Da ?_));refine pT ?_;rw[←eZ',show P++(L0++[y])++[x]++L2++(T++S)=P++(L0++[y]++x::L2)++T++S by simp,hd,hak, ←hTd];refine Ee (k+1) ?_ ?_
    ·exact⟨by omega, .inl hlt⟩
    ·omega
 ·have hM:M.take k=M:=List.take_of_length_le hge;have hMd:M.drop k=[]:=List.drop_of_length_le hge;rw[hM,hMd,jc];refine aZ ?_;exact Eb (x:=⟨rfl,rfl⟩)
end Go.Proofs.YtbjalbcdbgcgdaaGreat.nJ
namespace Go.Proofs.YtbjalbcdbgcgdaaGreat.nJ
open Go.RowKit bG sl srt
theorem aEL {α:Type} {P A B S:List α} {a t:Nat} {x:α} (ha:P.length=a) (h:A[t]? =some x):(P++A++B++S)[a+t]? =some x:=by
 have hl:=(ah.1 h).1;rw[ep,ep,j7 (by omega),j9 (by omega), ←h];congr 1;omega
theorem azT {α:Type} {P A B S:List α} {m t:Nat} {x:α} (hm:P.length+A.length=m) (h:B[t]? =some x):(P++A++B++S)[m+t]? =some x:=by
 have hl:=(ah.1 h).1;rw[ep,j7 Zi,j9 Zi, ←h];congr 1;rw[ag];omega
theorem uH {l:List CV} (h:oL l) {i j:Nat} {x y:CV} (hij:i≤j) (hx:l[i]? =some x) (hy:l[j]? =some y):x.1≤y.1:=by
 obtain⟨h1,h2⟩:=ah.1 hx;obtain⟨h3,h4⟩:=ah.1 hy;by_cases e:i=j
 ·subst e;rw[hx] at hy;cases hy;exact Int.le_refl _
 ·have:=List.pairwise_iff_getElem.1 h i j h1 h3 (by omega);rw[h2,h4] at this;exact this
theorem AN {α:Type} {l:List α} {k:Nat} {x:α} (h:x∈l.take k): ∃ i,i<k∧l[i]? =some x:=by
 obtain⟨i,hi⟩:=kp.1 h;rw[List.getElem?_take] at hi;split at hi
 ·exact⟨i,by assumption,hi⟩
 ·cases hi
theorem AO {α:Type} {l:List α} {k:Nat} {x:α} (h:x∈l.drop k): ∃ i,k≤i∧l[i]? =some x:=by
 obtain⟨i,hi⟩:=kp.1 h;rw[List.getElem?_drop] at hi;exact⟨k+i,by omega,hi⟩
def mv (P B S:List CV) (x:CV) (t:Nat):List CV:=P++B.take t++x::(B.drop t++S)
theorem aiO (P B S:List CV) (x:CV) {t a:Nat} {b:CV} (ha:P.length=a) (hb:B[t]? =some b):(mv P B S x t)[a+t]? =some x∧(mv P B S x t)[a+(t+1)]? =some b∧((mv P B S x t).set (a+t) b)[a+(t+1)]? =some b∧((mv P B S x t).set (a+t) b).set (a+(t+1)) x=mv P B S x (t+1)∧(mv P B S x (t+1))[a+t]? =some b∧(mv P B S x (t+1))[a+(t+1)]? =some x∧((mv P B S x (t+1)).set (a+(t+1)) b)[a+t]? =some b∧((mv P B S x (t+1)).set (a+(t+1)) b).set (a+t) x=mv P B S x t:=by
 obtain⟨h1,h2⟩:=ah.1 hb;have ed:B.drop t=b::B.drop (t+1):=by rw[cu h1,h2]
 have et:B.take (t+1)=B.take t++[b]:=by rw[ki,hb];rfl
 have e1:mv P B S x t=(P++B.take t)++x::([]++b::(B.drop (t+1)++S)):=by unfold mv;rw[ed];simp
 have e2:mv P B S x (t+1)=(P++B.take t)++b::([]++x::(B.drop (t+1)++S)):=by unfold mv;rw[et];simp
 have hl:(P++B.take t).length=a+t:=by rw[ag,b9];omega
 have g1:=AL (P++B.take t) [] (B.drop (t+1)++S) x b (i:=a+t) (j:=a+(t+1)) hl rfl;have g2:=AL (P++B.take t) [] (B.drop (t+1)++S) b x (i:=a+t) (j:=a+(t+1)) hl rfl;rw[←e1, ←e2] at g1 g2;exact⟨g1.1,g1.2.1,g1.2.2.1,g1.2.2.2.1,g2.1,g2.2.1,g2.2.2.2.2.1,g2.2.2.2.2.2⟩
theorem atW (P B S:List CV) (x:CV) (t:Nat):(mv P B S x t).length=P.length+B.length+1+S.length:=by
 unfold mv;simp only[ag,fb,b9,eu];omega
attribute [local irreducible] box own sl gH aH bC Qt cJ cG dC dG eO
theorem atX (q:Option Addr) (c kb:Nat) (P B S:List CV) (x:CV) (a e N:Nat) (ha:P.length=a) (he:a+1+B.length=e) (hN:P.length+B.length+1+S.length=N) (hNb:N≤1000000000) (hwx:0≤x.1∧x.1≤1000000000000) (hw: ∀ y∈B,0≤y.1∧y.1≤1000000000000) (hs:oL B):
  Ct Tryz.prog 360 [.slice q N c, .int .i64 (a:Int), .int .i64 ((a+1:Nat):Int), .int .i64 (e:Int),sF kb] [own (.slice q N c) 437 2 N (flat fC (P++[x]++B++S)),KB kb]
   fun v H'=>v= .tuple #[]∧H'=[own (.slice q N c) 437 2 N (flat fC (P++aK (x::B)++S))]:=by
 subst he;unfold sF;rw[show P++[x]++B++S=mv P B S x 0 by simp [mv]];have hZl:=atW P B S x;have hx0:(mv P B S x 0)[a+0]? =some x:=by unfold mv;rw[List.take_zero,jc];exact AK _ _ _ ha
 rw[Nat.add_zero] at hx0;have hBt: ∀ (t:Nat) (y:CV),B[t]? =some y→(mv P B S x 0)[a+1+t]? =some y:=fun t y hy=>by
  rw[show mv P B S x 0=P++[x]++B++S by simp [mv]];exact azT (by rw[ha];rfl) hy
 (refine Ye Tryz.func360 Tryz.ntmps360 ?_;intro Fr);refine mD aN (by omega) ?_;rintro g rfl hc;refine aZ ?_;(refine aC (σ:=Nat×Nat) (fun y=>(y.1≤y.2∧y.2≤B.length)∧(∀ t z,B[t]? =some z→t<y.1→z.1<x.1)∧ ∀ t z,B[t]? =some z→y.2≤t→x.1≤z.1) (fun y=>[(10, .int .i64 ((a+1+y.1:Nat):Int)),(11, .int .i64 ((a+1+y.2:Nat):Int))]) (fun y=>[own (.slice (some ⟨g,0,none⟩) N c) 437 2 N (flat fC (mv P B S x 0))]) _ (fun y=>y.2-y.1) ((0,B.length)) (by exact⟨⟨fg _,aq _⟩,fun t z _ h=>absurd h (mj _),fun t z h h2=>by have:=(ah.1 h).1;dsimp only at h2;omega⟩) (by exact gA) Zb (fun⟨u,v⟩ ⟨⟨huv,hvl⟩,hu,hv⟩=> ?_);refine Da ?_);dsimp only at huv hvl hu hv;rcases iq u v with hlt|hge
 ·obtain⟨w,hw2⟩: ∃ w,(u+v)/2=w:=⟨_,rfl⟩;have hwu:u≤w∧w<v:=by omega
  obtain⟨y,hy⟩: ∃ y,B[w]? =some y:=⟨_,aj (by omega)⟩;have hyl:=hBt w y hy;have hh:(((a+1+u:Nat):Int)+((a+1+v:Nat):Int))/2=((a+1+w:Nat):Int):=by omega
  have hwy:=hw y (jm hy);have CM:=AM kb y x hwy hwx;have hi1:a+1+w<N:=by omega
  have hi2:a<N:=by omega
  generalize hZ:mv P B S x 0=Z at*;by_cases hyx:y.1<x.1
  ·have hsub:y.1-x.1<0:=by omega
   refine Yw7 ?_;rw[hh];(refine aA 3 ?_;refine aU _ rfl rfl wt (by decide +kernel) iS rfl (bR rfl rfl rfl aN rfl (by omega)) ?_);refine gX ?_;(refine aA 9 ?_;refine Oa (l:=by exact (dD (first:=[]) (cap:=[aH kb 0]) rfl rfl rfl CM rfl (Lp.view (lR kb) Lp.nil (cR aN)))) (k:= ?_);rintro _ _ ⟨rfl,rfl⟩;refine Te ?_;(try refine Da ?_));refine pT ?_;rw[←hZ];refine Ee ((w+1,v)) ?_ ?_
   ·refine⟨⟨by dsimp only;omega,hvl⟩,fun t z hz ht=> ?_,hv⟩;have:=uH hs (by dsimp only at ht;omega:t≤w) hz hy;omega
   ·dsimp only;omega
  ·have hsub: ¬ y.1-x.1<0:=by omega
   refine Yw7 ?_;rw[hh];(refine aA 3 ?_;refine aU _ rfl rfl wt (by decide +kernel) iS rfl (bR rfl rfl rfl aN rfl (by omega)) ?_);refine gX ?_;(refine aA 9 ?_;refine Oa (l:=by exact (dD (first:=[]) (cap:=[aH kb 0]) rfl rfl rfl CM rfl (Lp.view (lR kb) Lp.nil (cR aN)))) (k:= ?_);rintro _ _ ⟨rfl,rfl⟩;refine Te ?_;(try refine Da ?_));refine pT ?_;rw[←hZ];refine Ee ((u,w)) ?_ ?_
   ·refine⟨⟨by dsimp only;omega,by dsimp only;omega⟩,hu,fun t z hz ht=> ?_⟩;have:=uH hs (by dsimp only at ht;omega:w≤t) hy hz;omega
   ·dsimp only;omega
 ·have huv2:v=u:=by omega
  subst huv2;have hfin:P++aK (x::B)++S=mv P B S x v:=by
   have h1 := atU (a := B.take v) (b := B.drop v) (x := x) (by rw [il]; exact hs) (fun z hz => by
    obtain⟨i,hi,h2⟩:=AN hz;exact hu i z h2 hi) (fun z hz=>by
    obtain ⟨i, hi, h2⟩ := AO hz;exact hv i z h2 hi)
   rw[il] at h1;rw[←h1];simp [mv]
  rw[hfin];have hstep:=fun (t:Nat) (b:CV)=>aiO P B S x (t:=t) (a:=a) (b:=b) ha
  have hdec:((a+1+v:Nat):Int)-1=((a+v:Nat):Int):=by omega
  clear hu hv hfin hBt hx0;refine aZ ?_;(refine aC (σ:=Nat) (fun t=>t≤v) (fun t=>[(13, .int .i64 ((a+t:Nat):Int))]) (fun t=>[own (.slice (some ⟨g,0,none⟩) N c) 437 2 N (flat fC (mv P B S x t))]) _ (fun t=>v-t) (0) Zp (by exact gA) Zb (fun t ht=> ?_);refine Da ?_);rcases iq t v with htl|htg
  ·obtain⟨b,hb⟩: ∃ b,B[t]? =some b:=⟨_,aj (by omega)⟩;obtain⟨z1,z2,z3,z4,_⟩:=hstep t b hb;have hJ:((a+t:Nat):Int)+1=((a+(t+1):Nat):Int):=by omega
   have hA:a+t<N:=by omega
   have hB:a+(t+1)<N:=by omega
   have hlZ:=hZl t;rw[hN] at hlZ;generalize mv P B S x t=Z at*;refine dN ?_;refine IM (by kernel_rfl) Za ?_;refine aL 0 rfl wt (by decide +kernel) rfl (cD rfl rfl) ?_;refine aL 1 rfl wt (by decide +kernel) rfl (cD rfl rfl) ?_;refine aL 2 rfl wt (by decide +kernel) rfl (cD rfl rfl) ?_;refine aL 3 rfl wt (by decide +kernel) rfl (cD rfl rfl) ?_;refine aL 4 rfl wt (by decide +kernel) rfl (ES rfl rfl rfl (by omega)) ?_;refine aL 5 rfl wt (by decide +kernel) rfl (cD rfl rfl) ?_;refine aL 6 rfl wt (by decide +kernel) rfl (cD rfl rfl) ?_;refine aL 7 rfl wt (by decide +kernel) rfl (ES rfl rfl rfl (by omega)) ?_;rw[hJ];refine aL 8 rfl wt (by decide +kernel) rfl (jJ (i:=a+(t+1)) rfl rfl rfl hB) ?_;refine aL 10 rfl wt (by decide +kernel) rfl (cD rfl rfl) ?_;refine aL 11 rfl wt (by decide +kernel) rfl (cD rfl rfl) ?_;refine aL 12 rfl wt (by decide +kernel) rfl (jJ (i:=a+t) rfl rfl rfl hA) ?_;refine IP (Hq:=[own (.slice (some ⟨g,0,none⟩) N c) 437 2 N (flat fC Z)]) (nk:=[15,16,17]) (r:=1) (i:=0) ?_;refine gX ?_;(refine aA 15 ?_;refine Ob (l:=by exact (aG (f:=fC) (q':=b) rfl rfl rfl rfl (by exact aN) rfl (by omega) (by intro _;rfl) (by assumption) rfl rfl (by rfl))) (k:= ?_);rintro _ _ ⟨rfl,rfl⟩;refine Te ?_;(try refine Da ?_));(refine aA 16 ?_;refine Oa (l:=by exact (gV (bR (i:=a+(t+1)) rfl rfl rfl aN (by omega) (by omega)))) (k:= ?_);rintro _ _ ⟨rfl,rfl⟩;refine Te ?_;(try refine Da ?_));(refine aA 17 ?_;refine Ob (l:=by exact (aG (f:=fC) (q':=x) rfl rfl rfl rfl (by exact aN) rfl (by omega) (by intro _;rfl) (by assumption) rfl rfl (by rfl))) (k:= ?_);rintro _ _ ⟨rfl,rfl⟩;refine Te ?_;(try refine Da ?_));rw[z4];refine pT ?_;rw[hJ];refine Ee (t+1) ?_ ?_
   ·exact htl
   ·omega
  ·have:t=v:=by omega
   subst this;refine aZ ?_;exact Ea (x:=⟨rfl,rfl⟩)
theorem amP (q:Option Addr) (c kb:Nat) (P A S:List CV) (x:CV) (a m N:Nat) (ha:P.length=a) (hm:a+A.length=m) (hA2:2≤A.length) (hN:P.length+A.length+1+S.length=N) (hNb:N≤1000000000) (hwx:0≤x.1∧x.1≤1000000000000) (hw: ∀ y∈A,0≤y.1∧y.1≤1000000000000) (hs:oL A):
  Ct Tryz.prog 360 [.slice q N c, .int .i64 (a:Int), .int .i64 (m:Int), .int .i64 ((m+1:Nat):Int),sF kb] [own (.slice q N c) 437 2 N (flat fC (P++A++[x]++S)),KB kb]
   fun v H'=>v= .tuple #[]∧H'=[own (.slice q N c) 437 2 N (flat fC (P++aK (A++[x])++S))]:=by
 subst hm;unfold sF;have e0:P++A++[x]++S=mv P A S x A.length:=by simp [mv]
 rw[e0];have hZl:=atW P A S x;have hx0:(mv P A S x A.length)[a+A.length]? =some x:=by
  rw[←e0];exact azT (t:=0) (by rw[ha];rfl) rfl
 have hAt: ∀ (t:Nat) (y:CV),A[t]? =some y→(mv P A S x A.length)[a+t]? =some y:=fun t y hy=>by
  rw[←e0];exact aEL ha hy
 (refine Ye Tryz.func360 Tryz.ntmps360 ?_;intro Fr);refine mD aN (by omega) ?_;rintro g rfl hc;refine aZ ?_;(refine aC (σ:=Nat×Nat) (fun y=>(y.1≤y.2∧y.2≤A.length)∧(∀ t z,A[t]? =some z→t<y.1→z.1≤x.1)∧ ∀ t z,A[t]? =some z→y.2≤t→x.1<z.1) (fun y=>[(14, .int .i64 ((a+y.1:Nat):Int)),(15, .int .i64 ((a+y.2:Nat):Int))]) (fun y=>[own (.slice (some ⟨g,0,none⟩) N c) 437 2 N (flat fC (mv P A S x A.length))]) _ (fun y=>y.2-y.1) ((0,A.length)) (by exact⟨⟨fg _,aq _⟩,fun t z _ h=>absurd h (mj _),fun t z h h2=>by have:=(ah.1 h).1;dsimp only at h2;omega⟩) (by exact gA) Zb (fun⟨u,v⟩ ⟨⟨huv,hvl⟩,hu,hv⟩=> ?_);refine Da ?_);dsimp only at huv hvl hu hv;rcases iq u v with hlt|hge
 ·obtain⟨w,hw2⟩: ∃ w,(u+v)/2=w:=⟨_,rfl⟩;have hwu:u≤w∧w<v:=by omega
  obtain⟨y,hy⟩: ∃ y,A[w]? =some y:=⟨_,aj (by omega)⟩;have hyl:=hAt w y hy;have hh:(((a+u:Nat):Int)+((a+v:Nat):Int))/2=((a+w:Nat):Int):=by omega
  have hwy:=hw y (jm hy);have CM:=AM kb x y hwx hwy;have hi1:a+w<N:=by omega
  have hi2:a+A.length<N:=by omega
  generalize hZ:mv P A S x A.length=Z at*;by_cases hyx:x.1<y.1
  ·have hsub:x.1-y.1<0:=by omega
   refine Yw7 ?_;rw[hh];(refine aA 7 ?_;refine aU _ rfl rfl wt (by decide +kernel) iS rfl (bR rfl rfl rfl aN rfl (by omega)) ?_);refine gX ?_;(refine aA 9 ?_;refine Oa (l:=by exact (dD (first:=[]) (cap:=[aH kb 0]) rfl rfl rfl CM rfl (Lp.view (lR kb) Lp.nil (cR aN)))) (k:= ?_);rintro _ _ ⟨rfl,rfl⟩;refine Te ?_;(try refine Da ?_));refine pT ?_;rw[←hZ];refine Ee ((u,w)) ?_ ?_
   ·refine⟨⟨by dsimp only;omega,by dsimp only;omega⟩,hu,fun t z hz ht=> ?_⟩;have:=uH hs (by dsimp only at ht;omega:w≤t) hy hz;omega
   ·dsimp only;omega
  ·have hsub: ¬ x.1-y.1<0:=by omega
   refine Yw7 ?_;rw[hh];(refine aA 7 ?_;refine aU _ rfl rfl wt (by decide +kernel) iS rfl (bR rfl rfl rfl aN rfl (by omega)) ?_);refine gX ?_;(refine aA 9 ?_;refine Oa (l:=by exact (dD (first:=[]) (cap:=[aH kb 0]) rfl rfl rfl CM rfl (Lp.view (lR kb) Lp.nil (cR aN)))) (k:= ?_);rintro _ _ ⟨rfl,rfl⟩;refine Te ?_;(try refine Da ?_));refine pT ?_;rw[←hZ];refine Ee ((w+1,v)) ?_ ?_
   ·refine⟨⟨by dsimp only;omega,hvl⟩,fun t z hz ht=> ?_,hv⟩;have:=uH hs (by dsimp only at ht;omega:t≤w) hz hy;omega
   ·dsimp only;omega
 ·have huv2:v=u:=by omega
  subst huv2;have hfin:P++aK (A++[x])++S=mv P A S x v:=by
   have h1 := RX (a := A.take v) (b := A.drop v) (x := x) (by rw [il]; exact hs) (fun z hz => by
    obtain⟨i,hi,h2⟩:=AN hz;exact hu i z h2 hi) (fun z hz=>by
    obtain ⟨i, hi, h2⟩ := AO hz;exact hv i z h2 hi)
   rw[il] at h1;rw[←h1];simp [mv]
  rw[hfin];have hstep:=fun (t:Nat) (b:CV)=>aiO P A S x (t:=t) (a:=a) (b:=b) ha
  clear hu hv hfin hAt hx0;refine aZ ?_;(refine aC (σ:=Nat) (fun t=>v≤t∧t≤A.length) (fun t=>[(17, .int .i64 ((a+t:Nat):Int))]) (fun t=>[own (.slice (some ⟨g,0,none⟩) N c) 437 2 N (flat fC (mv P A S x t))]) _ (fun t=>t) (A.length) (by exact⟨hvl,aq _⟩) (by exact gA) Zb (fun t ⟨ht,ht2⟩=> ?_);refine Da ?_);rcases iq v t with htl|htg
  ·obtain⟨t,rfl⟩: ∃ k,t=k+1:=⟨t-1,by omega⟩;obtain⟨b,hb⟩: ∃ b,A[t]? =some b:=⟨_,aj (by omega)⟩;obtain⟨_,_,_,_,z1,z2,z3,z4⟩:=hstep t b hb;have hJ:((a+(t+1):Nat):Int)-1=((a+t:Nat):Int):=by omega
   have hA:a+(t+1)<N:=by omega
   have hB:a+t<N:=by omega
   have hlZ:=hZl (t+1);rw[hN] at hlZ;generalize mv P A S x (t+1)=Z at*;refine dN ?_;refine IM (by kernel_rfl) Za ?_;refine aL 0 rfl wt (by decide +kernel) rfl (cD rfl rfl) ?_;refine aL 1 rfl wt (by decide +kernel) rfl (cD rfl rfl) ?_;refine aL 2 rfl wt (by decide +kernel) rfl (cD rfl rfl) ?_;refine aL 3 rfl wt (by decide +kernel) rfl (cD rfl rfl) ?_;refine aL 4 rfl wt (by decide +kernel) rfl (QB rfl rfl rfl (by omega)) ?_;refine aL 5 rfl wt (by decide +kernel) rfl (cD rfl rfl) ?_;refine aL 6 rfl wt (by decide +kernel) rfl (cD rfl rfl) ?_;refine aL 7 rfl wt (by decide +kernel) rfl (QB rfl rfl rfl (by omega)) ?_;rw[hJ];refine aL 8 rfl wt (by decide +kernel) rfl (jJ (i:=a+t) rfl rfl rfl hB) ?_;refine aL 10 rfl wt (by decide +kernel) rfl (cD rfl rfl) ?_;refine aL 11 rfl wt (by decide +kernel) rfl (cD rfl rfl) ?_;refine aL 12 rfl wt (by decide +kernel) rfl (jJ (i:=a+(t+1)) rfl rfl rfl hA) ?_;refine IP (Hq:=[own (.slice (some ⟨g,0,none⟩) N c) 437 2 N (flat fC Z)]) (nk:=[15,16,17]) (r:=1) (i:=0) ?_;refine gX ?_;(refine aA 15 ?_;refine Ob (l:=by exact (aG (f:=fC) (q':=b) rfl rfl rfl rfl (by exact aN) rfl (by omega) (by intro _;rfl) (by assumption) rfl rfl (by rfl))) (k:= ?_);rintro _ _ ⟨rfl,rfl⟩;refine Te ?_;(try refine Da ?_));(refine aA 16 ?_;refine Oa (l:=by exact (gV (bR (i:=a+t) rfl rfl rfl aN (by omega) (by omega)))) (k:= ?_);rintro _ _ ⟨rfl,rfl⟩;refine Te ?_;(try refine Da ?_));(refine aA 17 ?_;refine Ob (l:=by exact (aG (f:=fC) (q':=x) rfl rfl rfl rfl (by exact aN) rfl (by omega) (by intro _;rfl) (by assumption) rfl rfl (by rfl))) (k:= ?_);rintro _ _ ⟨rfl,rfl⟩;refine Te ?_;(try refine Da ?_));rw[z4];refine pT ?_;rw[hJ];refine Ee (t) ?_ ?_
   ·exact⟨by omega,by omega⟩
   ·omega
  ·have:t=v:=by omega
   subst this;refine aZ ?_;exact Ea (x:=⟨rfl,rfl⟩)
end Go.Proofs.YtbjalbcdbgcgdaaGreat.nJ
