/- FsOps, packed. -/
import Derived.Test.YtbjalbcdbgcgdaaGreatOQ
import Derived.Test.YtbjalbcdbgcgdaaGreatO00
import Derived.Test.YtbjalbcdbgcgdaaGreatRows
import Derived.Lib.AppendStr
import Derived.Lib.UnsafeStr
import Derived.RangeFuncNested
import Derived.RangeFuncLeaves
import Derived.RangeFuncCalls
open Go.Proofs.Tryz renaming prog->lk
open List renaming append_assoc->fu,append_nil->ke,cons_append->dw,drop_eq_getElem_cons->bh,drop_nil->ma,drop_of_length_le->fv,eq_nil_of_length_eq_zero->bp,ext_getElem?->ep,getElem?_append_left->lu,getElem?_append_right->gz,getElem?_eq_getElem->ak,getElem?_eq_none->je,getElem?_eq_some_iff->aj,length_append->ae,length_cons->dv,length_drop->bq,length_eq_one_iff->l8,length_nil->gr,length_pos_iff->mf,length_singleton->gk,length_take->ar,map_cons->gd,map_nil->gu,map_toArray->fc,mem_append->ei,mem_append_left->jh,mem_append_right->lp,mem_cons_of_mem->a8,mem_iff_getElem?->l9,mem_of_getElem?->jg,mem_of_mem_drop->ln,mem_of_mem_take->ll,nil_append->dz,pairwise_cons->an,take_add_one->ib,take_append_drop->gl,take_of_length_le->bd
open Nat renaming add_sub_cancel_left->lr,ble->gj,blt->ao,eq_zero_or_pos->jo,le_refl->df,lt_or_ge->ig,not_lt_zero->mh,two_mul->mj,zero_le->fe
open Option renaming some.inj->a7
open Array renaming getElem?_eq_some_iff->dn
open Classical renaming choose->im,choose_spec->jb
open Go.Result renaming andThen_ok->aa
open Go.Sem renaming run_bind->ab,run_pure->ah
open Go.IntKind renaming u64->jz
open Go.Oper renaming upon->bf,wp->bj
open Go.Region renaming wanted->bc
set_option linter.unusedVariables false
set_option maxRecDepth 100000
set_option maxHeartbeats 8000000
namespace Go.Proofs.YtbjalbcdbgcgdaaGreat
namespace sl
def dQ (n:Nat) (B:Nat→Nat):List Int:=(List.range n).map fun i=>(B i:Int)
def gN (B:Nat→Nat) (i v:Nat):Nat→Nat:=fun j=>if j=i then v else B j
theorem kC (n:Nat) (B:Nat→Nat):(dQ n B).length=n:=by simp [dQ]
theorem eG {n i:Nat} (B:Nat→Nat) (h:i<n):(dQ n B)[i]? =some ((B i:Nat):Int):=by
 unfold dQ;rw[List.getElem?_map,List.getElem?_range h];rfl
theorem iD {n i:Nat} (B:Nat→Nat) (v:Nat) (h:i<n):(dQ n B).set i (v:Int)=dQ n (gN B i v):=by
 apply ep;intro j;rw[List.getElem?_set];rcases ig j n with hj|hj
 ·rw[eG _ hj,eG _ hj];unfold gN;by_cases e:i=j
  ·subst e;rw[Jg rfl,Jg (by rw[kC];exact h),Jg rfl]
  ·rw[Jf e,Jf (fun h=>e h.symm)]
 ·rw[Jf Z8,je ZG,je ZG]
theorem nA (n:Nat):List.replicate n (0:Int)=dQ n (fun _=>0):=by
 apply ep;intro j;rcases ig j n with hj|hj
 ·rw[eG _ hj,List.getElem?_replicate,Jg hj];rfl
 ·rw[je (by simpa using hj),je ZG]
theorem oZ (B:Nat→Nat) (i v:Nat):gN B i v i=v:=by unfold gN;rw[Jg rfl]
theorem vO (B:Nat→Nat) {i j:Nat} (v:Nat) (h:j≠i):gN B i v j=B j:=by unfold gN;rw[Jf h]
end sl
namespace nE
open Go.RowKit bO sl srt
def KB (b:Nat):Ent:=fro (box b [.func (.func 352) #[] #[]] 441)
theorem oA (b:Nat):(KB b).jF=false:=rfl
def wB (b:Nat):Value:= .func (.func 357) #[] #[aH b 0]
theorem TU {P:Program} {n:Nat} {F:eE} {H R:List Ent} {o:Oper} {x:Operand} {v z':Value} {T:TypeId} {b by':Nat} {t:TypeId} [ht:Ty P T false 1 by' z'] (ho:o.op= .load T x) (hx:ev F x=some (aH b 0)) (p:bQ (fro (box b [v] t)) H R):Qt P n o F H v:=fun a w ha hw=>by
 have hb:(box b [v] t).holds w:=by
  have h1:=hw.1 _ p.mem;exact h1
 have:=lE ht w ⟨b,0,none⟩ [v] rfl (fun j u hj=>by rw[addr_add,Nat.zero_add,tT hb];exact hj) (oH v);simp [execOp,ho,ha.eval hx,aH,Instr.loadAt,Instr.sureAddr,this]
theorem dO {S R:List Ent} {b:Nat} (p:bQ (KB b) S R):View S (KB b):=View.same p rfl
theorem anI {α:Type} [Key α] (l:List α) (x:α):aR (aR l++[x])=aR (l++[x]):=by
 have:=KO l [x];rwa [dA (l:=[x]) (List.pairwise_singleton _ _)] at this
instance aWP:Ty lk 441 false 1 8 .nilFunc:=⟨Jd,Jb⟩
attribute [local irreducible] box own sl bL aH bJ Qt cN cM dG dL eQ
theorem arM (x:CV):Ct lk 352 [.agg (fC x).toArray] [] fun v H'=>v= .int .i64 x.1∧H'=[]:=by
 obtain⟨w,q,n,c⟩:=x;(refine Ye Tryz.func352 Tryz.ntmps352 ?_;intro Fr);(refine bF ?_;intro b);exact Ea (x:=⟨rfl,rfl⟩)
theorem GN (b:Nat) (x y:CV) (hx:0≤x.1∧x.1≤1000000000000) (hy:0≤y.1∧y.1≤1000000000000):Ct lk 357 [.agg (fC x).toArray, .agg (fC y).toArray,aH b 0] [KB b] fun v H'=>v= .int .i64 (x.1-y.1)∧H'=[]:=by
 have K1:=arM x;have K2:=arM y;obtain⟨xw,xq,xn,xc⟩:=x;obtain⟨yw,yq,yn,yc⟩:=y;dsimp only at hx hy;(refine Ye Tryz.func357 Tryz.ntmps357 ?_;intro Fr);(repeat' (first|refine Y4 ?_|(refine Wb ?_;intro b)|fail));unfold KB;(refine aD (Hq:=[_,_,_]) [0,1,2] [] rfl Jd Za ?_);(refine aB 0 ?_;refine bN _ rfl rfl wt Je kA rfl (TU rfl rfl aU) ?_);(refine aB 3 ?_;refine bN _ rfl rfl wt Je kA rfl (TU rfl rfl aU) ?_);(repeat' (first|refine Y6 ?_|refine Wg (K1 ..) ?_|refine Wg (K2 ..) ?_|refine Wz ?_|fail));exact Ea (x:=⟨rfl,rfl⟩)
theorem PG (q:Option Addr) (c kb:Nat) (P M S:List CV) (a e N:Nat) (ha:P.length=a) (he:a+M.length=e) (hN:(P++M++S).length=N) (hN0:0<N) (hNb:N≤1000000000) (hw: ∀ x∈M,0≤x.1∧x.1≤1000000000000):
  Ct lk 359 [.slice q N c, .int .i64 (a:Int), .int .i64 (e:Int),wB kb] [own (.slice q N c) 437 2 N (flat fC (P++M++S)),KB kb]
   fun v H'=>v= .tuple #[]∧H'=[own (.slice q N c) 437 2 N (flat fC (P++aR M++S))]:=by
 have hlen:P.length+M.length+S.length=N:=by rw[←hN];simp only[ae]
 unfold wB;have h1:P++M++S=P++aR (M.take 1)++M.drop 1++S:=by
  cases M with
  |nil=>simp [aR]
  |cons x M=>simp [aR,ins]
 rw[h1];have zm:(a:Int)+1=((a+1:Nat):Int):=Z8
 (refine Ye Tryz.func359 Tryz.ntmps359 ?_;intro Fr);refine lL aU Z8 ?_;rintro g rfl hc;refine bM ?_;rw[zm];(refine aC (σ:=Nat) (fun k=>1≤k∧(k≤M.length∨k=1)) (fun k=>[(8, .int .i64 ((a+k:Nat):Int))]) (fun k=>[own (.slice (some ⟨g,0,none⟩) N c) 437 2 N (flat fC (P++aR (M.take k)++M.drop k++S))]) _ (fun k=>M.length+1-k) (1) (by exact⟨df _, .inr rfl⟩) Ze Zb (fun k ⟨hk1,hk2⟩=> ?_);refine Da ?_);rcases ig k M.length with hlt|zu
 ·obtain⟨x,hx⟩: ∃ x,M[k]? =some x:=⟨_,ak hlt⟩;obtain⟨h3,h4⟩:=aj.1 hx;have ed:M.drop k=x::M.drop (k+1):=by rw[bh h3,h4]
  have et:M.take (k+1)=M.take k++[x]:=by rw[ib,hx];rfl
  have zl:(aR (M.take k)).length=k:=by rw[fJ,ar];omega
  have zt:=kK (M.take k);have zr:=anI (M.take k) x;rw[←et] at zr;have zk: ∀ y∈aR (M.take k),0≤y.1∧y.1≤1000000000000:=fun y hy=>hw y (ll (nD.1 hy))
  have zj:=hw x (jg hx);have hdl:(M.drop (k+1)).length=M.length-(k+1):=bq;have zq:((a+k:Nat):Int)+1=((a+(k+1):Nat):Int):=Z8
  have hake:((a+k:Nat):Int)<(e:Int):=Z8
  rw[ed];generalize hL:aR (M.take k)=L at*;generalize zn:M.drop (k+1)=T at*;clear hx h3 h4 ed et hL;rw[show P++L++x::T++S=P++L++[x]++[]++(T++S) by simp];refine bM ?_;(refine aC (σ:=List CV×List CV×Nat) (fun y=>(y.1++y.2.1=L∧ ∀ z∈y.2.1,x.1<z.1)∧(y.1.length=y.2.2∧y.2.2≤k)) (fun y=>[(9, .int .i64 ((a+y.2.2:Nat):Int))]) (fun y=>[own (.slice (some ⟨g,0,none⟩) N c) 437 2 N (flat fC (P++y.1++[x]++y.2.1++(T++S)))]) _ (fun y=>y.2.2) ((L,[],k)) (by exact⟨⟨ke _,fun z hz=>absurd hz List.not_mem_nil⟩,zl,df _⟩) Ze Zb (fun⟨L1,L2,j⟩ ⟨⟨zy,zw⟩,zx,zh⟩=> ?_);refine Da ?_);dsimp only at zy zw zx zh;have done1:(L1=[]∨ ∀ z∈L1,z.1≤x.1)→L1++x::L2=aR (M.take (k+1)):=fun h=>by
   rw[←zr, ←zy];refine aaY (by rw[zy];exact zt) (fun z hz=> ?_) zw;rcases h with h|h
   ·rw[h] at hz;cases hz
   ·exact h z hz
  cases j with
  |zero=>
   have zg:L1=[]:=bp zx;have hd:=done1 (.inl zg);clear done1;refine Yw6 ?_;rw[show P++L1++[x]++L2++(T++S)=P++(L1++x::L2)++T++S by simp,hd,zq, ←zn];refine Ee (k+1) ?_ ?_
   ·exact⟨Z8, .inl hlt⟩
   ·omega
  |succ j=>
   obtain⟨L0,y,zf⟩: ∃ L0 y,L1=L0++[y]:=⟨L1.dropLast,L1.getLast (fun h=>by rw[h] at zx;simp at zx),(List.dropLast_concat_getLast _).symm⟩;subst zf;have ze:L0.length=j:=by rw[ae,gk] at zx;omega
   obtain⟨z1,z2,_,_,z5,z6⟩:=GM (P++L0) [] (L2++(T++S)) y x (i:=a+j) (j:=a+(j+1)) Zm rfl;have eZ:P++(L0++[y])++[x]++L2++(T++S)=(P++L0)++y::([]++x::(L2++(T++S))):=Ja
   have eZ2:(P++L0)++x::([]++y::(L2++(T++S)))=P++L0++[x]++(y::L2)++(T++S):=Ja
   rw[eZ];rw[eZ2] at z6;have zb:0≤y.1∧y.1≤1000000000000:=zk y (by rw[←zy];simp);have hJ:((a+(j+1):Nat):Int)-1=((a+j:Nat):Int):=Z8
   have hA:a+(j+1)<N:=Z8
   have hB:a+j<N:=Z8
   have hlZ:((P++L0)++y::([]++x::(L2++(T++S)))).length=N:=by
    have h5:=congrArg List.length zy;simp only[ae,dv,gr] at h5 zx ⊢;omega
   have CM:=GN kb x y zj zb;have eZ':=eZ;generalize (P++L0)++y::([]++x::(L2++(T++S)))=Z at*;clear eZ;by_cases za:x.1<y.1
   ·have zv:x.1-y.1<0:=Z8
    (repeat' (first|refine jU ?_|fail));(refine aD (Hq:=[_,_]) [0,1] [] rfl Jd Za ?_);refine jV ?_;rw[hJ];(refine aB 12 ?_;refine bN _ rfl rfl wt Je kA rfl (cE rfl rfl rfl aU rfl Z8) ?_);refine jV ?_;(refine aB 14 ?_;refine Oa (l:=by exact (eF (first:=[]) (cap:=[aH kb 0]) rfl rfl rfl CM rfl (Lp.view (oA kb) Lp.nil (dO aU)))) (k:= ?_);rintro _ _ ⟨rfl,rfl⟩;refine Te ?_;(try refine Da ?_));(repeat' (first|refine Y2 ?_|fail));refine zM Jd Za ?_;refine aK 0 rfl wt Je rfl (bT rfl rfl) ?_;refine aK 1 rfl wt Je rfl (bT rfl rfl) ?_;refine aK 2 rfl wt Je rfl (bT rfl rfl) ?_;refine aK 3 rfl wt Je rfl (bT rfl rfl) ?_;refine aK 4 rfl wt Je rfl (XY rfl rfl rfl Z8) ?_;refine aK 5 rfl wt Je rfl (bT rfl rfl) ?_;refine aK 6 rfl wt Je rfl (bT rfl rfl) ?_;refine aK 7 rfl wt Je rfl (XY rfl rfl rfl Z8) ?_;rw[hJ];refine aK 8 rfl wt Je rfl (gO (i:=a+j) rfl rfl rfl hB) ?_;refine aK 10 rfl wt Je rfl (bT rfl rfl) ?_;refine aK 11 rfl wt Je rfl (bT rfl rfl) ?_;refine aK 12 rfl wt Je rfl (gO (i:=a+(j+1)) rfl rfl rfl hA) ?_;refine zN (Hq:=[own (.slice (some ⟨g,0,none⟩) N c) 437 2 N (flat fC Z)]) (nk:=[15,16,17]) (r:=1) (i:=0) ?_;refine jV ?_;(refine aB 15 ?_;refine Ob (l:=by exact (aI (f:=fC) (q':=y) rfl rfl rfl rfl Zk rfl Z8 Zg Jc rfl rfl Jb)) (k:= ?_);rintro _ _ ⟨rfl,rfl⟩;refine Te ?_;(try refine Da ?_));(refine aB 16 ?_;refine Oa (l:=by exact (iA (cE (i:=a+j) rfl rfl rfl aU Z8 Z8))) (k:= ?_);rintro _ _ ⟨rfl,rfl⟩;refine Te ?_;(try refine Da ?_));(refine aB 17 ?_;refine Ob (l:=by exact (aI (f:=fC) (q':=x) rfl rfl rfl rfl Zk rfl Z8 Zg Jc rfl rfl Jb)) (k:= ?_);rintro _ _ ⟨rfl,rfl⟩;refine Te ?_;(try refine Da ?_));rw[z6];refine sO ?_;rw[hJ];refine Ee ((L0,y::L2,j)) ?_ ?_
    ·refine⟨⟨by rw[←zy];simp,fun z hz=> ?_⟩,ze,by dsimp only;omega⟩;rcases List.mem_cons.1 hz with rfl|hz
     ·exact za
     ·exact zw z hz
    ·dsimp only;omega
   ·have zv: ¬ x.1-y.1<0:=Z8
    have hd := done1 (.inr fun z hz => by
     have h5:rS (L0++[y]++L2):=by rw[zy];exact zt
     have h6:=(qJ.1 (qJ.1 h5).1).2.2;rcases ei.1 hz with hz|hz
     ·have h7:z.1≤y.1:=h6 z hz y List.mem_cons_self;omega
     ·rw [List.mem_singleton.1 hz]; omega)
    (repeat' (first|refine jU ?_|fail));(refine aD (Hq:=[_,_]) [0,1] [] rfl Jd Za ?_);refine jV ?_;rw[hJ];(refine aB 12 ?_;refine bN _ rfl rfl wt Je kA rfl (cE rfl rfl rfl aU rfl Z8) ?_);refine jV ?_;(refine aB 14 ?_;refine Oa (l:=by exact (eF (first:=[]) (cap:=[aH kb 0]) rfl rfl rfl CM rfl (Lp.view (oA kb) Lp.nil (dO aU)))) (k:= ?_);rintro _ _ ⟨rfl,rfl⟩;refine Te ?_;(try refine Da ?_));refine sO ?_;rw[←eZ',show P++(L0++[y])++[x]++L2++(T++S)=P++(L0++[y]++x::L2)++T++S by simp,hd,zq, ←zn];refine Ee (k+1) ?_ ?_
    ·exact⟨Z8, .inl hlt⟩
    ·omega
 ·have hM:M.take k=M:=bd zu;have z8:M.drop k=[]:=fv zu;rw[hM,z8,ke];refine bM ?_;exact Eb (x:=⟨rfl,rfl⟩)
end nE
namespace nE
open Go.RowKit bO sl srt
theorem aRI {α:Type} {P A B S:List α} {a t:Nat} {x:α} (ha:P.length=a) (h:A[t]? =some x):(P++A++B++S)[a+t]? =some x:=by
 have hl:=(aj.1 h).1;rw[fu,fu,gz Z8,lu Z8, ←h];congr 1;omega
theorem aLS {α:Type} {P A B S:List α} {m t:Nat} {x:α} (hm:P.length+A.length=m) (h:B[t]? =some x):(P++A++B++S)[m+t]? =some x:=by
 have hl:=(aj.1 h).1;rw[fu,gz Zm,lu Zm, ←h];congr 1;rw[ae];omega
theorem xX {l:List CV} (h:rS l) {i j:Nat} {x y:CV} (hij:i≤j) (hx:l[i]? =some x) (hy:l[j]? =some y):x.1≤y.1:=by
 obtain⟨h1,h2⟩:=aj.1 hx;obtain⟨h3,h4⟩:=aj.1 hy;by_cases e:i=j
 ·subst e;rw[hx] at hy;cases hy;exact Int.le_refl _
 ·have:=List.pairwise_iff_getElem.1 h i j h1 h3 Z8;rw[h2,h4] at this;exact this
theorem GO {α:Type} {l:List α} {k:Nat} {x:α} (h:x∈l.take k): ∃ i,i<k∧l[i]? =some x:=by
 obtain⟨i,hi⟩:=l9.1 h;rw[List.getElem?_take] at hi;split at hi
 ·exact⟨i,Jc,hi⟩
 ·cases hi
theorem GP {α:Type} {l:List α} {k:Nat} {x:α} (h:x∈l.drop k): ∃ i,k≤i∧l[i]? =some x:=by
 obtain⟨i,hi⟩:=l9.1 h;rw[List.getElem?_drop] at hi;exact⟨k+i,Z8,hi⟩
def mv (P B S:List CV) (x:CV) (t:Nat):List CV:=P++B.take t++x::(B.drop t++S)
theorem arN (P B S:List CV) (x:CV) {t a:Nat} {b:CV} (ha:P.length=a) (hb:B[t]? =some b):(mv P B S x t)[a+t]? =some x∧(mv P B S x t)[a+(t+1)]? =some b∧((mv P B S x t).set (a+t) b)[a+(t+1)]? =some b∧((mv P B S x t).set (a+t) b).set (a+(t+1)) x=mv P B S x (t+1)∧(mv P B S x (t+1))[a+t]? =some b∧(mv P B S x (t+1))[a+(t+1)]? =some x∧((mv P B S x (t+1)).set (a+(t+1)) b)[a+t]? =some b∧((mv P B S x (t+1)).set (a+(t+1)) b).set (a+t) x=mv P B S x t:=by
 obtain⟨h1,h2⟩:=aj.1 hb;have ed:B.drop t=b::B.drop (t+1):=by rw[bh h1,h2]
 have et:B.take (t+1)=B.take t++[b]:=by rw[ib,hb];rfl
 have e1:mv P B S x t=(P++B.take t)++x::([]++b::(B.drop (t+1)++S)):=by unfold mv;rw[ed];simp
 have e2:mv P B S x (t+1)=(P++B.take t)++b::([]++x::(B.drop (t+1)++S)):=by unfold mv;rw[et];simp
 have hl:(P++B.take t).length=a+t:=by rw[ae,ar];omega
 have g1:=GM (P++B.take t) [] (B.drop (t+1)++S) x b (i:=a+t) (j:=a+(t+1)) hl rfl;have g2:=GM (P++B.take t) [] (B.drop (t+1)++S) b x (i:=a+t) (j:=a+(t+1)) hl rfl;rw[←e1, ←e2] at g1 g2;exact⟨g1.1,g1.2.1,g1.2.2.1,g1.2.2.2.1,g2.1,g2.2.1,g2.2.2.2.2.1,g2.2.2.2.2.2⟩
theorem TV (P B S:List CV) (x:CV) (t:Nat):(mv P B S x t).length=P.length+B.length+1+S.length:=by
 unfold mv;simp only[ae,dv,ar,bq];omega
attribute [local irreducible] box own sl bL aH bJ Qt cN cM dG dL eQ
theorem aEQ (q:Option Addr) (c kb:Nat) (P B S:List CV) (x:CV) (a e N:Nat) (ha:P.length=a) (he:a+1+B.length=e) (hN:P.length+B.length+1+S.length=N) (hNb:N≤1000000000) (zq:0≤x.1∧x.1≤1000000000000) (hw: ∀ y∈B,0≤y.1∧y.1≤1000000000000) (hs:rS B):
  Ct lk 360 [.slice q N c, .int .i64 (a:Int), .int .i64 ((a+1:Nat):Int), .int .i64 (e:Int),wB kb] [own (.slice q N c) 437 2 N (flat fC (P++[x]++B++S)),KB kb]
   fun v H'=>v= .tuple #[]∧H'=[own (.slice q N c) 437 2 N (flat fC (P++aR (x::B)++S))]:=by
 subst he;unfold wB;rw[show P++[x]++B++S=mv P B S x 0 by simp [mv]];have zn:=TV P B S x;have zu:(mv P B S x 0)[a+0]? =some x:=by unfold mv;rw[List.take_zero,ke];exact GL _ _ _ ha
 rw[Nat.add_zero] at zu;have zt: ∀ (t:Nat) (y:CV),B[t]? =some y→(mv P B S x 0)[a+1+t]? =some y:=fun t y hy=>by
  rw[show mv P B S x 0=P++[x]++B++S by simp [mv]];exact aLS (by rw[ha];rfl) hy
 (refine Ye Tryz.func360 Tryz.ntmps360 ?_;intro Fr);refine lL aU Z8 ?_;rintro g rfl hc;refine bM ?_;(refine aC (σ:=Nat×Nat) (fun y=>(y.1≤y.2∧y.2≤B.length)∧(∀ t z,B[t]? =some z→t<y.1→z.1<x.1)∧ ∀ t z,B[t]? =some z→y.2≤t→x.1≤z.1) (fun y=>[(10, .int .i64 ((a+1+y.1:Nat):Int)),(11, .int .i64 ((a+1+y.2:Nat):Int))]) (fun y=>[own (.slice (some ⟨g,0,none⟩) N c) 437 2 N (flat fC (mv P B S x 0))]) _ (fun y=>y.2-y.1) ((0,B.length)) (by exact⟨⟨fe _,df _⟩,fun t z _ h=>absurd h (mh _),fun t z h h2=>by have:=(aj.1 h).1;dsimp only at h2;omega⟩) Ze Zb (fun⟨u,v⟩ ⟨⟨zm,zr⟩,hu,hv⟩=> ?_);refine Da ?_);dsimp only at zm zr hu hv;rcases ig u v with hlt|hge
 ·obtain⟨w,hw2⟩: ∃ w,(u+v)/2=w:=⟨_,rfl⟩;have hwu:u≤w∧w<v:=Z8
  obtain⟨y,hy⟩: ∃ y,B[w]? =some y:=⟨_,ak Z8⟩;have hyl:=zt w y hy;have hh:(((a+1+u:Nat):Int)+((a+1+v:Nat):Int))/2=((a+1+w:Nat):Int):=Z8
  have zl:=hw y (jg hy);have CM:=GN kb y x zl zq;have hi1:a+1+w<N:=Z8
  have hi2:a<N:=Z8
  generalize hZ:mv P B S x 0=Z at*;by_cases hyx:y.1<x.1
  ·have zw:y.1-x.1<0:=Z8
   refine Yw8 ?_;rw[hh];(refine aB 3 ?_;refine bN _ rfl rfl wt Je kA rfl (cE rfl rfl rfl aU rfl Z8) ?_);refine jV ?_;(refine aB 9 ?_;refine Oa (l:=by exact (eF (first:=[]) (cap:=[aH kb 0]) rfl rfl rfl CM rfl (Lp.view (oA kb) Lp.nil (dO aU)))) (k:= ?_);rintro _ _ ⟨rfl,rfl⟩;refine Te ?_;(try refine Da ?_));refine sO ?_;rw[←hZ];refine Ee ((w+1,v)) ?_ ?_
   ·refine⟨⟨by dsimp only;omega,zr⟩,fun t z hz ht=> ?_,hv⟩;have:=xX hs (by dsimp only at ht;omega:t≤w) hz hy;omega
   ·dsimp only;omega
  ·have zw: ¬ y.1-x.1<0:=Z8
   refine Yw8 ?_;rw[hh];(refine aB 3 ?_;refine bN _ rfl rfl wt Je kA rfl (cE rfl rfl rfl aU rfl Z8) ?_);refine jV ?_;(refine aB 9 ?_;refine Oa (l:=by exact (eF (first:=[]) (cap:=[aH kb 0]) rfl rfl rfl CM rfl (Lp.view (oA kb) Lp.nil (dO aU)))) (k:= ?_);rintro _ _ ⟨rfl,rfl⟩;refine Te ?_;(try refine Da ?_));refine sO ?_;rw[←hZ];refine Ee ((u,w)) ?_ ?_
   ·refine⟨⟨by dsimp only;omega,by dsimp only;omega⟩,hu,fun t z hz ht=> ?_⟩;have:=xX hs (by dsimp only at ht;omega:w≤t) hy hz;omega
   ·dsimp only;omega
 ·have zv:v=u:=Z8
  subst zv;have zy:P++aR (x::B)++S=mv P B S x v:=by
   have h1 := aEO (a := B.take v) (b := B.drop v) (x := x) (by rw [gl]; exact hs) (fun z hz => by
    obtain⟨i,hi,h2⟩:=GO hz;exact hu i z h2 hi) (fun z hz=>by
    obtain ⟨i, hi, h2⟩ := GP hz;exact hv i z h2 hi)
   rw[gl] at h1;rw[←h1];simp [mv]
  rw[zy];have zx:=fun (t:Nat) (b:CV)=>arN P B S x (t:=t) (a:=a) (b:=b) ha
  have hdec:((a+1+v:Nat):Int)-1=((a+v:Nat):Int):=Z8
  clear hu hv zy zt zu;refine bM ?_;(refine aC (σ:=Nat) (fun t=>t≤v) (fun t=>[(13, .int .i64 ((a+t:Nat):Int))]) (fun t=>[own (.slice (some ⟨g,0,none⟩) N c) 437 2 N (flat fC (mv P B S x t))]) _ (fun t=>v-t) (0) Zx Ze Zb (fun t ht=> ?_);refine Da ?_);rcases ig t v with zk|htg
  ·obtain⟨b,hb⟩: ∃ b,B[t]? =some b:=⟨_,ak Z8⟩;obtain⟨z1,z2,z3,z4,_⟩:=zx t b hb;have hJ:((a+t:Nat):Int)+1=((a+(t+1):Nat):Int):=Z8
   have hA:a+t<N:=Z8
   have hB:a+(t+1)<N:=Z8
   have zj:=zn t;rw[hN] at zj;generalize mv P B S x t=Z at*;refine kB ?_;refine zM Jd Za ?_;refine aK 0 rfl wt Je rfl (bT rfl rfl) ?_;refine aK 1 rfl wt Je rfl (bT rfl rfl) ?_;refine aK 2 rfl wt Je rfl (bT rfl rfl) ?_;refine aK 3 rfl wt Je rfl (bT rfl rfl) ?_;refine aK 4 rfl wt Je rfl (MD rfl rfl rfl Z8) ?_;refine aK 5 rfl wt Je rfl (bT rfl rfl) ?_;refine aK 6 rfl wt Je rfl (bT rfl rfl) ?_;refine aK 7 rfl wt Je rfl (MD rfl rfl rfl Z8) ?_;rw[hJ];refine aK 8 rfl wt Je rfl (gO (i:=a+(t+1)) rfl rfl rfl hB) ?_;refine aK 10 rfl wt Je rfl (bT rfl rfl) ?_;refine aK 11 rfl wt Je rfl (bT rfl rfl) ?_;refine aK 12 rfl wt Je rfl (gO (i:=a+t) rfl rfl rfl hA) ?_;refine zN (Hq:=[own (.slice (some ⟨g,0,none⟩) N c) 437 2 N (flat fC Z)]) (nk:=[15,16,17]) (r:=1) (i:=0) ?_;refine jV ?_;(refine aB 15 ?_;refine Ob (l:=by exact (aI (f:=fC) (q':=b) rfl rfl rfl rfl Zk rfl Z8 Zg Jc rfl rfl Jb)) (k:= ?_);rintro _ _ ⟨rfl,rfl⟩;refine Te ?_;(try refine Da ?_));(refine aB 16 ?_;refine Oa (l:=by exact (iA (cE (i:=a+(t+1)) rfl rfl rfl aU Z8 Z8))) (k:= ?_);rintro _ _ ⟨rfl,rfl⟩;refine Te ?_;(try refine Da ?_));(refine aB 17 ?_;refine Ob (l:=by exact (aI (f:=fC) (q':=x) rfl rfl rfl rfl Zk rfl Z8 Zg Jc rfl rfl Jb)) (k:= ?_);rintro _ _ ⟨rfl,rfl⟩;refine Te ?_;(try refine Da ?_));rw[z4];refine sO ?_;rw[hJ];refine Ee (t+1) ?_ ?_
   ·exact zk
   ·omega
  ·have:t=v:=Z8
   subst this;refine bM ?_;exact Ea (x:=⟨rfl,rfl⟩)
theorem awH (q:Option Addr) (c kb:Nat) (P A S:List CV) (x:CV) (a m N:Nat) (ha:P.length=a) (hm:a+A.length=m) (hA2:2≤A.length) (hN:P.length+A.length+1+S.length=N) (hNb:N≤1000000000) (zr:0≤x.1∧x.1≤1000000000000) (hw: ∀ y∈A,0≤y.1∧y.1≤1000000000000) (hs:rS A):
  Ct lk 360 [.slice q N c, .int .i64 (a:Int), .int .i64 (m:Int), .int .i64 ((m+1:Nat):Int),wB kb] [own (.slice q N c) 437 2 N (flat fC (P++A++[x]++S)),KB kb]
   fun v H'=>v= .tuple #[]∧H'=[own (.slice q N c) 437 2 N (flat fC (P++aR (A++[x])++S))]:=by
 subst hm;unfold wB;have e0:P++A++[x]++S=mv P A S x A.length:=by simp [mv]
 rw[e0];have zq:=TV P A S x;have zn:(mv P A S x A.length)[a+A.length]? =some x:=by
  rw[←e0];exact aLS (t:=0) (by rw[ha];rfl) rfl
 have zt: ∀ (t:Nat) (y:CV),A[t]? =some y→(mv P A S x A.length)[a+t]? =some y:=fun t y hy=>by
  rw[←e0];exact aRI ha hy
 (refine Ye Tryz.func360 Tryz.ntmps360 ?_;intro Fr);refine lL aU Z8 ?_;rintro g rfl hc;refine bM ?_;(refine aC (σ:=Nat×Nat) (fun y=>(y.1≤y.2∧y.2≤A.length)∧(∀ t z,A[t]? =some z→t<y.1→z.1≤x.1)∧ ∀ t z,A[t]? =some z→y.2≤t→x.1<z.1) (fun y=>[(14, .int .i64 ((a+y.1:Nat):Int)),(15, .int .i64 ((a+y.2:Nat):Int))]) (fun y=>[own (.slice (some ⟨g,0,none⟩) N c) 437 2 N (flat fC (mv P A S x A.length))]) _ (fun y=>y.2-y.1) ((0,A.length)) (by exact⟨⟨fe _,df _⟩,fun t z _ h=>absurd h (mh _),fun t z h h2=>by have:=(aj.1 h).1;dsimp only at h2;omega⟩) Ze Zb (fun⟨u,v⟩ ⟨⟨zm,zw⟩,hu,hv⟩=> ?_);refine Da ?_);dsimp only at zm zw hu hv;rcases ig u v with hlt|hge
 ·obtain⟨w,hw2⟩: ∃ w,(u+v)/2=w:=⟨_,rfl⟩;have hwu:u≤w∧w<v:=Z8
  obtain⟨y,hy⟩: ∃ y,A[w]? =some y:=⟨_,ak Z8⟩;have hyl:=zt w y hy;have hh:(((a+u:Nat):Int)+((a+v:Nat):Int))/2=((a+w:Nat):Int):=Z8
  have zl:=hw y (jg hy);have CM:=GN kb x y zr zl;have hi1:a+w<N:=Z8
  have hi2:a+A.length<N:=Z8
  generalize hZ:mv P A S x A.length=Z at*;by_cases hyx:x.1<y.1
  ·have zv:x.1-y.1<0:=Z8
   refine Yw8 ?_;rw[hh];(refine aB 7 ?_;refine bN _ rfl rfl wt Je kA rfl (cE rfl rfl rfl aU rfl Z8) ?_);refine jV ?_;(refine aB 9 ?_;refine Oa (l:=by exact (eF (first:=[]) (cap:=[aH kb 0]) rfl rfl rfl CM rfl (Lp.view (oA kb) Lp.nil (dO aU)))) (k:= ?_);rintro _ _ ⟨rfl,rfl⟩;refine Te ?_;(try refine Da ?_));refine sO ?_;rw[←hZ];refine Ee ((u,w)) ?_ ?_
   ·refine⟨⟨by dsimp only;omega,by dsimp only;omega⟩,hu,fun t z hz ht=> ?_⟩;have:=xX hs (by dsimp only at ht;omega:w≤t) hy hz;omega
   ·dsimp only;omega
  ·have zv: ¬ x.1-y.1<0:=Z8
   refine Yw8 ?_;rw[hh];(refine aB 7 ?_;refine bN _ rfl rfl wt Je kA rfl (cE rfl rfl rfl aU rfl Z8) ?_);refine jV ?_;(refine aB 9 ?_;refine Oa (l:=by exact (eF (first:=[]) (cap:=[aH kb 0]) rfl rfl rfl CM rfl (Lp.view (oA kb) Lp.nil (dO aU)))) (k:= ?_);rintro _ _ ⟨rfl,rfl⟩;refine Te ?_;(try refine Da ?_));refine sO ?_;rw[←hZ];refine Ee ((w+1,v)) ?_ ?_
   ·refine⟨⟨by dsimp only;omega,zw⟩,fun t z hz ht=> ?_,hv⟩;have:=xX hs (by dsimp only at ht;omega:t≤w) hz hy;omega
   ·dsimp only;omega
 ·have zu:v=u:=Z8
  subst zu;have zy:P++aR (A++[x])++S=mv P A S x v:=by
   have h1 := aaY (a := A.take v) (b := A.drop v) (x := x) (by rw [gl]; exact hs) (fun z hz => by
    obtain⟨i,hi,h2⟩:=GO hz;exact hu i z h2 hi) (fun z hz=>by
    obtain ⟨i, hi, h2⟩ := GP hz;exact hv i z h2 hi)
   rw[gl] at h1;rw[←h1];simp [mv]
  rw[zy];have zx:=fun (t:Nat) (b:CV)=>arN P A S x (t:=t) (a:=a) (b:=b) ha
  clear hu hv zy zt zn;refine bM ?_;(refine aC (σ:=Nat) (fun t=>v≤t∧t≤A.length) (fun t=>[(17, .int .i64 ((a+t:Nat):Int))]) (fun t=>[own (.slice (some ⟨g,0,none⟩) N c) 437 2 N (flat fC (mv P A S x t))]) _ (fun t=>t) (A.length) (by exact⟨zw,df _⟩) Ze Zb (fun t ⟨ht,ht2⟩=> ?_);refine Da ?_);rcases ig v t with htl|htg
  ·obtain⟨t,rfl⟩: ∃ k,t=k+1:=⟨t-1,Z8⟩;obtain⟨b,hb⟩: ∃ b,A[t]? =some b:=⟨_,ak Z8⟩;obtain⟨_,_,_,_,z1,z2,z3,z4⟩:=zx t b hb;have hJ:((a+(t+1):Nat):Int)-1=((a+t:Nat):Int):=Z8
   have hA:a+(t+1)<N:=Z8
   have hB:a+t<N:=Z8
   have zk:=zq (t+1);rw[hN] at zk;generalize mv P A S x (t+1)=Z at*;refine kB ?_;refine zM Jd Za ?_;refine aK 0 rfl wt Je rfl (bT rfl rfl) ?_;refine aK 1 rfl wt Je rfl (bT rfl rfl) ?_;refine aK 2 rfl wt Je rfl (bT rfl rfl) ?_;refine aK 3 rfl wt Je rfl (bT rfl rfl) ?_;refine aK 4 rfl wt Je rfl (XY rfl rfl rfl Z8) ?_;refine aK 5 rfl wt Je rfl (bT rfl rfl) ?_;refine aK 6 rfl wt Je rfl (bT rfl rfl) ?_;refine aK 7 rfl wt Je rfl (XY rfl rfl rfl Z8) ?_;rw[hJ];refine aK 8 rfl wt Je rfl (gO (i:=a+t) rfl rfl rfl hB) ?_;refine aK 10 rfl wt Je rfl (bT rfl rfl) ?_;refine aK 11 rfl wt Je rfl (bT rfl rfl) ?_;refine aK 12 rfl wt Je rfl (gO (i:=a+(t+1)) rfl rfl rfl hA) ?_;refine zN (Hq:=[own (.slice (some ⟨g,0,none⟩) N c) 437 2 N (flat fC Z)]) (nk:=[15,16,17]) (r:=1) (i:=0) ?_;refine jV ?_;(refine aB 15 ?_;refine Ob (l:=by exact (aI (f:=fC) (q':=b) rfl rfl rfl rfl Zk rfl Z8 Zg Jc rfl rfl Jb)) (k:= ?_);rintro _ _ ⟨rfl,rfl⟩;refine Te ?_;(try refine Da ?_));(refine aB 16 ?_;refine Oa (l:=by exact (iA (cE (i:=a+t) rfl rfl rfl aU Z8 Z8))) (k:= ?_);rintro _ _ ⟨rfl,rfl⟩;refine Te ?_;(try refine Da ?_));(refine aB 17 ?_;refine Ob (l:=by exact (aI (f:=fC) (q':=x) rfl rfl rfl rfl Zk rfl Z8 Zg Jc rfl rfl Jb)) (k:= ?_);rintro _ _ ⟨rfl,rfl⟩;refine Te ?_;(try refine Da ?_));rw[z4];refine sO ?_;rw[hJ];refine Ee (t) ?_ ?_
   ·exact⟨Z8,Z8⟩
   ·omega
  ·have:t=v:=Z8
   subst this;refine bM ?_;exact Ea (x:=⟨rfl,rfl⟩)
end nE
namespace nE
open Go.RowKit bO sl srt
theorem GQ {l:List CV} (h:rS l) (k:Nat):rS (l.take k):=h.sublist (List.take_sublist k l)
theorem GR {l:List CV} (h:rS l) (k:Nat):rS (l.drop k):=h.sublist (List.drop_sublist k l)
theorem arO {A B:List CV} {D s:Nat} (hA:rS A) (hB:rS B) (hD:(A.length+B.length)/2=D) (h1:D-B.length≤s) (h2:s≤A.length) (hs:s≤D) (f1:s=D-B.length∨ ∀ x y,A[s-1]? =some x→B[D-s]? =some y→x.1≤y.1): ∀ x∈A.take s, ∀ y∈B.drop (D-s),kf x≤kf y:=fun x hx y hy=>by
 obtain⟨i,hi,zv⟩:=GO hx;obtain⟨j,hj,zy⟩:=GP hy;have hjl:=(aj.1 zy).1;rcases f1 with e|f
 ·omega
 ·obtain⟨x',zx⟩: ∃ z,A[s-1]? =some z:=⟨_,ak Z8⟩;obtain⟨y',zw⟩: ∃ z,B[D-s]? =some z:=⟨_,ak Z8⟩;have g1:=xX hA (by omega:i≤s-1) zv zx;have g2:=xX hB hj zw zy;have g3:=f x' y' zx zw;show x.1≤y.1;omega
theorem aiU {A B:List CV} {D s:Nat} (hA:rS A) (hB:rS B) (h2:s≤A.length) (hs:s≤D) (hBD:D-s≤B.length) (f2:s=min D A.length∨ ∀ x y,A[s]? =some x→B[D-1-s]? =some y→y.1<x.1): ∀ x∈B.take (D-s), ∀ y∈A.drop s,kf x<kf y:=fun x hx y hy=>by
 obtain⟨i,hi,zy⟩:=GO hx;obtain⟨j,hj,zx⟩:=GP hy;have hjl:=(aj.1 zx).1;have hil:=(aj.1 zy).1;rcases f2 with e|f
 ·omega
 ·obtain⟨x',zw⟩: ∃ z,A[s]? =some z:=⟨_,ak Z8⟩;obtain⟨y',zv⟩: ∃ z,B[D-1-s]? =some z:=⟨_,ak Z8⟩;have g1:=xX hB (by omega:i≤D-1-s) zy zv;have g2:=xX hA hj zw zx;have g3:=f x' y' zw zv;show x.1<y.1;omega
def aER (sz:Nat):Prop:= ∀ (q:Option Addr) (c kb:Nat) (P A B S:List CV) (a m e N:Nat),P.length=a→a+A.length=m→m+B.length=e→0<A.length→0<B.length→A.length+B.length≤sz→(P++A++B++S).length=N→N≤1000000000→(∀ x∈A++B,0≤x.1∧x.1≤1000000000000)→rS A→rS B→
  Ct lk 360 [.slice q N c, .int .i64 (a:Int), .int .i64 (m:Int), .int .i64 (e:Int),wB kb] [own (.slice q N c) 437 2 N (flat fC (P++A++B++S)),KB kb]
   fun v H'=>v= .tuple #[]∧H'=[own (.slice q N c) 437 2 N (flat fC (P++aR (A++B)++S))]
attribute [local irreducible] box own sl bL aH bJ Qt cN cM dG dL eQ
theorem aRJ (sz:Nat) (ih:aER sz) (q:Option Addr) (c kb:Nat) (P A B S:List CV) (a N D:Nat) (ha:P.length=a) (hA2:2≤A.length) (hB2:2≤B.length) (hsz:A.length+B.length≤sz+1) (hN:(P++A++B++S).length=N) (zm:N≤1000000000) (hw: ∀ x∈A++B,0≤x.1∧x.1≤1000000000000) (hA:rS A) (hB:rS B) (hD:(A.length+B.length)/2=D) (zt:D<A.length):
  Ct lk 360 [.slice q N c, .int .i64 (a:Int), .int .i64 ((a+A.length:Nat):Int), .int .i64 ((a+A.length+B.length:Nat):Int),wB kb] [own (.slice q N c) 437 2 N (flat fC (P++A++B++S)),KB kb]
   fun v H'=>v= .tuple #[]∧H'=[own (.slice q N c) 437 2 N (flat fC (P++aR (A++B)++S))]:=by
 have hlen:P.length+A.length+B.length+S.length=N:=by rw[←hN];simp only[ae]
 have zr:((a:Int)+((a+A.length+B.length:Nat):Int))/2=((a+D:Nat):Int):=Z8
 unfold wB;have hst:((a+D:Nat):Int)+((a+A.length:Nat):Int)-((a+A.length+B.length:Nat):Int)=((a+(D-B.length):Nat):Int):=Z8
 (refine Ye Tryz.func360 Tryz.ntmps360 ?_;intro Fr);refine lL aU Z8 ?_;rintro g rfl hc;refine bM ?_;rw[zr,hst];(refine aC (σ:=Nat×Nat) (fun y=>((a+(D-B.length)≤y.1∧y.1≤y.2)∧y.2≤a+min D A.length)∧(y.1=a+(D-B.length)∨ ∀ x z,A[y.1-a-1]? =some x→B[D-(y.1-a)]? =some z→x.1≤z.1)∧(y.2=a+min D A.length∨ ∀ x z,A[y.2-a]? =some x→B[D-1-(y.2-a)]? =some z→z.1<x.1)) (fun y=>[(20, .int .i64 (y.1:Int)),(21, .int .i64 (y.2:Int))]) (fun y=>[own (.slice (some ⟨g,0,none⟩) N c) 437 2 N (flat fC (P++A++B++S))]) _ (fun y=>y.2-y.1) ((a+(D-B.length),a+D)) (by exact⟨⟨⟨by first|omega|(dsimp only;omega)|dsimp only,by first|omega|(dsimp only;omega)|dsimp only⟩,by first|omega|(dsimp only;omega)|dsimp only⟩, .inl Zy, .inl Zy⟩) Ze Zb (fun⟨s,r⟩ ⟨⟨⟨zl,zh⟩,hr⟩,f1,f2⟩=> ?_);refine Da ?_);dsimp only at zl zh hr f1 f2;rcases ig s r with hlt|za
 ·obtain⟨w,hw2⟩: ∃ w,(s+r)/2=a+w:=⟨(s+r)/2-a,Z8⟩;have hwu:s≤a+w∧a+w<r:=Z8
  obtain⟨x,hx⟩: ∃ x,A[w]? =some x:=⟨_,ak Z8⟩;obtain⟨y,hy⟩: ∃ y,B[D-1-w]? =some y:=⟨_,ak Z8⟩;have hxl:=aRI (P:=P) (A:=A) (B:=B) (S:=S) ha hx;have hyl:=aLS (P:=P) (A:=A) (B:=B) (S:=S) (m:=a+A.length) (by rw[ha]) hy;have hh:((s:Int)+(r:Int))/2=((a+w:Nat):Int):=Z8
  have zg:((a+D:Nat):Int)+((a+A.length:Nat):Int)-1-((a+w:Nat):Int)=((a+A.length+(D-1-w):Nat):Int):=Z8
  have z8:=hw x (jh _ (jg hx));have z7:=hw y (lp _ (jg hy));have CM:=GN kb y x z7 z8;have hi1:a+w<N:=Z8
  have hi2:a+A.length+(D-1-w)<N:=Z8
  generalize hZ:P++A++B++S=Z at*;by_cases yz:y.1<x.1
  ·have zk:y.1-x.1<0:=Z8
   refine Yw8 ?_;rw[hh]
   skip
   rw[zg];(refine aB 5 ?_;refine bN _ rfl rfl wt Je kA rfl (cE rfl rfl rfl aU rfl Z8) ?_);refine jV ?_;(refine aB 11 ?_;refine Oa (l:=by exact (eF (first:=[]) (cap:=[aH kb 0]) rfl rfl rfl CM rfl (Lp.view (oA kb) Lp.nil (dO aU)))) (k:= ?_);rintro _ _ ⟨rfl,rfl⟩;refine Te ?_;(try refine Da ?_));refine sO ?_;rw[←hZ];refine Ee ((s,a+w)) ?_ ?_
   ·refine⟨⟨⟨zl,by dsimp only;omega⟩,by dsimp only;omega⟩,f1, .inr fun x' z' h1 h2=> ?_⟩;dsimp only at h1 h2;rw[lr] at h1 h2;rw[hx] at h1;rw[hy] at h2;cases h1;cases h2;exact yz
   ·dsimp only;omega
  ·have zk: ¬ y.1-x.1<0:=Z8
   refine Yw8 ?_;rw[hh]
   skip
   rw[zg];(refine aB 5 ?_;refine bN _ rfl rfl wt Je kA rfl (cE rfl rfl rfl aU rfl Z8) ?_);refine jV ?_;(refine aB 11 ?_;refine Oa (l:=by exact (eF (first:=[]) (cap:=[aH kb 0]) rfl rfl rfl CM rfl (Lp.view (oA kb) Lp.nil (dO aU)))) (k:= ?_);rintro _ _ ⟨rfl,rfl⟩;refine Te ?_;(try refine Da ?_));refine sO ?_;rw[←hZ,show ((a+w:Nat):Int)+1=((a+w+1:Nat):Int) by omega];refine Ee ((a+w+1,r)) ?_ ?_
   ·refine⟨⟨⟨by dsimp only;omega,by dsimp only;omega⟩,hr⟩, .inr fun x' z' h1 h2=> ?_,f2⟩;dsimp only at h1 h2;rw[show a+w+1-a-1=w by omega,hx] at h1;rw[show D-(a+w+1-a)=D-1-w by omega,hy] at h2;cases h1;cases h2;omega
   ·dsimp only;omega
 ·obtain⟨s,rfl⟩: ∃ k,s=a+k:=⟨s-a,Z8⟩;have hrs:r=a+s:=Z8
  subst hrs;rw[lr] at f1 f2;have zf:s≤A.length:=Z8
  have zj:s≤D:=Z8
  have zv:=arO hA hB hD Z8 zf zj (by rcases f1 with h|h;exact .inl Z8;exact .inr h);have zy:=aiU hA hB zf zj Z8 (by rcases f2 with h|h;exact .inl Z8;exact .inr h);obtain⟨f,rfl⟩: ∃ f,D=s+f:=⟨D-s,Z8⟩;rw[lr] at zv zy;have hfB:f≤B.length:=Z8
  have hDs:s+f+1≤A.length+B.length:=Z8
  have hDp:1≤s+f:=Z8
  clear f1 f2 zl zh hr za hD zr zt zj;(try clear hst);have zu:=aEP (a1:=A.take s) (a2:=A.drop s) (b1:=B.take f) (b2:=B.drop f) (by rw[gl];exact hA) (by rw[gl];exact hB) zv zy;rw[gl,gl] at zu;have eA:A=A.take s++A.drop s:=(gl _ _).symm;have eB:B=B.take f++B.drop f:=(gl _ _).symm;have l1:(A.take s).length=s:=by rw[ar];omega
  have l2:s+(A.drop s).length=A.length:=by rw[bq];omega
  have l3:(B.take f).length=f:=by rw[ar];omega
  have l4:f+(B.drop f).length=B.length:=by rw[bq];omega
  have w1: ∀ x∈A.take s++B.take f,0≤x.1∧x.1≤1000000000000:=fun x hx=>hw x (by rcases ei.1 hx with h|h;exact jh _ (ll h);exact lp _ (ll h))
  have w2: ∀ x∈A.drop s++B.drop f,0≤x.1∧x.1≤1000000000000:=fun x hx=>hw x (by rcases ei.1 hx with h|h;exact jh _ (ln h);exact lp _ (ln h))
  have s1:=GQ hA s;have s2:=GR hA s;have s3:=GQ hB f;have s4:=GR hB f;have zq:P++aR (A++B)++S=P++aR (A.take s++B.take f)++aR (A.drop s++B.drop f)++S:=by rw[←zu];simp
  rw[zq];have yx:=fJ (A.take s++B.take f);rw[ae,l1,l3] at yx;have zx:((a+(s+f):Nat):Int)+((a+A.length:Nat):Int)-((a+s:Nat):Int)=((a+A.length+f:Nat):Int):=Z8
  have ze:P++A++B++S=P++A.take s++A.drop s++B.take f++(B.drop f++S):=by
   rw[show P++A.take s++A.drop s++B.take f++(B.drop f++S)=P++(A.take s++A.drop s)++(B.take f++B.drop f)++S by simp only[fu],gl,gl]
  rw[ze];clear zv zy zu zq ze eA eB;generalize A.take s=A1 at*;generalize A.drop s=A2 at*;generalize B.take f=B1 at*;generalize B.drop f=B2 at*;have ROT:0<A2.length→0<B1.length→Ct lk 362 _ _ _:=fun g1 g2=>TT (some ⟨g,0,none⟩) c (wB kb) (P++A1) A2 B1 (B2++S) (a+s) (a+A.length) (a+A.length+f) N Zm Z8 Z8 g1 g2 Zv zm
  have LFT:0<A1.length→0<B1.length→Ct lk 360 _ _ _:=fun g1 g2=>ih (some ⟨g,0,none⟩) c kb P A1 B1 (A2++B2++S) a (a+s) (a+(s+f)) N ha Z8 Z8 g1 g2 Z8 Zv zm w1 s1 s3
  have RGT:0<A2.length→0<B2.length→Ct lk 360 _ _ _:=fun g1 g2=>ih (some ⟨g,0,none⟩) c kb (P++aR (A1++B1)) A2 B2 S (a+(s+f)) (a+A.length+f) (a+A.length+B.length) N Zm Z8 Z8 g1 g2 Z8 Zv zm w2 s2 s4
  unfold wB at ROT LFT RGT;by_cases zb:(0<A2.length∧0<B1.length)
  ·refine bM ?_;rw[zx];refine aL wt rfl (bG rfl (ROT zb.1 zb.2) rfl wY) ?_;rintro _ _ ⟨_,⟨rfl,rfl⟩,rfl⟩;dsimp only[dw,dz];rw[show P++A1++B1++A2++(B2++S)=P++A1++B1++(A2++B2++S) by simp];by_cases zn:(0<A1.length∧0<B1.length)
   ·refine bM ?_;refine aL wt rfl (bG rfl (LFT zn.1 zn.2) rfl (Lp.out aU (Lp.view (oA kb) Lp.nil (dO aU)))) ?_;rintro _ _ ⟨_,⟨rfl,rfl⟩,rfl⟩;dsimp only[dw,dz];rw[show P++aR (A1++B1)++(A2++B2++S)=P++aR (A1++B1)++A2++B2++S by simp];by_cases zw:(0<A2.length∧0<B2.length)
    ·refine bM ?_;(try rw[zx]);refine aL wt rfl (bG rfl (RGT zw.1 zw.2) rfl (Lp.out aU (Lp.view (oA kb) Lp.nil (dO aU)))) ?_;rintro _ _ ⟨_,⟨rfl,rfl⟩,rfl⟩;dsimp only[dw,dz];refine iC ?_;exact Eb (x:=⟨rfl,rfl⟩)
    ·have e3:P++aR (A1++B1)++A2++B2++S=P++aR (A1++B1)++aR (A2++B2)++S:=by
      have e9:aR (A2++B2)=A2++B2:=by
       rcases jo A2.length with h|h
       ·rw[bp h,dz,dA s4]
       ·rw[bp (by omega:B2.length=0),ke,dA s2]
      rw[e9];simp only[fu]
     rw[e3];refine bM ?_;exact Eb (x:=⟨rfl,rfl⟩)
   ·have e2:P++A1++B1++(A2++B2++S)=P++aR (A1++B1)++A2++B2++S:=by
     have e9:aR (A1++B1)=A1++B1:=by
      rcases jo A1.length with h|h
      ·rw[bp h,dz,dA s3]
      ·rw[bp (by omega:B1.length=0),ke,dA s1]
     rw[e9];simp only[fu]
    rw[e2];by_cases zw:(0<A2.length∧0<B2.length)
    ·refine bM ?_;(try rw[zx]);refine aL wt rfl (bG rfl (RGT zw.1 zw.2) rfl (Lp.out aU (Lp.view (oA kb) Lp.nil (dO aU)))) ?_;rintro _ _ ⟨_,⟨rfl,rfl⟩,rfl⟩;dsimp only[dw,dz];refine iC ?_;exact Eb (x:=⟨rfl,rfl⟩)
    ·have e3:P++aR (A1++B1)++A2++B2++S=P++aR (A1++B1)++aR (A2++B2)++S:=by
      have e9:aR (A2++B2)=A2++B2:=by
       rcases jo A2.length with h|h
       ·rw[bp h,dz,dA s4]
       ·rw[bp (by omega:B2.length=0),ke,dA s2]
      rw[e9];simp only[fu]
     rw[e3];refine bM ?_;exact Eb (x:=⟨rfl,rfl⟩)
  ·have e1:P++A1++A2++B1++(B2++S)=P++A1++B1++(A2++B2++S):=by
    rcases jo A2.length with h|h
    ·rw[bp h];simp
    ·rw[bp (by omega:B1.length=0)];simp
   rw[e1];by_cases zn:(0<A1.length∧0<B1.length)
   ·refine bM ?_;refine aL wt rfl (bG rfl (LFT zn.1 zn.2) rfl (Lp.out aU (Lp.view (oA kb) Lp.nil (dO aU)))) ?_;rintro _ _ ⟨_,⟨rfl,rfl⟩,rfl⟩;dsimp only[dw,dz];rw[show P++aR (A1++B1)++(A2++B2++S)=P++aR (A1++B1)++A2++B2++S by simp];by_cases zw:(0<A2.length∧0<B2.length)
    ·refine bM ?_;(try rw[zx]);refine aL wt rfl (bG rfl (RGT zw.1 zw.2) rfl (Lp.out aU (Lp.view (oA kb) Lp.nil (dO aU)))) ?_;rintro _ _ ⟨_,⟨rfl,rfl⟩,rfl⟩;dsimp only[dw,dz];refine iC ?_;exact Eb (x:=⟨rfl,rfl⟩)
    ·have e3:P++aR (A1++B1)++A2++B2++S=P++aR (A1++B1)++aR (A2++B2)++S:=by
      have e9:aR (A2++B2)=A2++B2:=by
       rcases jo A2.length with h|h
       ·rw[bp h,dz,dA s4]
       ·rw[bp (by omega:B2.length=0),ke,dA s2]
      rw[e9];simp only[fu]
     rw[e3];refine bM ?_;exact Eb (x:=⟨rfl,rfl⟩)
   ·have e2:P++A1++B1++(A2++B2++S)=P++aR (A1++B1)++A2++B2++S:=by
     have e9:aR (A1++B1)=A1++B1:=by
      rcases jo A1.length with h|h
      ·rw[bp h,dz,dA s3]
      ·rw[bp (by omega:B1.length=0),ke,dA s1]
     rw[e9];simp only[fu]
    rw[e2];by_cases zw:(0<A2.length∧0<B2.length)
    ·refine bM ?_;(try rw[zx]);refine aL wt rfl (bG rfl (RGT zw.1 zw.2) rfl (Lp.out aU (Lp.view (oA kb) Lp.nil (dO aU)))) ?_;rintro _ _ ⟨_,⟨rfl,rfl⟩,rfl⟩;dsimp only[dw,dz];refine iC ?_;exact Eb (x:=⟨rfl,rfl⟩)
    ·have e3:P++aR (A1++B1)++A2++B2++S=P++aR (A1++B1)++aR (A2++B2)++S:=by
      have e9:aR (A2++B2)=A2++B2:=by
       rcases jo A2.length with h|h
       ·rw[bp h,dz,dA s4]
       ·rw[bp (by omega:B2.length=0),ke,dA s2]
      rw[e9];simp only[fu]
     rw[e3];refine bM ?_;exact Eb (x:=⟨rfl,rfl⟩)
end nE
namespace nE
open Go.RowKit bO sl srt
attribute [local irreducible] box own sl bL aH bJ Qt cN cM dG dL eQ
theorem aRK (sz:Nat) (ih:aER sz) (q:Option Addr) (c kb:Nat) (P A B S:List CV) (a N D:Nat) (ha:P.length=a) (hA2:2≤A.length) (hB2:2≤B.length) (hsz:A.length+B.length≤sz+1) (hN:(P++A++B++S).length=N) (zm:N≤1000000000) (hw: ∀ x∈A++B,0≤x.1∧x.1≤1000000000000) (hA:rS A) (hB:rS B) (hD:(A.length+B.length)/2=D) (zt:A.length≤D):
  Ct lk 360 [.slice q N c, .int .i64 (a:Int), .int .i64 ((a+A.length:Nat):Int), .int .i64 ((a+A.length+B.length:Nat):Int),wB kb] [own (.slice q N c) 437 2 N (flat fC (P++A++B++S)),KB kb]
   fun v H'=>v= .tuple #[]∧H'=[own (.slice q N c) 437 2 N (flat fC (P++aR (A++B)++S))]:=by
 have hlen:P.length+A.length+B.length+S.length=N:=by rw[←hN];simp only[ae]
 have zr:((a:Int)+((a+A.length+B.length:Nat):Int))/2=((a+D:Nat):Int):=Z8
 unfold wB;(refine Ye Tryz.func360 Tryz.ntmps360 ?_;intro Fr);refine lL aU Z8 ?_;rintro g rfl hc;refine bM ?_;rw[zr];(refine aC (σ:=Nat×Nat) (fun y=>((a+(D-B.length)≤y.1∧y.1≤y.2)∧y.2≤a+min D A.length)∧(y.1=a+(D-B.length)∨ ∀ x z,A[y.1-a-1]? =some x→B[D-(y.1-a)]? =some z→x.1≤z.1)∧(y.2=a+min D A.length∨ ∀ x z,A[y.2-a]? =some x→B[D-1-(y.2-a)]? =some z→z.1<x.1)) (fun y=>[(20, .int .i64 (y.1:Int)),(21, .int .i64 (y.2:Int))]) (fun y=>[own (.slice (some ⟨g,0,none⟩) N c) 437 2 N (flat fC (P++A++B++S))]) _ (fun y=>y.2-y.1) ((a,a+A.length)) (by exact⟨⟨⟨by first|omega|(dsimp only;omega)|dsimp only,by first|omega|(dsimp only;omega)|dsimp only⟩,by first|omega|(dsimp only;omega)|dsimp only⟩, .inl Zy, .inl Zy⟩) Ze Zb (fun⟨s,r⟩ ⟨⟨⟨zl,zh⟩,hr⟩,f1,f2⟩=> ?_);refine Da ?_);dsimp only at zl zh hr f1 f2;rcases ig s r with hlt|za
 ·obtain⟨w,hw2⟩: ∃ w,(s+r)/2=a+w:=⟨(s+r)/2-a,Z8⟩;have hwu:s≤a+w∧a+w<r:=Z8
  obtain⟨x,hx⟩: ∃ x,A[w]? =some x:=⟨_,ak Z8⟩;obtain⟨y,hy⟩: ∃ y,B[D-1-w]? =some y:=⟨_,ak Z8⟩;have hxl:=aRI (P:=P) (A:=A) (B:=B) (S:=S) ha hx;have hyl:=aLS (P:=P) (A:=A) (B:=B) (S:=S) (m:=a+A.length) (by rw[ha]) hy;have hh:((s:Int)+(r:Int))/2=((a+w:Nat):Int):=Z8
  have zg:((a+D:Nat):Int)+((a+A.length:Nat):Int)-1-((a+w:Nat):Int)=((a+A.length+(D-1-w):Nat):Int):=Z8
  have z8:=hw x (jh _ (jg hx));have z7:=hw y (lp _ (jg hy));have CM:=GN kb y x z7 z8;have hi1:a+w<N:=Z8
  have hi2:a+A.length+(D-1-w)<N:=Z8
  generalize hZ:P++A++B++S=Z at*;by_cases yz:y.1<x.1
  ·have zk:y.1-x.1<0:=Z8
   refine Yw8 ?_;rw[hh]
   skip
   rw[zg];(refine aB 5 ?_;refine bN _ rfl rfl wt Je kA rfl (cE rfl rfl rfl aU rfl Z8) ?_);refine jV ?_;(refine aB 11 ?_;refine Oa (l:=by exact (eF (first:=[]) (cap:=[aH kb 0]) rfl rfl rfl CM rfl (Lp.view (oA kb) Lp.nil (dO aU)))) (k:= ?_);rintro _ _ ⟨rfl,rfl⟩;refine Te ?_;(try refine Da ?_));refine sO ?_;rw[←hZ];refine Ee ((s,a+w)) ?_ ?_
   ·refine⟨⟨⟨zl,by dsimp only;omega⟩,by dsimp only;omega⟩,f1, .inr fun x' z' h1 h2=> ?_⟩;dsimp only at h1 h2;rw[lr] at h1 h2;rw[hx] at h1;rw[hy] at h2;cases h1;cases h2;exact yz
   ·dsimp only;omega
  ·have zk: ¬ y.1-x.1<0:=Z8
   refine Yw8 ?_;rw[hh]
   skip
   rw[zg];(refine aB 5 ?_;refine bN _ rfl rfl wt Je kA rfl (cE rfl rfl rfl aU rfl Z8) ?_);refine jV ?_;(refine aB 11 ?_;refine Oa (l:=by exact (eF (first:=[]) (cap:=[aH kb 0]) rfl rfl rfl CM rfl (Lp.view (oA kb) Lp.nil (dO aU)))) (k:= ?_);rintro _ _ ⟨rfl,rfl⟩;refine Te ?_;(try refine Da ?_));refine sO ?_;rw[←hZ,show ((a+w:Nat):Int)+1=((a+w+1:Nat):Int) by omega];refine Ee ((a+w+1,r)) ?_ ?_
   ·refine⟨⟨⟨by dsimp only;omega,by dsimp only;omega⟩,hr⟩, .inr fun x' z' h1 h2=> ?_,f2⟩;dsimp only at h1 h2;rw[show a+w+1-a-1=w by omega,hx] at h1;rw[show D-(a+w+1-a)=D-1-w by omega,hy] at h2;cases h1;cases h2;omega
   ·dsimp only;omega
 ·obtain⟨s,rfl⟩: ∃ k,s=a+k:=⟨s-a,Z8⟩;have hrs:r=a+s:=Z8
  subst hrs;rw[lr] at f1 f2;have zf:s≤A.length:=Z8
  have zj:s≤D:=Z8
  have zv:=arO hA hB hD Z8 zf zj (by rcases f1 with h|h;exact .inl Z8;exact .inr h);have zy:=aiU hA hB zf zj Z8 (by rcases f2 with h|h;exact .inl Z8;exact .inr h);obtain⟨f,rfl⟩: ∃ f,D=s+f:=⟨D-s,Z8⟩;rw[lr] at zv zy;have hfB:f≤B.length:=Z8
  have hDs:s+f+1≤A.length+B.length:=Z8
  have hDp:1≤s+f:=Z8
  clear f1 f2 zl zh hr za hD zr zt zj;(try clear hst);have zu:=aEP (a1:=A.take s) (a2:=A.drop s) (b1:=B.take f) (b2:=B.drop f) (by rw[gl];exact hA) (by rw[gl];exact hB) zv zy;rw[gl,gl] at zu;have eA:A=A.take s++A.drop s:=(gl _ _).symm;have eB:B=B.take f++B.drop f:=(gl _ _).symm;have l1:(A.take s).length=s:=by rw[ar];omega
  have l2:s+(A.drop s).length=A.length:=by rw[bq];omega
  have l3:(B.take f).length=f:=by rw[ar];omega
  have l4:f+(B.drop f).length=B.length:=by rw[bq];omega
  have w1: ∀ x∈A.take s++B.take f,0≤x.1∧x.1≤1000000000000:=fun x hx=>hw x (by rcases ei.1 hx with h|h;exact jh _ (ll h);exact lp _ (ll h))
  have w2: ∀ x∈A.drop s++B.drop f,0≤x.1∧x.1≤1000000000000:=fun x hx=>hw x (by rcases ei.1 hx with h|h;exact jh _ (ln h);exact lp _ (ln h))
  have s1:=GQ hA s;have s2:=GR hA s;have s3:=GQ hB f;have s4:=GR hB f;have zq:P++aR (A++B)++S=P++aR (A.take s++B.take f)++aR (A.drop s++B.drop f)++S:=by rw[←zu];simp
  rw[zq];have yx:=fJ (A.take s++B.take f);rw[ae,l1,l3] at yx;have zx:((a+(s+f):Nat):Int)+((a+A.length:Nat):Int)-((a+s:Nat):Int)=((a+A.length+f:Nat):Int):=Z8
  have ze:P++A++B++S=P++A.take s++A.drop s++B.take f++(B.drop f++S):=by
   rw[show P++A.take s++A.drop s++B.take f++(B.drop f++S)=P++(A.take s++A.drop s)++(B.take f++B.drop f)++S by simp only[fu],gl,gl]
  rw[ze];clear zv zy zu zq ze eA eB;generalize A.take s=A1 at*;generalize A.drop s=A2 at*;generalize B.take f=B1 at*;generalize B.drop f=B2 at*;have ROT:0<A2.length→0<B1.length→Ct lk 362 _ _ _:=fun g1 g2=>TT (some ⟨g,0,none⟩) c (wB kb) (P++A1) A2 B1 (B2++S) (a+s) (a+A.length) (a+A.length+f) N Zm Z8 Z8 g1 g2 Zv zm
  have LFT:0<A1.length→0<B1.length→Ct lk 360 _ _ _:=fun g1 g2=>ih (some ⟨g,0,none⟩) c kb P A1 B1 (A2++B2++S) a (a+s) (a+(s+f)) N ha Z8 Z8 g1 g2 Z8 Zv zm w1 s1 s3
  have RGT:0<A2.length→0<B2.length→Ct lk 360 _ _ _:=fun g1 g2=>ih (some ⟨g,0,none⟩) c kb (P++aR (A1++B1)) A2 B2 S (a+(s+f)) (a+A.length+f) (a+A.length+B.length) N Zm Z8 Z8 g1 g2 Z8 Zv zm w2 s2 s4
  unfold wB at ROT LFT RGT;by_cases zb:(0<A2.length∧0<B1.length)
  ·refine bM ?_;rw[zx];refine aL wt rfl (bG rfl (ROT zb.1 zb.2) rfl wY) ?_;rintro _ _ ⟨_,⟨rfl,rfl⟩,rfl⟩;dsimp only[dw,dz];rw[show P++A1++B1++A2++(B2++S)=P++A1++B1++(A2++B2++S) by simp];by_cases zn:(0<A1.length∧0<B1.length)
   ·refine bM ?_;refine aL wt rfl (bG rfl (LFT zn.1 zn.2) rfl (Lp.out aU (Lp.view (oA kb) Lp.nil (dO aU)))) ?_;rintro _ _ ⟨_,⟨rfl,rfl⟩,rfl⟩;dsimp only[dw,dz];rw[show P++aR (A1++B1)++(A2++B2++S)=P++aR (A1++B1)++A2++B2++S by simp];by_cases zw:(0<A2.length∧0<B2.length)
    ·refine bM ?_;(try rw[zx]);refine aL wt rfl (bG rfl (RGT zw.1 zw.2) rfl (Lp.out aU (Lp.view (oA kb) Lp.nil (dO aU)))) ?_;rintro _ _ ⟨_,⟨rfl,rfl⟩,rfl⟩;dsimp only[dw,dz];refine iC ?_;exact Eb (x:=⟨rfl,rfl⟩)
    ·have e3:P++aR (A1++B1)++A2++B2++S=P++aR (A1++B1)++aR (A2++B2)++S:=by
      have e9:aR (A2++B2)=A2++B2:=by
       rcases jo A2.length with h|h
       ·rw[bp h,dz,dA s4]
       ·rw[bp (by omega:B2.length=0),ke,dA s2]
      rw[e9];simp only[fu]
     rw[e3];refine bM ?_;exact Eb (x:=⟨rfl,rfl⟩)
   ·have e2:P++A1++B1++(A2++B2++S)=P++aR (A1++B1)++A2++B2++S:=by
     have e9:aR (A1++B1)=A1++B1:=by
      rcases jo A1.length with h|h
      ·rw[bp h,dz,dA s3]
      ·rw[bp (by omega:B1.length=0),ke,dA s1]
     rw[e9];simp only[fu]
    rw[e2];by_cases zw:(0<A2.length∧0<B2.length)
    ·refine bM ?_;(try rw[zx]);refine aL wt rfl (bG rfl (RGT zw.1 zw.2) rfl (Lp.out aU (Lp.view (oA kb) Lp.nil (dO aU)))) ?_;rintro _ _ ⟨_,⟨rfl,rfl⟩,rfl⟩;dsimp only[dw,dz];refine iC ?_;exact Eb (x:=⟨rfl,rfl⟩)
    ·have e3:P++aR (A1++B1)++A2++B2++S=P++aR (A1++B1)++aR (A2++B2)++S:=by
      have e9:aR (A2++B2)=A2++B2:=by
       rcases jo A2.length with h|h
       ·rw[bp h,dz,dA s4]
       ·rw[bp (by omega:B2.length=0),ke,dA s2]
      rw[e9];simp only[fu]
     rw[e3];refine bM ?_;exact Eb (x:=⟨rfl,rfl⟩)
  ·have e1:P++A1++A2++B1++(B2++S)=P++A1++B1++(A2++B2++S):=by
    rcases jo A2.length with h|h
    ·rw[bp h];simp
    ·rw[bp (by omega:B1.length=0)];simp
   rw[e1];by_cases zn:(0<A1.length∧0<B1.length)
   ·refine bM ?_;refine aL wt rfl (bG rfl (LFT zn.1 zn.2) rfl (Lp.out aU (Lp.view (oA kb) Lp.nil (dO aU)))) ?_;rintro _ _ ⟨_,⟨rfl,rfl⟩,rfl⟩;dsimp only[dw,dz];rw[show P++aR (A1++B1)++(A2++B2++S)=P++aR (A1++B1)++A2++B2++S by simp];by_cases zw:(0<A2.length∧0<B2.length)
    ·refine bM ?_;(try rw[zx]);refine aL wt rfl (bG rfl (RGT zw.1 zw.2) rfl (Lp.out aU (Lp.view (oA kb) Lp.nil (dO aU)))) ?_;rintro _ _ ⟨_,⟨rfl,rfl⟩,rfl⟩;dsimp only[dw,dz];refine iC ?_;exact Eb (x:=⟨rfl,rfl⟩)
    ·have e3:P++aR (A1++B1)++A2++B2++S=P++aR (A1++B1)++aR (A2++B2)++S:=by
      have e9:aR (A2++B2)=A2++B2:=by
       rcases jo A2.length with h|h
       ·rw[bp h,dz,dA s4]
       ·rw[bp (by omega:B2.length=0),ke,dA s2]
      rw[e9];simp only[fu]
     rw[e3];refine bM ?_;exact Eb (x:=⟨rfl,rfl⟩)
   ·have e2:P++A1++B1++(A2++B2++S)=P++aR (A1++B1)++A2++B2++S:=by
     have e9:aR (A1++B1)=A1++B1:=by
      rcases jo A1.length with h|h
      ·rw[bp h,dz,dA s3]
      ·rw[bp (by omega:B1.length=0),ke,dA s1]
     rw[e9];simp only[fu]
    rw[e2];by_cases zw:(0<A2.length∧0<B2.length)
    ·refine bM ?_;(try rw[zx]);refine aL wt rfl (bG rfl (RGT zw.1 zw.2) rfl (Lp.out aU (Lp.view (oA kb) Lp.nil (dO aU)))) ?_;rintro _ _ ⟨_,⟨rfl,rfl⟩,rfl⟩;dsimp only[dw,dz];refine iC ?_;exact Eb (x:=⟨rfl,rfl⟩)
    ·have e3:P++aR (A1++B1)++A2++B2++S=P++aR (A1++B1)++aR (A2++B2)++S:=by
      have e9:aR (A2++B2)=A2++B2:=by
       rcases jo A2.length with h|h
       ·rw[bp h,dz,dA s4]
       ·rw[bp (by omega:B2.length=0),ke,dA s2]
      rw[e9];simp only[fu]
     rw[e3];refine bM ?_;exact Eb (x:=⟨rfl,rfl⟩)
theorem arP: ∀ sz,aER sz:=by
 intro sz;induction sz with
 |zero=>intro q c kb P A B S a m e N ha hm he zw zv hsz;omega
 |succ sz ih=>
  intro q c kb P A B S a m e N ha hm he zw zv hsz hN zx hw hA hB;have hlen:P.length+A.length+B.length+S.length=N:=by rw[←hN];simp only[ae]
  subst hm he;by_cases h1:A.length=1
  ·obtain⟨x,rfl⟩: ∃ x,A=[x]:=l8.1 h1;exact aEQ q c kb P B S x a (a+[x].length+B.length) N ha rfl (by simp only[gk] at hlen;omega) zx (hw x Ja) (fun y hy=>hw y (lp _ hy)) hB
  ·by_cases h2:B.length=1
   ·obtain⟨x,rfl⟩: ∃ x,B=[x]:=l8.1 h2;exact awH q c kb P A S x a (a+A.length) N ha rfl Z8 (by simp only[gk] at hlen;omega) zx (hw x Ja) (fun y hy=>hw y (jh _ hy)) hA
   ·by_cases zy:(A.length+B.length)/2<A.length
    ·exact aRJ sz ih q c kb P A B S a N _ ha Z8 Z8 hsz hN zx hw hA hB rfl zy
    ·exact aRK sz ih q c kb P A B S a N _ ha Z8 Z8 hsz hN zx hw hA hB rfl Z8
end nE
namespace nE
open Go.RowKit bO sl srt
def NH (bs:Nat):Nat→List CV→List CV
 |0,l=>aR l
 |f+1,l=>aR (l.take bs)++NH bs f (l.drop bs)
theorem pB (bs:Nat): ∀ f,NH bs f []=[]
 |0=>rfl
 |f+1=>by rw[NH,List.take_nil,ma,pB bs f];rfl
theorem uO {bs f:Nat} {l:List CV} (h:l.length≤bs):NH bs f l=aR l:=by
 cases f with
 |zero=>rfl
 |succ f=>rw[NH,bd h,fv h,pB,ke]
theorem aiV {bs:Nat} (hb:0<bs): ∀ (f g:Nat) (l:List CV),l.length≤f→l.length≤g→NH bs f l=NH bs g l
 |0,g,l,h,_=>by
  have:l=[]:=bp Z8;subst this;rw[pB,pB]
 |f+1,0,l,_,h=>by
  have:l=[]:=bp Z8;subst this;rw[pB,pB]
 |f+1,g+1,l,h,h'=>by
  rw[NH,NH];by_cases hl:l=[]
  ·subst hl;rw[ma,pB,pB]
  ·have:0<l.length:=mf.2 hl;rw[aiV hb f g (l.drop bs) Zo Zo]
theorem xY {bs N:Nat} (hb:0<bs) {l:List CV} (h:l.length≤N) (h0:0<N):NH bs N l=aR (l.take bs)++NH bs N (l.drop bs):=by
 obtain⟨f,rfl⟩: ∃ f,N=f+1:=⟨N-1,Z8⟩;rw[NH];congr 1;by_cases hl:l=[]
 ·subst hl;rw[ma,pB,pB]
 ·have:0<l.length:=mf.2 hl;exact aiV hb f (f+1) _ Zo Zo
theorem arQ {bs:Nat}: ∀ (f:Nat) (l:List CV),(NH bs f l).length=l.length
 |0,l=>fJ l
 |f+1,l=>by
  rw[NH,ae,fJ,arQ f,ar,bq];omega
theorem aES {l:List CV} (bs:Nat):l.take bs++(l.drop bs).take bs=l.take (2*bs):=by
 rw[mj,List.take_add]
theorem aET {l:List CV} (bs:Nat):(l.drop bs).drop bs=l.drop (2*bs):=by
 rw[List.drop_drop,mj]
attribute [local irreducible] box own sl bL aH bJ Qt cN cM dG dL eQ
theorem anJ (q:Option Addr) (c kb:Nat) (l:List CV) (N:Nat) (hN:l.length=N) (zv:0<N) (zt:N≤1000000000) (hw: ∀ x∈l,0≤x.1∧x.1≤1000000000000):
  Ct lk 356 [.slice q N c, .int .i64 (N:Int),wB kb] [own (.slice q N c) 437 2 N (flat fC l),KB kb]
   fun v H'=>v= .tuple #[]∧H'=[own (.slice q N c) 437 2 N (flat fC (aR l))]:=by
 (refine Ye Tryz.func356 Tryz.ntmps356 ?_;intro Fr);refine bM ?_;(refine aC (σ:=List CV×List CV×Nat) (fun y=>((y.1++NH 20 N y.2.1=NH 20 N l∧y.1.length=y.2.2)∧y.2.2+y.2.1.length=N)∧ ∀ x∈y.2.1,0≤x.1∧x.1≤1000000000000) (fun y=>[(7, .int .i64 (y.2.2:Int)),(8, .int .i64 ((y.2.2+20:Nat):Int))]) (fun y=>[own (.slice q N c) 437 2 N (flat fC (y.1++y.2.1))]) _ (fun y=>y.2.1.length) (([],l,0)) (by exact⟨⟨⟨rfl,rfl⟩,by dsimp only;omega⟩,hw⟩) Ze Zb (fun⟨D,T,a⟩ ⟨⟨⟨hD,zw⟩,hT⟩,zy⟩=> ?_);refine Da ?_);dsimp only at hD zw hT zy;by_cases h20:a+20≤N
 ·have zq:(T.take 20).length=20:=by rw[ar];omega
  have zn:(T.drop 20).length=T.length-20:=bq;have IN:=PG q c kb D (T.take 20) (T.drop 20) a (a+20) N zw Z8 Zv zv zt fun x hx=>zy x (ll hx)
  rw[show D++T=D++T.take 20++T.drop 20 by rw[fu,gl]];have hst:=xY (bs:=20) (N:=N) Z9 (l:=T) Z8 zv;have zr:((a+20:Nat):Int)+20=((a+20+20:Nat):Int):=Z8
  refine bM ?_;refine aL wt rfl (bG rfl IN rfl (Lp.out aU (Lp.view (oA kb) Lp.nil (dO aU)))) ?_;rintro _ _ ⟨_,⟨rfl,rfl⟩,rfl⟩;dsimp only[dw,dz];refine bM ?_;rw[zr];refine Ee ((D++aR (T.take 20),T.drop 20,a+20)) ?_ ?_
  ·refine⟨⟨⟨?_, ?_⟩,by dsimp only;omega⟩,fun x hx=>zy x (ln hx)⟩
   ·rw[←hD,hst,fu]
   ·dsimp only;rw[ae,fJ];omega
  ·dsimp only;omega
 ·have IN:=PG q c kb D T [] a N N zw Z8 (by simp only[ae,gr];omega) zv zt zy;rw[show D++T=D++T++[] by rw[ke]];have zx:D++aR T++[]=NH 20 N l:=by rw[ke, ←hD,uO Z8]
  refine bM ?_;refine aL wt rfl (bG rfl IN rfl (Lp.out aU (Lp.view (oA kb) Lp.nil (dO aU)))) ?_;rintro _ _ ⟨_,⟨rfl,rfl⟩,rfl⟩;dsimp only[dw,dz];rw[zx];clear hD zw hT zy IN zx;refine iC ?_;(refine aC (σ:=Nat×Int×Int) (fun y=>20≤y.1) (fun y=>[(6, .int .i64 (y.1:Int)),(7, .int .i64 y.2.1),(8, .int .i64 y.2.2)]) (fun y=>[own (.slice q N c) 437 2 N (flat fC (NH y.1 N l))]) _ (fun y=>N-y.1) ((20,(a:Int),((a+20:Nat):Int))) (by exact df _) Ze Zb (fun⟨bs,x7,x8⟩ zk=> ?_);refine Da ?_);dsimp only at zk ⊢;by_cases hbN:bs<N
  ·have zm:2*(bs:Int)=((2*bs:Nat):Int):=Z8
   have zu:(bs:Int)*2=((2*bs:Nat):Int):=Z8
   refine bM ?_;rw[zm];(refine aC (σ:=List CV×List CV×Nat) (fun y=>((y.1++NH (2*bs) N y.2.1=NH (2*bs) N l∧y.1.length=y.2.2)∧y.2.2+y.2.1.length=N)∧ ∀ x∈y.2.1,0≤x.1∧x.1≤1000000000000) (fun y=>[(7, .int .i64 (y.2.2:Int)),(8, .int .i64 ((2*bs+y.2.2:Nat):Int))]) (fun y=>[own (.slice q N c) 437 2 N (flat fC (y.1++NH bs N y.2.1))]) _ (fun y=>y.2.1.length) (([],l,0)) (by exact⟨⟨⟨rfl,rfl⟩,by dsimp only;omega⟩,hw⟩) Ze Zb (fun⟨D,T,a⟩ ⟨⟨⟨hD,zw⟩,hT⟩,zy⟩=> ?_);refine Da ?_);dsimp only at hD zw hT zy;have zl:(a:Int)+(bs:Int)=((a+bs:Nat):Int):=Z8
   have s1:=kK (T.take bs);by_cases hb2:a+2*bs≤N
   ·have zq:(T.take bs).length=bs:=by rw[ar];omega
    have zn:((T.drop bs).take bs).length=bs:=by rw[ar,bq];omega
    have ht3 : (T.drop (2 * bs)).length = T.length - 2 * bs := bq;have e1 := xY (bs := bs) (N := N) Z8 (l := T) Z8 zv;have e2 := xY (bs := bs) (N := N) Z8 (l := T.drop bs) Zo zv;rw [aET] at e2;have e3 := xY (bs := 2 * bs) (N := N) Z8 (l := T) Z8 zv;have hbl := arQ (bs := bs) N (T.drop (2 * bs));have SY := arP (2 * bs) q c kb D (aR (T.take bs)) (aR ((T.drop bs).take bs)) (NH bs N (T.drop (2 * bs))) a (a + bs) (2 * bs + a) N zw Zz Zz Zz Zz (by rw [fJ, fJ]; omega) (by simp only [ae, fJ]; omega) zt (fun x hx => by
     rcases ei.1 hx with h|h
     ·exact zy x (ll (nD.1 h))
     ·exact zy x (ln (ll (nD.1 h)))) s1 (kK _)
    rw[show D++NH bs N T=D++aR (T.take bs)++aR ((T.drop bs).take bs)++NH bs N (T.drop (2*bs)) by rw[e1,e2];simp only[fu]];have zr:((2*bs+a:Nat):Int)+((2*bs:Nat):Int)=((2*bs+(2*bs+a):Nat):Int):=Z8
    refine bM ?_;rw[zl];refine aL wt rfl (bG rfl SY rfl (Lp.out aU (Lp.view (oA kb) Lp.nil (dO aU)))) ?_;rintro _ _ ⟨_,⟨rfl,rfl⟩,rfl⟩;dsimp only[dw,dz];rw[KO,aES];refine bM ?_;rw[zm,zr];refine Ee ((D++aR (T.take (2*bs)),T.drop (2*bs),2*bs+a)) ?_ ?_
    ·refine⟨⟨⟨?_, ?_⟩,by dsimp only;omega⟩,fun x hx=>zy x (ln hx)⟩
     ·rw[←hD,e3,fu]
     ·dsimp only;rw[ae,fJ,ar];omega
    ·dsimp only;omega
   ·have zx:D++aR T=NH (2*bs) N l:=by rw[←hD,uO Z8]
    by_cases hm:a+bs<N
    ·have zq:(T.take bs).length=bs:=by rw[ar];omega
     have zn : (T.drop bs).length = T.length - bs := bq;have e1 := xY (bs := bs) (N := N) Z8 (l := T) Z8 zv;rw [uO (l := T.drop bs) Z8] at e1;have SY := arP (2 * bs) q c kb D (aR (T.take bs)) (aR (T.drop bs)) [] a (a + bs) N N zw Zz Zz Zz Zz (by rw [fJ, fJ]; omega) (by simp only [ae, fJ, gr]; omega) zt (fun x hx => by
      rcases ei.1 hx with h|h
      ·exact zy x (ll (nD.1 h))
      ·exact zy x (ln (nD.1 h))) s1 (kK _)
     rw[show D++NH bs N T=D++aR (T.take bs)++aR (T.drop bs)++[] by rw[e1,ke,fu]];refine bM ?_;rw[zl];refine aL wt rfl (bG rfl SY rfl (Lp.out aU (Lp.view (oA kb) Lp.nil (dO aU)))) ?_;rintro _ _ ⟨_,⟨rfl,rfl⟩,rfl⟩;dsimp only[dw,dz];rw[KO,gl,ke,zx];refine iC ?_;rw[zu];refine Ee ((2*bs,(a:Int),((2*bs+a:Nat):Int))) ?_ ?_
     ·dsimp only;omega
     ·dsimp only;omega
    ·rw[uO (l:=T) Z8,zx];refine bM ?_;rw[zu];refine Ee ((2*bs,(a:Int),((2*bs+a:Nat):Int))) ?_ ?_
     ·dsimp only;omega
     ·dsimp only;omega
  ·rw[uO (l:=l) Z8];refine bM ?_;exact Eb (x:=⟨rfl,rfl⟩)
theorem aEU (q:Option Addr) (c kb:Nat) (l:List CV) (N:Nat) (hN:l.length=N) (zy:0<N) (zx:N≤1000000000) (hw: ∀ x∈l,0≤x.1∧x.1≤1000000000000):
  Ct lk 350 [.slice q N c,wB kb] [own (.slice q N c) 437 2 N (flat fC l),KB kb]
   fun v H'=>v= .tuple #[]∧H'=[own (.slice q N c) 437 2 N (flat fC (aR l))]:=by
 have ST:=anJ q c kb l N hN zy zx hw;(refine Ye Tryz.func350 Tryz.ntmps350 ?_;intro Fr);refine iC ?_;refine aL wt rfl (bG rfl ST rfl (Lp.out aU (Lp.view (oA kb) Lp.nil (dO aU)))) ?_;rintro _ _ ⟨_,⟨rfl,rfl⟩,rfl⟩;dsimp only[dw,dz];refine iC ?_;exact Eb (x:=⟨rfl,rfl⟩)
end nE
namespace within
open Go.RowKit bO
def wG (k n:Int):Int:=k%18446744073709551616%n
theorem UJ (k n:Int) (h:1≤n):0≤wG k n∧wG k n<n:=by
 unfold wG;exact⟨Int.emod_nonneg _ Z8,Int.emod_lt_of_pos _ Z8⟩
theorem aoA (k n:Int) (h1:1≤n) (h2:n≤9223372036854775807) (W:World):Calls lk 26 #[.int .i64 k, .int .i64 n] W fun e w'=>e= .returned (.int .i64 (wG k n))∧W=w':=by
 have hb:=UJ k n h1;have h3: ¬ n=0:=Z8
 go_enter Tryz.func26,Tryz.ntmps26
 go_wp2_with (fail)
 go_ret
 refine⟨DV (a:=wrap64 ((jz.wrap k).tmod n)) ?_,rfl⟩;have e:(jz.wrap k).tmod n=wG k n:=by
  rw[IntKind.wrap_u64,Int.tmod_eq_emod_of_nonneg Z8];rfl
 rw[e];exact IntWalk.wrap64_in _ Z8
end within
namespace sl
open Go.RowKit bO
theorem ajU {P:Program} (w:World) (t u ty e:TypeId) (i:TypeInfo) (ht:P.underlying t=some (.slice e)) (hu:P.underlying u=some .string) (hi:P.info? e=some i) (hz:i.zero=some (.int .u8 0)) (zy:i.size=1) (zu:i.bytes=1) (v:Value) (n:Nat) (xs:List Value) (zx:w.ownsRow 0 e 1 v n xs) (s:ByteArray) (zw:n+s.size≤140737488355328): ∃ v' w',(Builtin.append_ #[t,u] ty #[v, .string s]).run P w= .ok v' w'∧w'.ownsRow 0 e 1 v' (n+s.size) (xs++Lib.strCells s)∧w.grownBy w' v.ownBlock∧(v'= .slice none 0 0↔v= .slice none 0 0∧s.size=0)∧(v'.ownBlock=v.ownBlock∨v'.ownBlock=some w.heap.size):=by
 obtain⟨v',w',hr,g1,g2,g3⟩:=Lib.run_append_own_string (P:=P) w 0 t u ty e i ht hu hi hz zy zu v n xs zx s Zl zw (fe _);refine⟨v',w',hr,g1,g2,g3, ?_⟩;have zt:xs.length=n:=by simpa using zx.1
 rcases zx.2 with⟨rfl,rfl⟩|⟨g,cap,cur,rfl,hbg,hg,hnc,hcm,zr,htake⟩
 ·by_cases hm:s.size=0
  ·rw[g3.2 ⟨rfl,hm⟩];exact .inl rfl
  ·have h2:=run_append_nil_string (P:=P) w t u ty e i (.int .u8 0) ht hu hi hz s Z8 Z8 (by rw[zu];omega);rw[hr] at h2;injection h2 with h3 h4
   rw[h3];exact .inr rfl
 ·by_cases zv:n+s.size≤cap
  ·have hcs':cur.size=cap:=by simpa using zr
   have h2:=Lib.run_append_room_string (P:=P) w t u ty e i ht hu hi zy g n cap cur hg s zv Z8;rw[hr] at h2;injection h2 with h3 h4
   rw[h3];exact .inl rfl
  ·have holds: ∀ j u,xs[j]? =some u→w.cell? ((⟨g,0,none⟩:Addr).add j)=some u:=zx.cells (g:=g) rfl;have h2:=Lib.run_append_grow_string (P:=P) w t u ty e i (.int .u8 0) ht hu hi hz ⟨g,0,none⟩ n cap xs (by rw[zy];simpa using zt) holds s Z8 Z8 (by rw[zu];exact growslice_fits Z8 Z8);rw[hr] at h2;injection h2 with h3 h4
   rw[h3];exact .inr rfl
section
variable {P:Program} {n:Nat} {F:eE} {H R:List Ent} {o:Oper} {x y z:Operand} {v u z':Value} {T S:TypeId}
theorem US {t tt e m:Nat} {agg:Bool} {xs l:List UInt8} [ht:pD P t e] [hs:Ty P e agg 1 1 (.int .u8 0)] [hst:EB P tt] (ho:o.op= .call { callee:= .builtin .append,args:= #[x,y],argTypes:= #[t,tt] }) (hx:ev F x=some v) (hy:ev F y=some (.string (str l)))
  (p:bQ (own v e 1 m (flat fY xs)) H R) (hb:m+l.length≤140737488355328):
  cN P n o F H fun r H'=> ∃ q' cap',r= .slice q' (m+l.length) cap'∧(r= .slice none 0 0↔v= .slice none 0 0∧l=[])∧H'=own (.slice q' (m+l.length) cap') e 1 (m+l.length) (flat fY (xs++l))::R:=fun Q a w next ha hw hn=>by
 have zy:=hw.perm p.perm;obtain⟨it,dt,e1,_,_,e2,e3,e4⟩:=hs.info;have zx:(str l).size=l.length:=cZ l;obtain⟨v',w',hr,g1,g2,g3,g4⟩:=ajU w t tt o.type e it ht.h hst.h e1 e4 e2 e3 v m _ zy.head (str l) (by rw[zx];exact hb);rw[zx] at g1 g3;obtain⟨q',cap',rfl⟩:=qQ g1;have ef:flat fY xs++Lib.strCells (str l)=flat fY (xs++l):=by
  rw[←afO,EN l];rfl
 rw[ef] at g1;unfold bj;simp only[execOp,ho,resolve,invoke,builtin,fc,gd,gu,ha.eval hx,ha.eval hy,ab,ah,aa,hr,bf];refine hn _ _ _ ⟨q',cap',rfl, ?_,rfl⟩ (tU zy g2 g1 g4);rw[g3];constructor
 ·exact fun⟨h1,h2⟩=>⟨h1,bp h2⟩
 ·exact fun⟨h1,h2⟩=>⟨h1,by rw[h2];rfl⟩
end
end sl
namespace sl
open Go.RowKit bO
section
variable {P:Program} {n:Nat} {F:eE} {H R:List Ent} {o:Oper} {x y z:Operand} {v u z':Value} {T S:TypeId}
theorem MS {t m c:Nat} {a:Addr} (ho:o.op= .call { callee:= .builtin .unsafeSliceData,args:= #[x],argTypes:= #[t] }) (hx:ev F x=some (.slice (some a) m c)) (hc:0<c):Qt P n o F H (.pointer (some a)):=fun w a' ha hw=>by
 simp [execOp,ho,resolve,invoke,builtin,ha.eval hx,Lib.run_unsafeSliceData_row _ _ _ a m c Z8]
theorem EP {t m c:Nat} (ho:o.op= .call { callee:= .builtin .unsafeSliceData,args:= #[x],argTypes:= #[t] }) (hx:ev F x=some (.slice none m c)):Qt P n o F H (.pointer none):=fun w a' ha hw=>by
 simp [execOp,ho,resolve,invoke,builtin,ha.eval hx,Lib.run_unsafeSliceData_nil]
theorem wO {pt it:Nat} {q:Option Addr} (ho:o.op= .call { callee:= .builtin .unsafeString,args:= #[x,y],argTypes:= #[pt,it] }) (hx:ev F x=some (.pointer q)) (hy:ev F y=some (.int .i64 0)):Qt P n o F H (.string (str [])):=fun w a' ha hw=>by
 have h:=Lib.run_unsafeString_none (P:=P) a' pt it o.type q;simp only[execOp,ho,resolve,invoke,builtin,fc,gd,gu,ha.eval hx,ha.eval hy,ab,ah,aa,h];rfl
theorem adX (w:World) (g k:Nat):oB (fun b=>b=g) w (w.freeze ⟨g,0,none⟩ k):=by
 have h:=Lib.below_freeze (B:=0) (Below.refl 0 w) (p:=⟨g,0,none⟩) (fe _) k;refine⟨h.os,h.tape,h.output,h.size,fun b hb hn=> ?_⟩;unfold World.freeze;split
 ·rfl
 ·simp only[Array.getElem?_modify];rw[Jf (fun e=>hn e.symm)]
theorem KV {pt it e g c:Nat} {l:List UInt8} (hp:P.underlying pt=some (.pointer e)) (hc:P.cellsOf e=1) (ho:o.op= .call { callee:= .builtin .unsafeString,args:= #[x,y],argTypes:= #[pt,it] }) (hx:ev F x=some (.pointer (some ⟨g,0,none⟩))) (hy:ev F y=some (.int .i64 (l.length:Int))) (p:bQ (own (.slice (some ⟨g,0,none⟩) l.length c) e 1 l.length (flat fY l)) H R) (h0:l≠[]):
  cN P n o F H fun r H'=>r= .string (str l)∧H'=R:=fun Q a w next ha hw hn=>by
 have zx:=hw.perm p.perm;have zy:w.ownsRow 0 e 1 (.slice (some ⟨g,0,none⟩) l.length c) l.length (flat fY l):=zx.head;rcases zy.2 with⟨h,_⟩|⟨g',cap,cur,h,hb0,hg,h2,h3,h4,h5⟩
 ·cases h
 ·cases h;have hr := Lib.run_unsafeString_row (P := P) w pt it o.type e hp hc g cur.size (by simp [World.shape?, hg]) l h0 Z8 (by unfold maxLen at h3; omega) (by
   intro j b hj;exact zy.cells (g := g) rfl j _ (by rw [EN]; simp [Lib.byteCells, hj]))
  unfold bj;simp only[execOp,ho,resolve,invoke,builtin,fc,gd,gu,ha.eval hx,ha.eval hy,ab,ah,aa,hr,bf];refine hn _ _ _ ⟨rfl,rfl⟩ ?_;have zw:=an.1 zx.2;exact⟨fun f hf=>Ent.aeX (zx.1 f (a8 _ hf)) (adX w g _) fun b hb zv=>zw.1 f hf (.inl rfl) b (by subst zv;rfl) hb,zw.2⟩
end
end sl
namespace sl
open Go.RowKit bO
def nod (a:Act):Act:={ a with defers:=[] }
theorem VO (a:Act):(nod a).eval=a.eval:=by
 funext x;cases x<;>rfl
def fx:Option Nat→Fence
 |none=>Fence.wide
 |some l=>Fence.wide.inRound l
theorem aHF (ro:Option Nat) (f:FuncId):(fx ro).fn f:=by cases ro<;>trivial
theorem aHG (ro:Option Nat):(fx ro).round=ro:=by cases ro<;>rfl
theorem aHH (ro:Option Nat):(fx ro).depth=none:=by cases ro<;>rfl
theorem aeJ {ro:Option Nat} {p:Prop}:(fx ro).depth.isSome=true→p:=fun h=>by rw[aHH] at h;cases h
theorem aoY {ro:Option Nat} {k:Nat} {P:Program} {f:FuncId} {args:Array Value} {w:World} {R:Ending→World→Prop} (h:Calls P f args w R):CallsIn (fx ro) k P f args w R:=by
 cases ro with
 |none=>exact callsIn_wide.2 h
 |some l=>exact CallsIn.inRound l (callsIn_wide.2 h)
theorem ayL {ro:Option Nat} {k:Nat} {P:Program} {row:String} {args:Array Value} {w:World} {R:Value→World→Prop} (h:Rows P row args w R):RowsIn (fx ro) k P row args w R:=fun c cs _=>by
 obtain⟨v,w',r,s⟩:=h c cs;refine⟨v,w',r, ?_⟩;cases ro with
 |none=>exact stepsIn_wide.2 s
 |some l=>exact (stepsIn_wide.2 s:StepsIn (Machine.fenced P Fence.wide) P _ _)
def nX (D:List Deferred) (Q:fW) (e:Exit) (n:Nat) (F:eE) (H:List Ent):Prop:= ∀ a w,a.defers=D→Ok F n (nod a)→aG H w→Q e a w
def oT (ro:Option Nat) (D:List Deferred) (P:Program) (Q:fW) (n:Nat) (c:Code) (F:eE) (H:List Ent):Prop:= ∀ a w,a.defers=D→Ok F n (nod a)→aG H w→c.wpIn (fx ro) 0 P Q a w
def oU (ro:Option Nat) (D:List Deferred) (P:Program) (ops:Array Oper) (Q:fW) (n:Nat) (l:List Oper) (F:eE) (H:List Ent):Prop:= ∀ a w,a.defers=D→Ok F n (nod a)→aG H w→wpListIn (fx ro) 0 P ops Q l a w
section
variable {P:Program} {Q:fW} {n:Nat} {F:eE} {H R:List Ent} {ro:Option Nat} {D:List Deferred}
theorem aUN {o:Oper} {K:Value→List Ent→Prop} (h:cN P n o F H K) (hd: ∀ c,o.op≠ .defer c) {a:Act} {w:World} (ha:Ok F n (nod a)) (hw:aG H w) {next:Act→World→Prop} (hn: ∀ v H' w',K v H'→aG H' w'→next (a.put o.dst v) w'):o.wpIn (fx ro) 0 P a w next Q:=by
 have h1:=h (fun _ _ _=>False) (nod a) w (fun a1 w1=>a1.defers=[]∧next { a1 with defers:=a.defers } w1) ha hw fun v H' w' hK hH=>by
  have h2:=hn v H' w' hK hH;cases ho:o.dst with
  |none=>rw[ho] at h2;exact⟨rfl,h2⟩
  |some d=>rw[ho] at h2;exact⟨rfl,h2⟩
 unfold bj at h1;rw[VO] at h1;refine⟨fun f _=>aHF ro f, ?_⟩;rw[aHG,Oper.semAt_eq ro _ _ hd];have zy: ∀ v,({ (nod a).put o.dst v with defers:=a.defers }:Act)=a.put o.dst v:=fun v=>by cases o.dst<;>rfl
 generalize (execOp a.eval o).run P w=r at h1 ⊢
 match r,h1 with
 | .ok (.value v) w',h1=>have:=h1.2;rw[zy] at this;exact this
 | .ok .skip w',h1=>have:=h1.2;rw[zy] at this;exact this
 | .ok (.defer d) w',h1=>exact absurd h1.1 (by cases o.dst<;>simp [Act.put])
 | .ok (.enter f args) w',h1=>
  refine⟨aeJ,(aoY h1).mono fun e w'' he=> ?_⟩;cases e with
  |returned v=>have:=he.2;rw[zy] at this;exact this
  |panicked ch=>exact he.elim
  |outgrown=>obtain⟨_,_,h⟩:=he;exact h.elim
 | .ok (.row row args) w',h1=>
  refine⟨aeJ,(ayL h1).mono fun v w'' he=> ?_⟩;have:=he.2;rw[zy] at this;exact this
 | .halt (.panic v) w',h1=>exact h1.elim
theorem ayM {c:Code} {H':List Ent} (hH:HSub H H') (h:oT ro D P Q n c F H'):oT ro D P Q n c F H:=fun a w hD ha hw=>h a w hD ha (hH w hw)
theorem abR {ops:Array Oper} {l:List Oper} {H':List Ent} (hH:HSub H H') (h:oU ro D P ops Q n l F H'):oU ro D P ops Q n l F H:=fun a w hD ha hw=>h a w hD ha (hH w hw)
theorem ayN {e:Exit} {G:eE} {H':List Ent} (hF:kP F G) (hH:HSub H H') (h:nX D Q e n G H'):nX D Q e n F H:=fun a w hD ha hw=>h a w hD (ha.sub hF) (hH w hw)
theorem aHI {x y:Code} (h:oT ro D P (Exit.then (y.wpIn (fx ro) 0 P Q) Q) n x F H):oT ro D P Q n (.seq x y) F H:=fun a w hD ha hw=>wpIn_seq (h a w hD ha hw)
theorem ayO (h:nX D Q .normal n F H):oT ro D P Q n .skip F H:=fun a w hD ha hw=>wpIn_skip (h a w hD ha hw)
theorem ayP {id:Nat} (h:nX D Q (.exit id) n F H):oT ro D P Q n (.exit id) F H:=fun a w hD ha hw=>wpIn_exit (h a w hD ha hw)
theorem aHJ (h:nX D Q .ret n F H):oT ro D P Q n .ret F H:=fun a w hD ha hw=>wpIn_ret (h a w hD ha hw)
theorem aeK {a:Act} {x:Operand} {v:Value} (ha:Ok F n (nod a)) (hx:ev F x=some v):a.eval x=v:=by
 have:=ha.eval hx;rwa [VO] at this
theorem akH {c:Operand} {x y:Code} (hc:ev F c=some (.bool true)) (h:oT ro D P Q n x F H):oT ro D P Q n (.cond c x y) F H:=fun a w hD ha hw=>wpIn_cond_true (aeK ha hc) (h a w hD ha hw)
theorem akI {c:Operand} {x y:Code} (hc:ev F c=some (.bool false)) (h:oT ro D P Q n y F H):oT ro D P Q n (.cond c x y) F H:=fun a w hD ha hw=>wpIn_cond_false (aeK ha hc) (h a w hD ha hw)
theorem VP {id:Nat} {c:Code} (h:oT ro D P (Exit.inBlock id Q) n c F H):oT ro D P Q n (.block id c) F H:=fun a w hD ha hw=>wpIn_block (h a w hD ha hw)
theorem akJ {id:Nat} {l:List Oper} (h:oU ro D P l.toArray Q n l F H):oT ro D P Q n (.region id l.toArray false) F H:=fun a w hD ha hw=>wpIn_region_lit (h a w hD ha hw)
theorem aHK {ops:Array Oper} (h:nX D Q .normal n F H):oU ro D P ops Q n [] F H:=fun a w hD ha hw=>wpListIn_nil (h a w hD ha hw)
theorem ayQ {y:Code} (h:oT ro D P Q n y F H):nX D (Exit.then (y.wpIn (fx ro) 0 P Q) Q) .normal n F H:=h
theorem VQ {K:Act→World→Prop} {id:Nat} (h:nX D Q (.exit id) n F H):nX D (Exit.then K Q) (.exit id) n F H:=h
theorem XO {K:Act→World→Prop} (h:nX D Q .ret n F H):nX D (Exit.then K Q) .ret n F H:=h
theorem aoZ {id:Nat} (h:nX D Q .normal n F H):nX D (Exit.inBlock id Q) .normal n F H:=h
theorem VR {id:Nat} (h:nX D Q .ret n F H):nX D (Exit.inBlock id Q) .ret n F H:=h
theorem ON {id:Nat} (h:nX D Q .normal n F H):nX D (Exit.inBlock id Q) (.exit id) n F H:=fun a w hD ha hw=>by
 show if id=id then _ else _
 rw[Jg rfl];exact h a w hD ha hw
theorem VS {id i:Nat} (zy:Nat.beq i id=false) (h:nX D Q (.exit i) n F H):nX D (Exit.inBlock id Q) (.exit i) n F H:=fun a w hD ha hw=>by
 show if i=id then _ else _
 rw[Jf (fun e=>by subst e;simp at zy)];exact h a w hD ha hw
theorem PV {a:Act} {d:Option Nat} {v:Value}:nod (a.put d v)=(nod a).put d v:=by cases d<;>rfl
theorem put_defers {a:Act} {d:Option Nat} {v:Value}:(a.put d v).defers=a.defers:=by cases d<;>rfl
theorem akK {ops:Array Oper} {o:Oper} {rest:List Oper} {K:Value→List Ent→Prop} (hg:mV ops F o) (hd:fits n o.dst=true) (h:cN P n o F H K) (zy: ∀ c,o.op≠ .defer c) (k: ∀ v H',K v H'→oU ro D P ops Q n rest (qO F o.dst v) H'):oU ro D P ops Q n (o::rest) F H:=
 fun a w hD ha hw=>wpListIn_step fun K' hK=>by
  have zx:bc o (yielded ops a.tmps)=true:=hg.wanted (a:=nod a) ha;rw[Jg zx];exact aUN h zy ha hw fun v H' w' hv zw=>hK _ _ (k v H' hv _ w' (put_defers.trans hD) (by rw[PV];exact ha.put hd) zw)
theorem akL {ops:Array Oper} {o:Oper} {rest:List Oper} {j t:Nat} {b:Bool} (hg:o.guard=some (j,b)) (hs:pX ops j=some t) (hv:look F t=some (.bool (!b))) (hd:fits n o.dst=true) (k:oU ro D P ops Q n rest (qO F o.dst undef) H):oU ro D P ops Q n (o::rest) F H:=
 fun a w hD ha hw=>wpListIn_step fun K' hK=>by
  have hy:yielded ops a.tmps=yielded ops (nod a).tmps:=rfl;have: ¬ bc o (yielded ops a.tmps)=true:=by
   rw[hy];simp only[bc,hg,vF ha hs hv];cases b<;>simp
  rw[Jf this];exact⟨fun f _=>aHF ro f,hK _ _ (k _ _ (put_defers.trans hD) (by rw[PV];exact ha.put hd) hw)⟩
theorem ayR {ops:Array Oper} {rest:List Oper} {d:Nat} {op:Op} {ty:TypeId} {ps:String} {af:Array Edge} {j t:Nat} {b:Bool} (hs:pX ops j=some t) (hv:look F t=some (.bool (!b))) (hd:ao d n=true) (k:oU ro D P ops Q n rest ((d,undef)::F) H):oU ro D P ops Q n (⟨some d,op,ty,ps,af,some (j,b)⟩::rest) F H:=akL rfl hs hv hd k
theorem ayS {ops:Array Oper} {rest:List Oper} {op:Op} {ty:TypeId} {ps:String} {af:Array Edge} {j t:Nat} {b:Bool} (hs:pX ops j=some t) (hv:look F t=some (.bool (!b))) (k:oU ro D P ops Q n rest F H):oU ro D P ops Q n (⟨none,op,ty,ps,af,some (j,b)⟩::rest) F H:=akL rfl hs hv rfl k
theorem PW {ops:Array Oper} {rest:List Oper} {d:Nat} {op:Op} {ty:TypeId} {ps:String} {af:Array Edge} {g:Option (Nat×Bool)} {K:Value→List Ent→Prop} (hg:mV ops F ⟨some d,op,ty,ps,af,g⟩) (hd:ao d n=true) (h:cN P n ⟨some d,op,ty,ps,af,g⟩ F H K) (zy: ∀ c,op≠ .defer c) (k: ∀ v H',K v H'→oU ro D P ops Q n rest ((d,v)::F) H'):oU ro D P ops Q n (⟨some d,op,ty,ps,af,g⟩::rest) F H:=akK hg hd h zy k
theorem aNE {ops:Array Oper} {rest:List Oper} {op:Op} {ty:TypeId} {ps:String} {af:Array Edge} {g:Option (Nat×Bool)} {K:Value→List Ent→Prop} (hg:mV ops F ⟨none,op,ty,ps,af,g⟩) (h:cN P n ⟨none,op,ty,ps,af,g⟩ F H K) (zy: ∀ c,op≠ .defer c) (k: ∀ v H',K v H'→oU ro D P ops Q n rest F H'):oU ro D P ops Q n (⟨none,op,ty,ps,af,g⟩::rest) F H:=akK hg rfl h zy k
theorem VT {op:Op} {kd:Nat} (h:dX op=kd+1): ∀ c,op≠ .defer c:=fun c e=>by
 subst e;cases h
theorem qM (kd:Nat) {ops:Array Oper} {rest:List Oper} {d:Nat} {op:Op} {ty:TypeId} {ps:String} {af:Array Edge} {g:Option (Nat×Bool)} {v:Value} (hk:dX op=kd+1) (hg:mV ops F ⟨some d,op,ty,ps,af,g⟩) (hd:ao d n=true) (h:Qt P n ⟨some d,op,ty,ps,af,g⟩ F H v) (k:oU ro D P ops Q n rest ((d,v)::F) H):oU ro D P ops Q n (⟨some d,op,ty,ps,af,g⟩::rest) F H:=
 PW hg hd (iA h) (VT hk) fun u H' ⟨h1,h2⟩=>by rw[h1,h2];exact k
theorem yL (kd:Nat) {ops:Array Oper} {rest:List Oper} {d:Nat} {op:Op} {ty:TypeId} {ps:String} {af:Array Edge} {g:Option (Nat×Bool)} {K:Value→List Ent→Prop} (hk:dX op=kd+1) (hg:mV ops F ⟨some d,op,ty,ps,af,g⟩) (hd:ao d n=true) (h:cN P n ⟨some d,op,ty,ps,af,g⟩ F H K) (k: ∀ v H',K v H'→oU ro D P ops Q n rest ((d,v)::F) H'):oU ro D P ops Q n (⟨some d,op,ty,ps,af,g⟩::rest) F H:=PW hg hd h (VT hk) k
theorem akM (kd:Nat) {ops:Array Oper} {rest:List Oper} {op:Op} {ty:TypeId} {ps:String} {af:Array Edge} {g:Option (Nat×Bool)} {K:Value→List Ent→Prop} (hk:dX op=kd+1) (hg:mV ops F ⟨none,op,ty,ps,af,g⟩) (h:cN P n ⟨none,op,ty,ps,af,g⟩ F H K) (k: ∀ v H',K v H'→oU ro D P ops Q n rest F H'):oU ro D P ops Q n (⟨none,op,ty,ps,af,g⟩::rest) F H:=aNE hg h (VT hk) k
def aHL {σ:Type} (D:List Deferred) (n:Nat) (I:σ→Prop) (Fi:σ→eE) (Hi:σ→List Ent) (μ:σ→Nat) (k:Nat) (a:Act) (w:World):Prop:= ∃ y,I y∧a.defers=D∧Ok (Fi y) n (nod a)∧aG (Hi y) w∧μ y<k
theorem ayT {c:Code} {σ:Type} (I:σ→Prop) (Fi:σ→eE) (Hi:σ→List Ent) (μ:σ→Nat) (x0:σ) (h0:I x0) (hF:kP F (Fi x0)) (hH:HSub H (Hi x0)) (round: ∀ x,I x→oT ro D P (Exit.then (aHL D n I Fi Hi μ (μ x)) Q) n c (Fi x) (Hi x)):oT ro D P Q n (.loop c) F H:=by
 classical
 intro a w hD ha hw
 let J:Act→World→Nat→Prop:=fun a w k=> ∃ x,I x∧a.defers=D∧Ok (Fi x) n (nod a)∧aG (Hi x) w∧μ x=k
 let m:Act→World→Nat:=fun a w=>if h: ∃ k,J a w k then im (least h) else 0
 refine wpIn_loop (fun a w=> ∃ k,J a w k) m ⟨_,x0,h0,hD,ha.sub hF,hH w hw,rfl⟩ ?_;intro a w hI;have hm:m a w=im (least hI):=by simp only[m];rw[dif_pos hI]
 obtain⟨x,h1,h2,h3,h4,h5⟩:=(jb (least hI)).1;refine wpIn_mono (round x h1 a w h2 h3 h4) ?_;intro e a' w' hq;cases e<;>try exact hq
 obtain⟨y,g1,g2,g3,g4,g5⟩:=hq;have hJ: ∃ k,J a' w' k:=⟨_,y,g1,g2,g3,g4,rfl⟩;refine⟨hJ, ?_⟩;have zy:m a' w'=im (least hJ):=by simp only[m];rw[dif_pos hJ]
 rw[hm,zy, ←h5];exact Nat.lt_of_le_of_lt ((jb (least hJ)).2 _ ⟨y,g1,g2,g3,g4,rfl⟩) g5
theorem DN {σ:Type} {I:σ→Prop} {Fi:σ→eE} {Hi:σ→List Ent} {μ:σ→Nat} {k:Nat} (y:σ) (hI:I y) (hF:kP F (Fi y)) (hH:HSub H (Hi y)) (hμ:μ y<k):nX D (Exit.then (aHL D n I Fi Hi μ k) Q) .normal n F H:=
 fun a w hD ha hw=>⟨y,hI,hD,ha.sub hF,hH w hw,hμ⟩
end
def pT (l:Nat) (r:Loop):Ent where
 jF:=true
 lD j:=j=l
 holds w:=w.heap[l]? =some (.loop r)
 lt h hk:=by
  subst hk;exact (dn.1 h).1
 keep h _ _ _ _ hb:=by rw[hb l rfl];exact h
def NR (d:Nat):Ent where
 jF:=true
 lD j:=j=d
 holds w:=w.heap[d]? =some (.deferred (some []))
 lt h hk:=by
  subst hk;exact (dn.1 h).1
 keep h _ _ _ _ hb:=by rw[hb d rfl];exact h
theorem IJ (w:World) (l:Nat) (o:Obj):oB (fun b=>b=l) w (w.putObj l o):=⟨rfl,rfl,rfl,by simp [World.putObj],fun b _ hb=>World.putObj_heap_other hb⟩
theorem yM {R:List Ent} {l:Nat} {r r':Loop} {w:World} (hw:aG (pT l r::R) w):aG (pT l r'::R) (w.putObj l (.loop r')):=by
 have h:w.heap[l]? =some (.loop r):=hw.head;exact aG.qO hw rfl (IJ w l _) (World.putObj_heap_same (dn.1 h).1:(w.putObj l (.loop r')).heap[l]? =_) fun b hb=> .inl hb
theorem aHM {R:List Ent} {d:Nat} {w:World} (hw:aG (NR d::R) w):aG R (w.putObj d (.deferred none)):=by
 have hp:=an.1 hw.2;exact⟨fun f hf=>Ent.aeX (hw.1 f (a8 _ hf)) (IJ w d _) fun b hb zy=>hp.1 f hf (.inl rfl) b zy hb,hp.2⟩
abbrev aHN:=LoopState→Option Code→Loop
def apA (P:Program) (l dd:Nat) (rec:aHN) (args:Array Value) (A:List Ent) (B:List Ent→Prop) (X:Code→List Ent→Prop):Prop:=
 ∀ Fr w,aG (pT l (rec .ready none)::NR dd::(A++Fr)) w→
  ∃ f tmps assign body,(Instr.yield l args).run P w= .ok (.round l f tmps assign body) w∧RoundIn Fence.wide 0 P l f tmps assign body w fun e w'=>
   (∃ L,B L∧e= .returned (.bool true)∧aG (pT l (rec .ready none)::NR dd::(L++Fr)) w')∨ ∃ c L,X c L∧e= .returned (.bool false)∧aG (pT l (rec .done (some c))::NR dd::(L++Fr)) w'
section
variable {P:Program} {Q:fW} {n:Nat} {F:eE} {H R:List Ent} {D:List Deferred}
theorem VU {ops:Array Oper} {rest:List Oper} {d l dd:Nat} {rec:aHN} {x:Operand} {args:List Operand} {ts:Array TypeId} {vs:List Value} {ty:TypeId} {ps:String} {af:Array Edge} {g:Option (Nat×Bool)} {A:List Ent} {B:List Ent→Prop} {X:Code→List Ent→Prop} (hg:mV ops F ⟨some d, .call { callee:= .value x,args:=args.toArray,argTypes:=ts },ty,ps,af,g⟩) (hd:ao d n=true) (hx:ev F x=some (.func (.yield l) #[] #[])) (hv:WZ F args=some vs) (hr:apA P l dd rec vs.toArray A B X) (hH:HSub H (pT l (rec .ready none)::NR dd::(A++R)))
  (k1: ∀ L,B L→oU none D P ops Q n rest ((d, .bool true)::F) (pT l (rec .ready none)::NR dd::(L++R)))
  (k2: ∀ c L,X c L→oU none D P ops Q n rest ((d, .bool false)::F) (pT l (rec .done (some c))::NR dd::(L++R))):
  oU none D P ops Q n (⟨some d, .call { callee:= .value x,args:=args.toArray,argTypes:=ts },ty,ps,af,g⟩::rest) F H:=
 fun a w hD ha hw=>wpListIn_step fun K' hK=>by
  have zy:bc (⟨some d, .call { callee:= .value x,args:=args.toArray,argTypes:=ts },ty,ps,af,g⟩:Oper) (yielded ops a.tmps)=true:=hg.wanted (a:=nod a) ha;rw[Jg zy];refine⟨fun f _=>aHF none f, ?_⟩;obtain⟨f,tmps,assign,body,hy,zx⟩:=hr R w (hH w hw);have he:=nL ha hv;rw[VO] at he;have e1:args.toArray.map a.eval=vs.toArray:=by simpa using he
  have e2:(#[]++vs.toArray++ #[]:Array Value)=vs.toArray:=Ja
  show Oper.uponIn Fence.wide 0 P _ a K' Q ((Oper.semAt none a.eval _).run P w);rw[Oper.semAt_none];simp only[execOp,resolve,Deferred.ofValue,aeK ha hx,invoke,e1,ab,ah,aa,Array.empty_append,hy];refine⟨fun h=>(by cases h),zx.mono fun e w' he=> ?_⟩;rcases he with⟨L,h1,rfl,h2⟩|⟨c,L,h1,rfl,h2⟩
  ·exact hK _ _ (k1 L h1 _ w' (put_defers.trans hD) (by rw[PV];exact ha.put (d:=some d) hd) h2)
  ·exact hK _ _ (k2 c L h1 _ w' (put_defers.trans hD) (by rw[PV];exact ha.put (d:=some d) hd) h2)
def aUO (P:Program) (l:Nat) (body:Code) (Rr:Ending→World→Prop):fW:=Exit.then (fun a₁ w₁=> ∃ w₂,(Instr.beginRound l).run P w₁= .ok () w₂∧body.wpIn (fx (some l)) 0 P (roundPost P l Rr) a₁ w₂) (fun _ _ _=>False)
def aRZ (l dd:Nat) (rec:aHN) (B:List Ent→Prop) (X:Code→List Ent→Prop) (Fr:List Ent):Ending→World→Prop:=fun e w'=>
 (∃ L,B L∧e= .returned (.bool true)∧aG (pT l (rec .ready none)::NR dd::(L++Fr)) w')∨ ∃ c L,X c L∧e= .returned (.bool false)∧aG (pT l (rec .done (some c))::NR dd::(L++Fr)) w'
def pU (fn:FuncId) (tmps:Array Value) (p:Tmp) (assign body:Code) (dd:Nat):aHN:=fun st pe=>{ state:=st,pending:=pe,fn:=fn,tmps:=tmps,params:= #[p],assign:=assign,body:=body,defers:=dd }
theorem apB {l dd:Nat} {fn:FuncId} {T:Array Value} {p:Tmp} {assign body:Code} {Rr:Ending→World→Prop} (hH:HSub H (pT l (pU fn T p assign body dd .ready none)::R)) (h:oT (some l) [] P (roundPost P l Rr) n body F (pT l (pU fn T p assign body dd .busy none)::R)):nX [] (aUO P l body Rr) .normal n F H:=fun a w hD ha hw=>by
 have zy:=hH w hw;exact⟨_,run_beginRound zy.head rfl,h a _ hD ha (yM zy)⟩
theorem DP {l dd:Nat} {fn:FuncId} {T:Array Value} {p:Tmp} {assign body:Code} {Fr:List Ent} {B:List Ent→Prop} {X:Code→List Ent→Prop} (L:List Ent) (hL:B L) (hH:HSub H (pT l (pU fn T p assign body dd .busy none)::NR dd::(L++Fr))):nX [] (roundPost P l (aRZ l dd (pU fn T p assign body dd) B X Fr)) .normal n F H:=fun a w hD ha hw=>by
 have zy:=hH w hw;exact⟨_,_,run_endRound none zy.head, .inl ⟨L,hL,rfl,yM zy⟩⟩
theorem yN {l dd:Nat} {fn:FuncId} {T:Array Value} {p:Tmp} {assign body:Code} {Fr:List Ent} {B:List Ent→Prop} {X:Code→List Ent→Prop} (L:List Ent) (hL:X .ret L) (hH:HSub H (pT l (pU fn T p assign body dd .busy none)::NR dd::(L++Fr))):nX [] (roundPost P l (aRZ l dd (pU fn T p assign body dd) B X Fr)) .ret n F H:=fun a w hD ha hw=>by
 have zy:=hH w hw;exact⟨_,_,run_endRound (some .ret) zy.head, .inr ⟨.ret,L,hL,rfl,yM zy⟩⟩
theorem ayU {F0:eE} {l dd:Nat} {fn:FuncId} {T:Array Value} {p:Tmp} {assign body:Code} {v:Value} {A:List Ent} {B:List Ent→Prop} {X:Code→List Ent→Prop} (hT:Ok F0 n { tmps:=T,defers:=[] }) (hp:ao p n=true)
  (h: ∀ Fr,oT (some l) [] P (aUO P l body (aRZ l dd (pU fn T p assign body dd) B X Fr)) n assign ((p,v)::F0) (pT l (pU fn T p assign body dd .ready none)::NR dd::(A++Fr))):apA P l dd (pU fn T p assign body dd) #[v] A B X:=fun Fr w hw=>by
 have hl:w.heap[l]? =some (.loop (pU fn T p assign body dd .ready none)):=hw.head;refine⟨_,_,_,_,run_yield hl rfl,roundIn_of_wpIn trivial ?_⟩;refine h Fr _ w rfl ?_ hw;have h9:=hT.put (d:=some p) (v:=v) hp;simpa [pU,nod,Act.put,qO] using h9
def aHO (P:Program) (gf:FuncId) (args:List Value) (H:List Ent) (R:List Ent→Prop):Prop:= ∀ w,aG H w→CallsIn Fence.wide 0 P gf args.toArray w fun e w'=> ∃ v H',e= .returned v∧R H'∧aG H' w'
theorem apC {gf:FuncId} [hc:cG P gf] {lb:List Value} {g:Operand} {p:Tmp} {assign body:Code} {Hd:List Ent→Prop} {Hx:Code→List Ent→Prop} (hg:ev F g=some (.func (.func gf) #[] lb.toArray)) (it: ∀ l dd fn T,Ok F n { tmps:=T,defers:=[] }→aHO P gf (.func (.yield l) #[] #[]::lb) (pT l (pU fn T p assign body dd .ready none)::NR dd::H) fun H'=>(∃ L,Hd L∧H'=pT l (pU fn T p assign body dd .ready none)::NR dd::L)∨ ∃ c L,Hx c L∧H'=pT l (pU fn T p assign body dd .done (some c))::NR dd::L)
  (hdone: ∀ dd L,Hd L→nX [{ target:= .collected dd,args:= #[] }] Q .normal n F (NR dd::L)) (hjump: ∀ c dd L,Hx c L→oT none [{ target:= .collected dd,args:= #[] }] P Q n c F (NR dd::L)):oT none [] P Q n (.rangeFunc g #[p] assign body) F H:=fun a w hD ha hw=>by
 refine wpIn_rangeFunc fun fn _=> ?_
 have hW:aG (pT (w.heap.size+1) (pU fn a.tmps p assign body w.heap.size .ready none)::NR w.heap.size::H) ((w.alloc (.deferred (some []))).alloc (.loop (pU fn a.tmps p assign body w.heap.size .ready none))):=by
  have h1:aG (NR w.heap.size::H) (w.alloc (.deferred (some []))):=aG.new hw (fZ w _) (heap_alloc_new w _:(w.alloc (.deferred (some []))).heap[w.heap.size]? =_) fun b hb=>by (have:b=w.heap.size:=hb);omega
  have hs:(w.alloc (.deferred (some []))).heap.size=w.heap.size+1:=Ja
  refine aG.new h1 (fZ _ _) ?_ fun b hb=>by (have:b=w.heap.size+1:=hb);omega
  show _=some (Obj.loop _);rw[←hs];exact heap_alloc_new (w.alloc (.deferred (some []))) _
 have hit:=it (w.heap.size+1) w.heap.size fn a.tmps ha _ hW;refine⟨w.heap.size+1,[{ target:= .collected w.heap.size,args:= #[] }],(w.alloc (.deferred (some []))).alloc (.loop (pU fn a.tmps p assign body w.heap.size .ready none)),{ target:= .fn (.func gf) lb.toArray,args:= #[.func (.yield (w.heap.size+1)) #[] #[]] },(w.alloc (.deferred (some []))).alloc (.loop (pU fn a.tmps p assign body w.heap.size .ready none)),gf,(Value.func (.yield (w.heap.size+1)) #[] #[]::lb).toArray,(w.alloc (.deferred (some []))).alloc (.loop (pU fn a.tmps p assign body w.heap.size .ready none)),run_enterLoop_outer _ _ _ _ _, ?_,fun f' _=>trivial, ?_,aeJ, ?_⟩
 ·simp only[resolve,aeK ha hg];simp [go_sem]
 ·simp [invoke,go_sem,lP]
 ·refine hit.mono fun e w' ⟨v,H',he,hH',hw'⟩=> ?_
  subst he;rcases hH' with⟨L,hL,rfl⟩|⟨c,L,hL,rfl⟩
  ·have hl:w'.heap[w.heap.size+1]? =some (.loop (pU fn a.tmps p assign body w.heap.size .ready none)):=hw'.head;refine⟨none,_,run_endLoop hl (by simp [pU]), ?_⟩;exact hdone _ L hL _ _ (by simp [hD]) ha (yM (r':={ pU fn a.tmps p assign body w.heap.size .ready none with state:= .exhausted }) hw').tail
  ·have hl:w'.heap[w.heap.size+1]? =some (.loop (pU fn a.tmps p assign body w.heap.size .done (some c))):=hw'.head;refine⟨some c,_,run_endLoop hl (by simp [pU]), ?_⟩;exact hjump c _ L hL _ _ (by simp [hD]) ha (yM (r':={ pU fn a.tmps p assign body w.heap.size .done (some c) with state:= .exhausted }) hw').tail
def aHP (P:Program) (fn:Func) (R:Value→List Ent→Prop) (Fr:List Ent):fW:=bodyPostM Fence.wide 0 P fn fun e w'=> ∃ v H',e= .returned v∧R v H'∧aG (H'++Fr) w'
theorem abS {n:Nat} {args:List Value} (hn:gj args.length n=true):Ok (ini 0 args) n { tmps:=args.toArray++Array.replicate (n-args.toArray.size) undef,defers:=[] }:=by
 refine⟨rfl, ?_, ?_⟩
 ·have:=Nat.le_of_ble_eq_true hn;simp;omega
 ·intro t v ht;obtain⟨_,h2⟩:=afG args 0 t v ht;simp only[Nat.sub_zero] at h2;have hl:=(aj.1 h2).1;rw[Array.getElem?_append_left ZO];simpa using h2
theorem yO {f:FuncId} {fn:Func} {c:Code} {args:List Value} {H:List Ent} {R:Value→List Ent→Prop} {n:Nat} (hf:P.funcs[f]? =some fn) (zy:fn.ntmps=n) (hb:fn.body=some c) (hn:gj args.length n=true) (h: ∀ Fr,oT none [] P (aHP P fn R Fr) n c (ini 0 args) (H++Fr)):Ct P f args H R:=by
 refine⟨fun Fr w hw=>callsIn_wide.1 (callsIn_of_wp_marks (n:=0) hf hb trivial ?_)⟩;subst zy;exact h Fr _ w rfl (abS hn) hw
theorem akN {f:FuncId} {fn:Func} {c:Code} {args:List Value} {H:List Ent} {R:List Ent→Prop} {n:Nat} (hf:P.funcs[f]? =some fn) (zy:fn.ntmps=n) (hb:fn.body=some c) (hn:gj args.length n=true) (h:oT none [] P (aHP P fn (fun _ H'=>R H') []) n c (ini 0 args) H):aHO P f args H R:=by
 intro w hw;refine (callsIn_of_wp_marks (n:=0) hf hb trivial (R:=fun e w'=> ∃ v H',e= .returned v∧R H'∧aG (H'++[]) w') ?_).mono fun e w' ⟨v,H',h1,h2,h3⟩=>⟨v,H',h1,h2,by rwa [ke] at h3⟩
 subst zy;exact h _ w rfl (abS hn) hw
theorem IK {fn:Func} {R':Value→List Ent→Prop} {Fr:List Ent} {rs:List ResultVar} (hrs:fn.results=rs.toArray) {v:Value} (hr:DZ P F H rs v) (H':List Ent) (hR:R' v H') (hH:HSub H (H'++Fr)):nX [] (aHP P fn R' Fr) .ret n F H:=fun a w hD ha hw=>by
 show LeavesInM Fence.wide 0 P fn a.tmps _ a.defers .returning w;rw[hD];exact⟨v,hr.results (a:=nod a) hrs ha hw,_,_,rfl,hR,hH w hw⟩
theorem aeL {fn:Func} {R':Value→List Ent→Prop} {Fr:List Ent} {rs:List ResultVar} (hrs:fn.results=rs.toArray) {v:Value} (hr:DZ P F H rs v) (H':List Ent) (hR:R' v H') (hH:HSub H (H'++Fr)):nX [] (aHP P fn R' Fr) .normal n F H:=fun a w hD ha hw=>by
 show LeavesInM Fence.wide 0 P fn a.tmps _ a.defers .returning w;rw[hD];exact⟨v,hr.results (a:=nod a) hrs ha hw,_,_,rfl,hR,hH w hw⟩
theorem BD {fn:Func} {R':Value→List Ent→Prop} {Fr S:List Ent} {dd:Nat} {rs:List ResultVar} (hrs:fn.results=rs.toArray) {v:Value} (hS:HSub H (NR dd::S)) (hr:DZ P F S rs v) (H':List Ent) (hR:R' v H') (hH:HSub S (H'++Fr)):nX [{ target:= .collected dd,args:= #[] }] (aHP P fn R' Fr) .ret n F H:=fun a w hD ha hw=>by
 show LeavesInM Fence.wide 0 P fn a.tmps _ a.defers .returning w;rw[hD];have zy:=hS w hw;have hd:w.heap[dd]? =some (.deferred (some [])):=zy.head;refine⟨Ja, .inl ⟨dd,_,rfl,run_takeDeferred hd, ?_⟩⟩;have h2:=aHM zy;exact⟨v,hr.results (a:=nod a) hrs ha h2,_,_,rfl,hR,hH _ h2⟩
end
end sl
namespace sl
open Go.RowKit bO
theorem Xa {P Q:Prop} (q:Q) (h:Tk Q→P:=by intro h;(first|(apply qM 0;(focus rfl);(focus exact wt);(focus rfl);(focus (exact qg1)))|(apply qM 1;(focus rfl);(focus exact wt);(focus rfl);(focus (first|exact qg2|exact qs2)))|(apply qM 2;(focus rfl);(focus exact wt);(focus rfl);(focus (first|exact qg3|exact qs3)))|(apply qM 3;(focus rfl);(focus exact wt);(focus rfl);(focus (first|exact qg4|exact qs4)))|(apply qM 4;(focus rfl);(focus exact wt);(focus rfl);(focus (exact qg5)))|(apply qM 5;(focus rfl);(focus exact wt);(focus rfl);(focus (first|exact qs6|exact qg6|exact aPE rfl rfl rfl|exact MS rfl rfl (by omega)|exact EP rfl rfl|exact wO rfl rfl rfl|exact MM rfl rfl)))|(apply qM 10;(focus rfl);(focus exact wt);(focus rfl);(focus (exact aTQ)))|(apply qM 11;(focus rfl);(focus exact wt);(focus rfl);(focus (first|exact aTR|exact aBM rfl rfl rfl rfl (by omega) (by omega)|exact sN rfl rfl rfl rfl (by omega))))|refine aHI ?_|refine akJ ?_|refine aHK ?_|refine ayQ ?_|(apply akH;(focus rfl))|(apply akI;(focus rfl))|refine VP ?_|refine ayP ?_|refine aHJ ?_|refine ayO ?_|refine ON ?_|refine VS rfl ?_|refine VR ?_|refine VQ ?_|refine XO ?_|refine aoZ ?_|(apply akM 8;(focus rfl);(focus exact wt);(focus (exact dR rfl rfl rfl Zk rfl rfl rfl ZY));(rintro _ _ ⟨rfl,rfl⟩))|(apply akM 8;(focus rfl);(focus exact wt);(focus (exact cR rfl rfl rfl rfl Zk rfl ZZ));(rintro _ _ ⟨rfl,rfl⟩))|(apply ayR;(focus rfl);(focus rfl);(focus rfl))|(apply ayS;(focus rfl);(focus rfl))|fail);exact h.go):P:=h ⟨q⟩
theorem Xb {P Q:Prop} (q:Q) (h:Tk Q→P:=by intro h;(first|(apply yL 7;(focus rfl);(focus exact wt);(focus rfl);(focus (exact sJ rfl rfl));(rintro _ _ ⟨b,rfl,rfl⟩);revert b)|(apply yL 7;(focus rfl);(focus exact wt);(focus rfl);(focus (exact sK rfl rfl rfl));(rintro _ _ ⟨b,rfl,rfl⟩);revert b)|(apply yL 7;(focus rfl);(focus exact wt);(focus rfl);(focus (exact gV rfl));(rintro _ _ ⟨b,rfl,rfl⟩);revert b)|fail);exact h.go):P:=h ⟨q⟩
theorem Xq {P Q:Prop} (q:Q) (h:Tk Q→P:=by intro h;(first|(apply yL 9;(focus rfl);(focus exact wt);(focus rfl);(focus (exact aT rfl rfl rfl Zp rfl rfl (by decide) rfl));(rintro _ _ ⟨q,rfl,rfl⟩);revert q)|fail);exact h.go):P:=h ⟨q⟩
theorem Xc {Z:Program} {f:FuncId} {az:List Value} {H:List Ent} {R:Value→List Ent→Prop} {P Q:Prop} (c:Ct Z f az H R) (q:Q) (h:Ct Z f az H R→Tk Q→P:=by intro c h;(apply yL 6;(focus rfl);(focus exact wt);(focus rfl);(focus (exact sM (by rfl) c (by rfl) wY));(rintro _ _ ⟨rfl,rfl⟩));exact h.go):P:=h c ⟨q⟩
end sl
namespace aUR
open Go.RowKit bO sl
attribute [local irreducible] box own sl bL aH bJ Qt cN cM dG dL eQ
theorem aOF (qa qb:Option Addr) (ca cb:Nat) (xs ys:List (ByteArray)) (hn:xs.length≤maxLen) (hm:ys.length≤maxLen):
  Ct lk 69 [.slice qa xs.length ca, .slice qb ys.length cb] [sl 1 (.slice qa xs.length ca) (xs.map fS),sl 1 (.slice qb ys.length cb) (ys.map fS)] fun v H'=>v= .bool (decide (xs=ys))∧H'=[]:=by
 unfold maxLen at hn hm;by_cases hl:xs.length=ys.length
 ·(refine Ye Tryz.func69 Tryz.ntmps69 ?_;intro Fr);refine dE ?_;(refine cU (σ:=Nat) (fun k=>k≤xs.length∧xs.take k=ys.take k) (fun k=>[(13, .int .i64 (k:Int))]) (fun k=>xs.length-k) (0) Ja Ze (fun k ⟨hk,ht⟩=> ?_);refine Da ?_);rcases dW xs k with⟨x,hx,hlt⟩|zx
  ·obtain⟨y,hy⟩: ∃ y,ys[k]? =some y:=⟨_,ak Z8⟩;by_cases zy:x=y
   ·refine dE ?_;refine mD (Hq:=[_,_]) [0,1] [] rfl Jd ?_;(refine oJ [0,1,2,3,4,5,6,7,8] ?_;(repeat (first|(apply qR;(focus rfl);(focus exact wt);(focus kernel_rfl);(focus exact kA);(focus rfl);(focus exact qta))|(apply uA;(focus rfl);(focus rfl);(focus rfl);(focus kernel_rfl);(focus exact kA);(focus rfl))));refine tZ ?_);refine tW Jd ?_;refine dE ?_;refine Ee (k+1) ?_ ?_
    ·exact⟨Z8,by rw[take_one hx,take_one hy,ht,zy]⟩
    ·show xs.length-(k+1)<xs.length-k;omega
   ·refine dE ?_;refine mD (Hq:=[_,_]) [0,1] [] rfl Jd ?_;(refine oJ [0,1,2,3,4,5,6,7,8] ?_;(repeat (first|(apply qR;(focus rfl);(focus exact wt);(focus kernel_rfl);(focus exact kA);(focus rfl);(focus exact qta))|(apply uA;(focus rfl);(focus rfl);(focus rfl);(focus kernel_rfl);(focus exact kA);(focus rfl))));refine tZ ?_);refine tW Jd ?_;refine dE ?_;have hd:decide (xs=ys)=false:=by
     rw[decide_eq_false_iff_not];intro e;rw[e,hy] at hx;exact zy (a7 hx).symm
    exact Ea (x:=⟨by rw[hd],rfl⟩)
  ·refine dE ?_;have hd:decide (xs=ys)=true:=by
    rw[decide_eq_true_iff];rwa [bd zx,bd Z8] at ht
   exact Ea (x:=⟨by rw[hd],rfl⟩)
 ·have hd:decide (xs=ys)=false:=by
   rw[decide_eq_false_iff_not];intro e;rw[e] at hl;exact hl rfl
  (refine Ye Tryz.func69 Tryz.ntmps69 ?_;intro Fr);refine dE ?_;exact Ea (x:=⟨by rw[hd],rfl⟩)
theorem aOG (qa qb:Option Addr) (ca cb:Nat) (xs ys:List (Int×ByteArray)) (hn:xs.length≤maxLen) (hm:ys.length≤maxLen):
  Ct lk 103 [.slice qa xs.length ca, .slice qb ys.length cb] [sl 2 (.slice qa xs.length ca) (xs.map fP),sl 2 (.slice qb ys.length cb) (ys.map fP)] fun v H'=>v= .bool (decide (xs=ys))∧H'=[]:=by
 unfold maxLen at hn hm;by_cases hl:xs.length=ys.length
 ·(refine Ye Tryz.func103 Tryz.ntmps103 ?_;intro Fr);refine dE ?_;(refine cU (σ:=Nat) (fun k=>k≤xs.length∧xs.take k=ys.take k) (fun k=>[(13, .int .i64 (k:Int))]) (fun k=>xs.length-k) (0) Ja Ze (fun k ⟨hk,ht⟩=> ?_);refine Da ?_);rcases dW xs k with⟨x,hx,hlt⟩|zx
  ·obtain⟨y,hy⟩: ∃ y,ys[k]? =some y:=⟨_,ak Z8⟩;by_cases zy:x=y
   ·refine dE ?_;refine mD (Hq:=[_,_]) [0,1] [] rfl Jd ?_;(refine oJ [0,1,2,3,4,5,6,7,8] ?_;(repeat (first|(apply qR;(focus rfl);(focus exact wt);(focus kernel_rfl);(focus exact kA);(focus rfl);(focus exact qta))|(apply uA;(focus rfl);(focus rfl);(focus rfl);(focus kernel_rfl);(focus exact kA);(focus rfl))));refine tZ ?_);refine tW Jd ?_;refine dE ?_;refine Ee (k+1) ?_ ?_
    ·exact⟨Z8,by rw[take_one hx,take_one hy,ht,zy]⟩
    ·show xs.length-(k+1)<xs.length-k;omega
   ·refine dE ?_;refine mD (Hq:=[_,_]) [0,1] [] rfl Jd ?_;(refine oJ [0,1,2,3,4,5,6,7,8] ?_;(repeat (first|(apply qR;(focus rfl);(focus exact wt);(focus kernel_rfl);(focus exact kA);(focus rfl);(focus exact qta))|(apply uA;(focus rfl);(focus rfl);(focus rfl);(focus kernel_rfl);(focus exact kA);(focus rfl))));refine tZ ?_);refine tW Jd ?_;refine dE ?_;have hd:decide (xs=ys)=false:=by
     rw[decide_eq_false_iff_not];intro e;rw[e,hy] at hx;exact zy (a7 hx).symm
    exact Ea (x:=⟨by rw[hd],rfl⟩)
  ·refine dE ?_;have hd:decide (xs=ys)=true:=by
    rw[decide_eq_true_iff];rwa [bd zx,bd Z8] at ht
   exact Ea (x:=⟨by rw[hd],rfl⟩)
 ·have hd:decide (xs=ys)=false:=by
   rw[decide_eq_false_iff_not];intro e;rw[e] at hl;exact hl rfl
  (refine Ye Tryz.func103 Tryz.ntmps103 ?_;intro Fr);refine dE ?_;exact Ea (x:=⟨by rw[hd],rfl⟩)
end aUR
