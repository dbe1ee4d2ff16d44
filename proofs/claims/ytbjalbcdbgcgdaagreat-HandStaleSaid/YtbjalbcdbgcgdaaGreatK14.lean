/- Law HandStale: its texts, packed. -/
import Derived.Test.YtbjalbcdbgcgdaaGreatK13
import Derived.Test.YtbjalbcdbgcgdaaGreatK11
import Derived.Lib.Overlaps
import Derived.Lib.AppendZerosOnto
import Derived.Test.YtbjalbcdbgcgdaaGreatK07
open List renaming append_assoc->ep,getElem?_drop->bq,getElem?_eq_some_iff->ah,getElem?_take_of_lt->ji,length_append->ag,length_drop->eu,length_map->jj,length_take->b9,map_cons->eh,map_nil->eo,map_toArray->dn,mem_append->ft,mem_cons_of_mem->ax,mem_cons_self->bc,pairwise_cons->au,take_of_length_le->dc
open Nat renaming add_mul->an,add_zero->dm,le_refl->aq,min->jk,mul_le_mul_right->bz,sub_self->jl,zero_add->di,zero_le->fg
open Int renaming toNat_natCast->fq
open Option renaming map_none->fw,map_some->fv
set_option linter.unusedVariables false
set_option maxRecDepth 100000
set_option maxHeartbeats 8000000
namespace Go.Proofs.YtbjalbcdbgcgdaaGreat.sl
open Go.RowKit bG
theorem qN {H:List Ent} {q:Option Addr} {e sz m c:Nat} {raw xs:List Value} (hm:m≤c) (hx:raw.take (m*sz)=xs):HSub (own (.slice q c c) e sz c raw::H) (own (.slice q m c) e sz m xs::H):=fun w hw=>by
 subst hx;have h:w.ownsRow 0 e sz (.slice q c c) c raw:=hw.head;refine aD.acZ hw (fun _=>rfl) (?_:w.ownsRow 0 e sz (.slice q m c) m _) fun b hb=>by
  have hb2:(Value.slice q m c).ownBlock=some b:=hb;show (Value.slice q c c).ownBlock=some b;cases q<;>exact hb2
 have hl:raw.length=c*sz:=h.1;have hmc:m*sz≤c*sz:=bz _ hm;rcases h.2 with⟨hv,h0⟩|⟨g,cap,cur,hv,hb,hg,h2,h3,h4,h5⟩
 ·cases hv;have:m=0:=by omega
  subst this;exact⟨by simp, .inl ⟨rfl,rfl⟩⟩
 ·cases hv;refine⟨by rw[b9];omega, .inr ⟨g,c,cur,rfl,hb,hg,hm,h3,h4, ?_⟩⟩;rw[←h5,List.take_take,Nat.min_eq_left hmc]
theorem IK {w:World} {e sz n c:Nat} {q:Option Addr} {xs:List Value} (h:w.ownsRow 0 e sz (.slice q n c) n xs): ∃ raw,w.ownsRow 0 e sz (.slice q c c) c raw∧raw.length=c*sz∧raw.take (n*sz)=xs∧n≤c∧c≤maxLen:=by
 rcases h.2 with⟨hv,h0⟩|⟨g,cap,cur,hv,hb,hg,h2,h3,h4,h5⟩
 ·cases hv;have hx:xs=[]:=List.eq_nil_of_length_eq_zero (by rw[h.1];simp);exact⟨[],⟨by simp, .inl ⟨rfl,rfl⟩⟩,by simp,by rw[hx];simp,aq _,fg _⟩
 ·cases hv;have hl:cur.toList.length=c*sz:=by simpa using h4
  exact⟨cur.toList,⟨hl, .inr ⟨g,c,cur,rfl,hb,hg,aq _,h3,h4,dc (by omega)⟩⟩,hl,h5,h2,h3⟩
section
variable {P:Program} {Q:eP} {n:Nat} {F:dF} {H R:List Ent} {o:Oper} {x y z:Operand} {v u z':Value} {T S:TypeId}
theorem alS {cd:Code} {q:Option Addr} {e sz m c:Nat} {xs:List Value} (p:bF (own (.slice q m c) e sz m xs) H R) (k: ∀ raw,raw.length=c*sz→raw.take (m*sz)=xs→m≤c→c≤maxLen→dC P Q n cd F (own (.slice q c c) e sz c raw::R)):dC P Q n cd F H:=fun a w ha hw=>by
 have hw' := hw.perm p.perm;obtain ⟨raw, h1, h2, h3, h4, h5⟩ := IK (hw'.head : w.ownsRow 0 e sz (.slice q m c) m xs);refine k raw h2 h3 h4 h5 a w ha ?_;exact aD.pA hw' rfl (mP.refl _ _) h1 fun b hb => .inl (by
  have hb2 : (Value.slice q c c).ownBlock = some b := hb;show (Value.slice q m c).ownBlock = some b;cases q <;> exact hb2)
theorem DD {ops:Array Oper} {l:List Oper} {q:Option Addr} {e sz m c:Nat} {xs:List Value} (p:bF (own (.slice q m c) e sz m xs) H R) (k: ∀ raw,raw.length=c*sz→raw.take (m*sz)=xs→m≤c→c≤maxLen→cG P ops Q n l F (own (.slice q c c) e sz c raw::R)):cG P ops Q n l F H:=fun a w ha hw=>by
 have hw' := hw.perm p.perm;obtain ⟨raw, h1, h2, h3, h4, h5⟩ := IK (hw'.head : w.ownsRow 0 e sz (.slice q m c) m xs);refine k raw h2 h3 h4 h5 a w ha ?_;exact aD.pA hw' rfl (mP.refl _ _) h1 fun b hb => .inl (by
  have hb2 : (Value.slice q c c).ownBlock = some b := hb;show (Value.slice q m c).ownBlock = some b;cases q <;> exact hb2)
theorem rW {f : FuncId} {args : List Value} {Rs : Value → List Ent → Prop} {q : Option Addr} {e sz m c : Nat} {xs : List Value} {H : List Ent} (k : m ≤ c → c ≤ maxLen → (q = none ∧ c = 0 ∨ ∃ g, q = some ⟨g, 0, none⟩) → Ct P f args (own (.slice q m c) e sz m xs :: H) Rs) : Ct P f args (own (.slice q m c) e sz m xs :: H) Rs := ⟨fun Fr w hw => by
 have h:w.ownsRow 0 e sz (.slice q m c) m xs:=hw.head;rcases h.2 with⟨hv,h0⟩|⟨g,cap,cur,hv,hb,hg,h2,h3,h4,h5⟩
 ·cases hv;exact (k (aq _) (fg _) (.inl ⟨rfl,rfl⟩)).go Fr w hw
 ·cases hv;exact (k h2 h3 (.inr ⟨g, rfl⟩)).go Fr w hw⟩
theorem YY {w:World} {dT sT ty elem:TypeId} {i:TypeInfo} (hu:P.underlying dT=some (.slice elem)) (hi:P.info? elem=some i) {g o1 dLen dCap:Nat} {a:Addr} {sLen sCap:Nat} {cur:Array Value} {t:TypeId} {cs:List Value} {k:Nat} (hg:w.heap[g]? =some (.cells cur t (0,0))) (hk:jk sLen dLen=k) (hn:cs.length=k*i.size) (hsrc: ∀ j v,cs[j]? =some v→w.cell? (a.add j)=some v) (hfit:o1+cs.length≤cur.size) (h1: ∀ v∈cs,v.oneCell'=true):(Builtin.copy_ #[dT,sT] ty #[.slice (some ⟨g,o1,none⟩) dLen dCap, .slice (some a) sLen sCap]).run P w= .ok (goInt k) (w.setRow g (cur.toList.take o1++cs++cur.toList.drop (o1+cs.length)).toArray):=by
 have hf:=run_firstCells_some (P:=P) w i.size k a sLen sCap cs hn hsrc;have hst:=run_storeCells_at P g o1 t cs 0 cur w hg (by simpa using hfit) h1;simp only[dm] at hst;simp [Builtin.copy_,run_underlying hu,Builtin.lenOf,sizeOf,typeInfo,hi,hk,hf,hst]
theorem rX (g a b:Nat):(⟨g,a,none⟩:Addr).add b=⟨g,a+b,none⟩:=by simp [Addr.add]
theorem qO {w:World} {e sz m c g:Nat} {xs:List Value} (h:w.ownsRow 0 e sz (.slice (some ⟨g,0,none⟩) m c) m xs): ∃ cur,w.heap[g]? =some (.cells cur e (0,0))∧m≤c∧c≤maxLen∧cur.size=c*sz∧cur.toList.take (m*sz)=xs:=by
 rcases h.2 with⟨hv,h0⟩|⟨g',cap,cur,hv,hb,hg,h2,h3,h4,h5⟩
 ·cases hv
 ·cases hv;exact⟨cur,hg,h2,h3,h4,h5⟩
theorem xN {w:World} {e sz c g:Nat} {raw raw':List Value} {cur:Array Value} (hw:aD (own (.slice (some ⟨g,0,none⟩) c c) e sz c raw::R) w) (hg:w.heap[g]? =some (.cells cur e (0,0))) (hl:raw'.length=c*sz):aD (own (.slice (some ⟨g,0,none⟩) c c) e sz c raw'::R) (w.setRow g raw'.toArray):=by
 have h:w.ownsRow 0 e sz (.slice (some ⟨g,0,none⟩) c c) c raw:=hw.head;obtain⟨cur',hg',h2,h3,h4,h5⟩:=qO h;refine aD.pA hw rfl (nO w g _ _ rfl) ?_ fun k hk=> .inl hk
 exact⟨hl, .inr ⟨g,c,_,rfl,fg _,setRow_heap w g _ _ e _ hg,aq _,h3,by simpa using hl,by rw[List.toList_toArray,dc (by omega)]⟩⟩
theorem zS {T' e by' sz g o1 d1 c1 d2 c2 c k:Nat} {agg:Bool} {ad:Addr} {raw cs:List Value} [ht:nH P T e] [hs:Ty P e agg sz by' z'] (ho:o.op= .call { callee:= .builtin .copy,args:= #[x,y],argTypes:= #[T,T'] }) (hx:ev F x=some (.slice (some ⟨g,o1,none⟩) d1 c1)) (hy:ev F y=some (.slice (some ad) d2 c2))
  (p:bF (own (.slice (some ⟨g,0,none⟩) c c) e sz c raw) H R) (hk:jk d2 d1=k) (hcs:cs.length=k*sz) (hfit:o1+k*sz≤c*sz) (hsrc: ∀ w,aD (own (.slice (some ⟨g,0,none⟩) c c) e sz c raw::R) w→ ∀ j v,cs[j]? =some v→w.cell? (ad.add j)=some v) (h1: ∀ v∈cs,v.oneCell'=true):
  cJ P n o F H fun r H'=>r= .int .i64 (k:Int)∧H'=own (.slice (some ⟨g,0,none⟩) c c) e sz c (raw.take o1++cs++raw.drop (o1+k*sz))::R:=fun Q a w next ha hw hn=>by
 have hw':=hw.perm p.perm;have hown:w.ownsRow 0 e sz (.slice (some ⟨g,0,none⟩) c c) c raw:=hw'.head;obtain⟨cur,hg,h2,h3,h4,h5⟩:=qO hown;have hcl:cur.toList.length=c*sz:=by simpa using h4
 have hcr:cur.toList=raw:=by rw[←h5,dc (by omega)]
 obtain⟨it,dt,e1,_,_,e2,_,_⟩:=hs.info;have hr:=YY (P:=P) (ty:=o.type) (sT:=T') ht.h e1 (dLen:=d1) (dCap:=c1) (sCap:=c2) hg hk (by rw[e2];exact hcs) (hsrc w hw') (by rw[hcs,h4];exact hfit) h1;rw[hcr,hcs] at hr;unfold Oper.wp;simp only[execOp,ho,resolve,invoke,builtin,dn,eh,eo,ha.eval hx,ha.eval hy,Sem.run_bind,Sem.run_pure,Result.andThen_ok,hr,Oper.upon];refine hn _ _ _ ⟨rfl,rfl⟩ (xN hw' hg ?_);have hrl:raw.length=c*sz:=hown.1;simp only[ag,b9,eu];omega
theorem PJ {T' e by' sz g o1 o2 d1 c1 d2 c2 c k:Nat} {agg:Bool} {raw:List Value} [ht:nH P T e] [hs:Ty P e agg sz by' z'] (ho:o.op= .call { callee:= .builtin .copy,args:= #[x,y],argTypes:= #[T,T'] }) (hx:ev F x=some (.slice (some ⟨g,o1,none⟩) d1 c1)) (hy:ev F y=some (.slice (some ⟨g,o2,none⟩) d2 c2))
  (p:bF (own (.slice (some ⟨g,0,none⟩) c c) e sz c raw) H R) (hk:jk d2 d1=k) (hfit:o1+k*sz≤c*sz) (hfit2:o2+k*sz≤raw.length) (h1: ∀ v∈(raw.drop o2).take (k*sz),v.oneCell'=true):
  cJ P n o F H fun r H'=>r= .int .i64 (k:Int)∧H'=own (.slice (some ⟨g,0,none⟩) c c) e sz c (raw.take o1++(raw.drop o2).take (k*sz)++raw.drop (o1+k*sz))::R:=
 zS ho hx hy p hk (by rw [b9, eu]; omega) hfit (fun w hw j v hj => by
  have hown : w.ownsRow 0 e sz (.slice (some ⟨g, 0, none⟩) c c) c raw := hw.head;have hjl := (ah.1 hj).1;rw [b9] at hjl;rw [ji (by omega), bq] at hj;have := hown.cells (g := g) rfl _ _ hj;rw [rX] at this ⊢;rwa [di] at this) h1
theorem sW {e by' sz g o2 m1 d2 c2 c:Nat} {agg:Bool} {raw:List Value} [ht:nH P T e] [hs:Ty P e agg sz by' z'] (ho:o.op= .call { callee:= .builtin .append,args:= #[x,y],argTypes:= #[T,T] }) (hx:ev F x=some (.slice (some ⟨g,0,none⟩) m1 c)) (hy:ev F y=some (.slice (some ⟨g,o2,none⟩) d2 c2))
  (p:bF (own (.slice (some ⟨g,0,none⟩) c c) e sz c raw) H R) (hroom:m1+d2≤c) (hfit2:o2+d2*sz≤raw.length) (h1: ∀ v∈(raw.drop o2).take (d2*sz),v.oneCell'=true):
  cJ P n o F H fun r H'=>r= .slice (some ⟨g,0,none⟩) (m1+d2) c∧H'=own (.slice (some ⟨g,0,none⟩) c c) e sz c (raw.take (m1*sz)++(raw.drop o2).take (d2*sz)++raw.drop (m1*sz+d2*sz))::R:=fun Q a w next ha hw hn=>by
 have hw':=hw.perm p.perm;have hown:w.ownsRow 0 e sz (.slice (some ⟨g,0,none⟩) c c) c raw:=hw'.head;obtain⟨cur,hg,h2,h3,h4,h5⟩:=qO hown;have hcl:cur.toList.length=c*sz:=by simpa using h4
 have hcr:cur.toList=raw:=by rw[←h5,dc (by omega)]
 obtain⟨it,dt,e1,_,_,e2,_,_⟩:=hs.info;have hll:((raw.drop o2).take (d2*sz)).length=d2*sz:=by rw[b9,eu];omega
 have hfit:m1*sz+d2*sz≤c*sz:=by rw[←an];exact bz _ hroom
 have hr := run_append_room (P := P) w T o.type e it ht.h e1 g m1 c cur hg ⟨g, o2, none⟩ d2 c2 ((raw.drop o2).take (d2 * sz)) (by rw [e2]; exact hll) (fun j v hj => by
  have hjl := (ah.1 hj).1;rw [b9] at hjl;rw [ji (by omega), bq] at hj;have := hown.cells (g := g) rfl _ _ hj;rw [rX] at this ⊢;rwa [di] at this) h1 hroom (by rw [e2, hll, h4]; exact hfit)
 rw[hcr,hll,e2] at hr;unfold Oper.wp;simp only[execOp,ho,resolve,invoke,builtin,dn,eh,eo,ha.eval hx,ha.eval hy,Sem.run_bind,Sem.run_pure,Result.andThen_ok,hr,Oper.upon];refine hn _ _ _ ⟨rfl,rfl⟩ (xN hw' hg ?_);have hrl:raw.length=c*sz:=hown.1;simp only[ag,b9,eu];omega
theorem wQ {e by' sz g o1 c1 c k:Nat} {agg:Bool} {raw:List Value} [ht:nH P T e] [hs:Ty P e agg sz by' z'] (ho:o.op= .call { callee:= .builtin .clear,args:= #[x],argTypes:= #[T] }) (hx:ev F x=some (.slice (some ⟨g,o1,none⟩) k c1)) (p:bF (own (.slice (some ⟨g,0,none⟩) c c) e sz c raw) H R) (hk:0<k) (hfit:o1+k*sz≤c*sz) (hz1: ∀ v∈mQ z' k,v.oneCell'=true) (hzl:(mQ z' k).length=k*sz):
  cJ P n o F H fun r H'=>r= .tuple #[]∧H'=own (.slice (some ⟨g,0,none⟩) c c) e sz c (raw.take o1++mQ z' k++raw.drop (o1+k*sz))::R:=fun Q a w next ha hw hn=>by
 have hw':=hw.perm p.perm;have hown:w.ownsRow 0 e sz (.slice (some ⟨g,0,none⟩) c c) c raw:=hw'.head;obtain⟨cur,hg,h2,h3,h4,h5⟩:=qO hown;have hcl:cur.toList.length=c*sz:=by simpa using h4
 have hcr:cur.toList=raw:=by rw[←h5,dc (by omega)]
 obtain⟨it,dt,e1,_,_,e2,_,e4⟩:=hs.info;have hst:=run_storeCells_at P g o1 e (mQ z' k) 0 cur w hg (by rw[hzl];simpa [h4] using hfit) hz1;simp only[dm] at hst;obtain⟨k',rfl⟩: ∃ k',k=k'+1:=⟨k-1,by omega⟩;have hr:(Builtin.clear_ #[T] o.type #[.slice (some ⟨g,o1,none⟩) (k'+1) c1]).run P w= .ok (.tuple #[]) (w.setRow g (raw.take o1++mQ z' (k'+1)++raw.drop (o1+(k'+1)*sz)).toArray):=by
  rw[hcr,hzl] at hst;have hze:(Builtin.zeroCells z'.cells (k'+1)).toList=mQ z' (k'+1):=by
   have e:=IB hs.hz (k'+1);have e9:Builtin.zeroCells z'.cells (k'+1)=(mQ z' (k'+1)).toArray:=by rw[←e];unfold Builtin.zeroCells;rw[hs.hz]
   rw[e9]
  simp [Builtin.clear_,run_underlying ht.h,zeroValue,typeInfo,e1,e4,hze,hst]
 unfold Oper.wp;simp only[execOp,ho,resolve,invoke,builtin,dn,eh,eo,ha.eval hx,Sem.run_bind,Sem.run_pure,Result.andThen_ok,hr,Oper.upon];refine hn _ _ _ ⟨rfl,rfl⟩ (xN hw' hg ?_);have hrl:raw.length=c*sz:=hown.1;simp only[ag,b9,eu,hzl];omega
theorem DE {tn e by' sz g i c k:Nat} {agg:Bool} {raw:List Value} {kq kn:IntKind} {j:Int} [ht:nH P T e] [hs:Ty P e agg sz by' z'] [hi:JN P tn kn] (ho:o.op= .call { callee:= .builtin .append,args:= #[x,y],argTypes:= #[T,tn] }) (hx:ev F x=some (.slice (some ⟨g,0,none⟩) i c)) (hy:ev F y=some (.int kq j)) (hj:j=(k:Int)) (p:bF (own (.slice (some ⟨g,0,none⟩) c c) e sz c raw) H R) (hic:i≤c) (h0:0<k) (hsz:Nat.blt 0 sz=true) (hg:c<i+k) (h63:i+k≤9223372036854775807) (hb:(i+k)*by'≤140737488355328) (hzl:(mQ z' k).length=k*sz):
  cJ P n o F H fun r H'=> ∃ g' c',r= .slice (some ⟨g',0,none⟩) (i+k) c'∧H'=own (.slice (some ⟨g',0,none⟩) (i+k) c') e sz (i+k) (raw.take (i*sz)++mQ z' k)::H:=fun Q a w next ha hw hn=>by
 subst hj;have hw':=hw.perm p.perm;have hown:w.ownsRow 0 e sz (.slice (some ⟨g,0,none⟩) c c) c raw:=hw'.head;have hrl:raw.length=c*sz:=hown.1;obtain⟨it,dt,e1,e0,_,e2,e3,e4⟩:=hs.info;have hmc:i*sz≤c*sz:=bz _ hic;have hls: ∀ j u,(raw.take (i*sz))[j]? =some u→w.drew.cell? ((⟨g,0,none⟩:Addr).add j)=some u:=by
  intro j u hj;have hjl:=(ah.1 hj).1;rw[b9] at hjl;rw[ji (by omega)] at hj;exact hown.cells (g:=g) rfl _ _ hj
 have hold:=run_firstCells_some (P:=P) w.drew it.size i ⟨g,0,none⟩ i c (raw.take (i*sz)) (by rw[e2,b9];omega) hls;have hr:=Lib.run_append_grow_zeros (P:=P) w T tn o.type e it z' kq kn ht.h hi.h e1 e4 (some ⟨g,0,none⟩) i c (raw.take (i*sz)) hold k h0 (by rw[e2];simpa using hsz) hg (by omega) (by rw[e3];have:=bz by' (show k≤i+k by omega);omega) (by rw[e3];exact growslice_fits hg hb);have e9:Builtin.zeroCells z'.cells k=(mQ z' k).toArray:=by
  rw[←IB hs.hz k];unfold Builtin.zeroCells;rw[hs.hz]
 have hge:=grownCap_ge w (i+k) c e;have hcm:grownCap w (i+k) c e≤maxLen:=grownCap_le_maxLen w (i+k) c e Zh;generalize grownCap w (i+k) c e=gc at*;have hz2:(Builtin.zeroCells z'.cells (gc-(i+k))).size=(gc-(i+k))*sz:=by rw[size_zeroCells,hs.hz]
 generalize Builtin.zeroCells z'.cells (gc-(i+k))=zz at*;rw[e9] at hr;unfold Oper.wp;simp only[execOp,ho,resolve,invoke,builtin,dn,eh,eo,ha.eval hx,ha.eval hy,Sem.run_bind,Sem.run_pure,Result.andThen_ok,hr,Oper.upon];refine hn _ _ _ ⟨w.heap.size,gc,rfl,rfl⟩ (aD.new hw.drew (fD w.drew _) ?_ fun b hb=> ?_)
 ·have hl1:(raw.take (i*sz)).length=i*sz:=by rw[b9];omega
  refine⟨by rw[ag,hl1,hzl,an], .inr ⟨w.heap.size,gc,_,rfl,fg _,heap_alloc_new w.drew _,hge,hcm, ?_, ?_⟩⟩
  ·simp only[Array.size_append,List.size_toArray,hl1,hzl,hz2, ←an];congr 1;omega
  ·simp only[Array.toList_append,ep];rw[←ep];refine List.take_left' ?_;rw[ag,hl1,hzl,an]
 ·have:w.heap.size=b:=Option.some.inj hb;show w.heap.size≤b;omega
theorem adV {f:FuncId} {args:List Operand} {ts:Array TypeId} {vs:List Value} {u:Value} (ho:o.op= .call { callee:= .value (.func f),args:=args.toArray,argTypes:=ts }) (hv:UD F args=some vs) (hrun: ∀ w,aD H w→(callFunc f vs.toArray).run P w= .ok (.value u) w):cJ P n o F H fun v H'=>v=u∧H'=H:=fun Q a w next ha hw hn=>by
 have he:=mR ha hv;have e1:args.toArray.map a.eval=vs.toArray:=by simpa using he
 unfold Oper.wp;simp only[execOp,ho,resolve,Deferred.ofValue,Act.eval,invoke,e1,Sem.run_bind,Sem.run_pure,Result.andThen_ok];simp only[Array.append_empty,List.append_toArray,List.nil_append,hrun w hw,Oper.upon];exact hn _ _ _ ⟨rfl,rfl⟩ hw
end
end Go.Proofs.YtbjalbcdbgcgdaaGreat.sl
namespace Go.Proofs.YtbjalbcdbgcgdaaGreat.sl
open Go.RowKit bG
section
variable {P:Program} {Q:eP} {n:Nat} {F:dF} {H R:List Ent} {o:Oper} {x y z zz:Operand} {v u z':Value} {T S:TypeId}
theorem fL {e sz by' m c i:Nat} {agg:Bool} {q:Option Addr} {k:IntKind} {j:Int} [ht:nH P T e] [hs:Ty P e agg sz by' z'] (ho:o.op= .slice T x (some y) none none) (hx:ev F x=some (.slice q m c)) (hy:ev F y=some (.int k j)) (hj:j=(i:Int)) (hi:i≤m):Qt P n o F H (sliced q i m c sz):=fun a w ha hw=>by
 subst hj;have he:P.elem T=e:=by simp [Program.elem,ht.h]
 have hu:P.underlying T=some (.slice (P.elem T)):=by rw[he];exact ht.h
 have h1:=run_slice_l (P:=P) w T q m c hu k (i:Int) (by omega) (by omega);rw[he,cV hs] at h1;simp only[Result.andThen_ok,fq] at h1;simp only[execOp,ho,fv,fw,ha.eval hx,ha.eval hy,Sem.run_bind,Sem.run_pure,run_sliceAt_slice w T _ _ _ _ hu,h1,Result.andThen_ok]
theorem KT {e sz by' m c i h:Nat} {agg:Bool} {q:Option Addr} {k k':IntKind} {j j':Int} [ht:nH P T e] [hs:Ty P e agg sz by' z'] (ho:o.op= .slice T x (some y) (some z) none) (hx:ev F x=some (.slice q m c)) (hy:ev F y=some (.int k j)) (hz:ev F z=some (.int k' j')) (hj:j=(i:Int)) (hj':j'=(h:Int)) (hi:i≤h) (hh:h≤c):Qt P n o F H (sliced q i h c sz):=fun a w ha hw=>by
 subst hj;subst hj';have he:P.elem T=e:=by simp [Program.elem,ht.h]
 have hu:P.underlying T=some (.slice (P.elem T)):=by rw[he];exact ht.h
 have h1:=run_slice_lh (P:=P) w T q m c hu k k' (i:Int) (h:Int) (by omega) (by omega) (by omega);rw[he,cV hs] at h1;simp only[Result.andThen_ok,fq] at h1;simp only[execOp,ho,fv,fw,ha.eval hx,ha.eval hy,ha.eval hz,Sem.run_bind,Sem.run_pure,run_sliceAt_slice w T _ _ _ _ hu,h1,Result.andThen_ok]
theorem asN {e sz by' m c i h mx:Nat} {agg:Bool} {q:Option Addr} {k k' k2:IntKind} {j j' j2:Int} [ht:nH P T e] [hs:Ty P e agg sz by' z'] (ho:o.op= .slice T x (some y) (some z) (some zz)) (hx:ev F x=some (.slice q m c)) (hy:ev F y=some (.int k j)) (hz:ev F z=some (.int k' j')) (hzz:ev F zz=some (.int k2 j2)) (hj:j=(i:Int)) (hj':j'=(h:Int)) (hj2:j2=(mx:Int)) (hi:i≤h) (hh:h≤mx) (hm:mx≤c):Qt P n o F H (sliced q i h mx sz):=fun a w ha hw=>by
 subst hj;subst hj';subst hj2;have he:P.elem T=e:=by simp [Program.elem,ht.h]
 have hu:P.underlying T=some (.slice (P.elem T)):=by rw[he];exact ht.h
 have h1:=run_slice_lhm (P:=P) w T q m c hu k k' k2 (i:Int) (h:Int) (mx:Int) (by omega) (by omega) (by omega) (by omega);rw[he,cV hs] at h1;simp only[Result.andThen_ok,fq] at h1;simp only[execOp,ho,fv,ha.eval hx,ha.eval hy,ha.eval hz,ha.eval hzz,Sem.run_bind,Sem.run_pure,run_sliceAt_slice w T _ _ _ _ hu,h1,Result.andThen_ok]
theorem fF {g i h c sz:Nat} (hc:i<c):sliced (some ⟨g,0,none⟩) i h c sz= .slice (some ⟨g,i*sz,none⟩) (h-i) (c-i):=by
 unfold sliced;rw[if_neg (by omega)];show Value.slice (some ((⟨g,0,none⟩:Addr).add (i*sz))) _ _=_;rw[rX,di]
theorem adW {g h c sz:Nat}:sliced (some ⟨g,0,none⟩) c h c sz= .slice (some ⟨g,0,none⟩) (h-c) 0:=by
 unfold sliced;rw[if_pos rfl,jl]
theorem rY {T' e by' sz g o1 d1 c1 g2 o2 d2 c2 c' c k:Nat} {agg:Bool} {raw raw2:List Value} {S:List Ent} [ht:nH P T e] [hs:Ty P e agg sz by' z'] (ho:o.op= .call { callee:= .builtin .copy,args:= #[x,y],argTypes:= #[T,T'] }) (hx:ev F x=some (.slice (some ⟨g,o1,none⟩) d1 c1)) (hy:ev F y=some (.slice (some ⟨g2,o2,none⟩) d2 c2))
  (p:bF (own (.slice (some ⟨g,0,none⟩) c c) e sz c raw) H R) (q:bF (own (.slice (some ⟨g2,0,none⟩) c' c') e sz c' raw2) R S) (hk:jk d2 d1=k) (hfit:o1+k*sz≤c*sz) (hfit2:o2+k*sz≤raw2.length) (h1: ∀ v∈(raw2.drop o2).take (k*sz),v.oneCell'=true):
  cJ P n o F H fun r H'=>r= .int .i64 (k:Int)∧H'=own (.slice (some ⟨g,0,none⟩) c c) e sz c (raw.take o1++(raw2.drop o2).take (k*sz)++raw.drop (o1+k*sz))::R:=
 zS ho hx hy p hk (by rw [b9, eu]; omega) hfit (fun w hw j v hj => by
  have hown : w.ownsRow 0 e sz (.slice (some ⟨g2, 0, none⟩) c' c') c' raw2 := hw.tail.1 _ q.mem;have hjl := (ah.1 hj).1;rw [b9] at hjl;rw [ji (by omega), bq] at hj;have := hown.cells (g := g2) rfl _ _ hj;rw [rX] at this ⊢;rwa [di] at this) h1
theorem US {tS tR e sz g g2 o1 o2 d1 c1 d2 c2 c c':Nat} {agg:Bool} {by':Nat} {raw raw2:List Value} [ht:nH P tS e] [hs:Ty P e agg sz by' z'] {w:World} (p:bF (own (.slice (some ⟨g,0,none⟩) c c) e sz c raw) H R) {S2:List Ent} (q:bF (own (.slice (some ⟨g2,0,none⟩) c' c') e sz c' raw2) R S2) (hw:aD H w) (hc:c'*sz≠0):(Extern.SlicesOverlaps.overlaps #[tS,tS] #[tR] #[.slice (some ⟨g,o1,none⟩) d1 c1, .slice (some ⟨g2,o2,none⟩) d2 c2]).run P w= .ok (.bool false) w:=by
 have hw':=hw.perm p.perm;have h1:w.ownsRow 0 e sz (.slice (some ⟨g,0,none⟩) c c) c raw:=hw'.head;have h2:w.ownsRow 0 e sz (.slice (some ⟨g2,0,none⟩) c' c') c' raw2:=hw'.tail.1 _ q.mem;obtain⟨cur,hg,_,_,hs1,_⟩:=qO h1;obtain⟨cur2,hg2,_,_,hs2,_⟩:=qO h2;have hne:g≠g2:=fun e=>by
  subst e;exact (au.1 hw'.2).1 _ q.mem (.inl rfl) g (show some g=some g from rfl) (show some g=some g from rfl)
 refine Lib.run_overlaps_apart w tS tR e ht.h sz (fun w=>cV hs w) ⟨g,o1,none⟩ ⟨g2,o2,none⟩ d1 c1 d2 c2 hne e e cur.size cur2.size ?_ ?_ (by rw[hs2];exact hc) ?_ ?_
 ·simp [World.shape?,hg]
 ·simp [World.shape?,hg2]
 ·simp [World.frozen?,hg]
 ·simp [World.frozen?,hg]
end
end Go.Proofs.YtbjalbcdbgcgdaaGreat.sl
namespace Go.Proofs.YtbjalbcdbgcgdaaGreat.sl
open Go.RowKit bG
def DF (q:Option Addr) (i c sz:Nat):Option Addr:=if c=i then q else q.map (·.add (i*sz))
end Go.Proofs.YtbjalbcdbgcgdaaGreat.sl
namespace Go.Proofs.YtbjalbcdbgcgdaaGreat.sl
open Go.RowKit bG
theorem vK {e c:Ent} {H R:List Ent} (p:bF e H R) (hv:View [e] c):HSub H (c::R):=fun w hw=>by
 have h:=hw.perm p.perm;refine h.acZ (fun hx=>by rw[hv.shared] at hx;cases hx) (hv.holds w (h.sub (by simp))) fun b hb=> ?_
 obtain⟨e',he,hf⟩:=hv.jE b hb;rw[List.mem_singleton.1 he] at hf;exact hf
theorem bI {α:Type} {f:α→List Value} {ys:List α} {v:Value} {e sz m:Nat} {H R:List Ent} (p:bF (own v e sz m (flat f ys)) H R) (hf: ∀ y,(f y).length=sz) (hm:m=ys.length):HSub H (sl sz v (ys.map f)::R):=
 vK p (View.own bF.here hf hm)
theorem asO {sz:Nat} {a b:alR} {H R S:List Ent} (p:bF (many sz a) H R) (q:bF (many sz b) R S):HSub H (many sz (a++b)::S):=fun w hw=>by
 have h:=hw.perm (p.perm.trans (q.perm.cons _));have h1:=au.1 h.2;have h2:=au.1 h1.2;refine⟨fun e he=> ?_,au.2 ⟨fun f hf hx k hk hk2=> ?_,h2.2⟩⟩
 ·rcases List.mem_cons.1 he with rfl|he
  ·intro x hx;rcases ft.1 hx with hx|hx
   ·exact h.1 (many sz a) bc x hx
   ·exact h.1 (many sz b) (ax _ bc) x hx
  ·exact h.1 e (ax _ (ax _ he))
 ·rcases hx with hx|hx
  ·cases hx
  ·obtain⟨x,hx1,hx2⟩:=hk;rcases ft.1 hx1 with hx1|hx1
   ·exact h1.1 f (ax _ hf) (.inr hx) k ⟨x,hx1,hx2⟩ hk2
   ·exact h2.1 f hf (.inr hx) k ⟨x,hx1,hx2⟩ hk2
theorem UT {w:World} {sz N c i:Nat} {q:Option Addr} {α:Type} {f:α→List Value} {xs:List α} (h:bM w sz (.slice q N c) (xs.map f)) (hN:xs.length=N) (hi:i≤N):bM w sz (.slice (DF q i c sz) (N-i) (c-i)) ((xs.drop i).map f):=by
 rcases h with⟨h0,h1⟩|⟨b,off,cap,hv,h2,h3,h4,h5,h6⟩
 ·have hx:xs=[]:=by simpa using h0
  subst hx;have hN0:N=0:=hN.symm;subst hN0;have hi0:i=0:=by omega
  subst hi0;refine .inl ⟨rfl, ?_⟩;rcases h1 with h1|⟨ad,cap,h1⟩
  ·cases h1;exact .inl (by simp [DF])
  ·cases h1;unfold DF;split
   ·exact .inr ⟨_,_,rfl⟩
   ·exact .inr ⟨_,_,rfl⟩
 ·cases hv;simp only[jj] at h2 h4;by_cases he:i=xs.length
  ·have hd:(xs.drop i).map f=[]:=by rw[List.drop_of_length_le (by omega)];rfl
   rw[hd];refine .inl ⟨rfl, .inr ?_⟩;rw[jj,he,jl];unfold DF;split
   ·exact⟨_,_,rfl⟩
   ·exact⟨_,_,rfl⟩
  ·rw[jj] at hi ⊢;have hq:DF (some ⟨b,off,none⟩) i c sz=some ⟨b,off+i*sz,none⟩:=by
    unfold DF;rw[if_neg (by omega)];show some (Addr.add _ _)=_;rw[addr_add]
   have hl:((xs.drop i).map f).length=xs.length-i:=by simp
   rw[hq];refine .inr ⟨b,off+i*sz,c-i,by rw[hl],by omega,by omega,by omega,h5,fun j r hr=> ?_⟩;rw[List.map_drop,bq] at hr;obtain⟨g1,g2⟩:=h6 (i+j) r hr;refine⟨g1,fun u x hu=> ?_⟩;have:=g2 u x hu;rwa [show off+(i+j)*sz=off+i*sz+j*sz by rw[an];omega] at this
theorem zT {H R:List Ent} {sz N c i:Nat} {q:Option Addr} {α:Type} {f:α→List Value} {xs:List α} (p:bF (sl sz (.slice q N c) (xs.map f)) H R) (hN:xs.length=N) (hi:i≤N):HSub H (sl sz (.slice (DF q i c sz) (N-i) (c-i)) ((xs.drop i).map f)::R):=
 vK p ⟨rfl, fun w hw => UT (hw.1 _ bc) hN hi, fun b hb => ⟨_, bc, by
  have h1:=hb.1;have h2:=hb.2;refine⟨fun e=>h1 ?_, ?_⟩
  ·have:xs=[]:=by simpa using e
   rw[this];simp
  ·unfold DF at h2;split at h2
   ·cases q<;>exact h2
   ·cases q with
    |none=>cases h2
    |some a=>
     obtain ⟨b0, off, s⟩ := a;simp only [fv, Value.ownBlock, Addr.add] at h2 ⊢;split at h2 <;> simpa using h2⟩⟩
section
variable {P:Program} {n:Nat} {F:dF} {H R:List Ent} {o:Oper} {x y:Operand} {z':Value}
theorem qQ {t e sz by' N c i:Nat} {agg:Bool} {q:Option Addr} {k:IntKind} {j:Int} [ht:nH P t e] [hs:Ty P e agg sz by' z'] (ho:o.op= .slice t x (some y) none none) (hx:ev F x=some (.slice q N c)) (hy:ev F y=some (.int k j)) (hj:j=(i:Int)) (hi:i≤N):Qt P n o F H (.slice (DF q i c sz) (N-i) (c-i)):=fun a w ha hw=>by
 subst hj;have he:P.elem t=e:=by simp [Program.elem,ht.h]
 have hu:P.underlying t=some (.slice (P.elem t)):=by rw[he];exact ht.h
 have h1:=run_slice_l (P:=P) (w:=w) (t:=t) (a:=q) (len:=N) (cap:=c) hu k (i:Int) (by omega) (by omega);rw[he,cV hs,fq] at h1;simp only[Result.andThen_ok] at h1;simp only[execOp,ho,fv,fw,ha.eval hx,ha.eval hy,Sem.run_bind,Sem.run_pure,run_sliceAt_slice w t _ _ _ _ hu,h1,Result.andThen_ok];rfl
end
end Go.Proofs.YtbjalbcdbgcgdaaGreat.sl
namespace Go.Proofs.YtbjalbcdbgcgdaaGreat.sl
end Go.Proofs.YtbjalbcdbgcgdaaGreat.sl
