/- Law HandStale: its texts, packed. -/
import Derived.Test.YtbjalbcdbgcgdaaGreatK05
import Derived.Lib.BufferWrite
open List renaming length_append->ag,length_drop->eu,length_take->b9,map_cons->eh,map_nil->eo,map_toArray->dn
open Nat renaming blt->bh,mul_one->ao
open Array renaming length_toList->gq
set_option linter.unusedVariables false
set_option maxRecDepth 100000
set_option maxHeartbeats 8000000
namespace Go.Proofs.YtbjalbcdbgcgdaaGreat.sl
open Go.RowKit bG
section
variable {P:Program} {n:Nat} {F:dF} {H R:List Ent} {o:Oper} {x y z:Operand} {v u z':Value} {T S:TypeId}
theorem adJ {b i sz by':Nat} {cs vs:List Value} {t:TypeId} [ht:Ty P T true sz by' z'] (ho:o.op= .load T x) (hx:ev F x=some (aH b i)) (p:bF (box b cs t) H R) (hvs:(cs.drop i).take sz=vs) (hl:vs.length=sz):Qt P n o F H (.agg vs.toArray):=rQ ho hx p hvs hl (qH vs)
end
section
variable {P:Program} {ops:Array Oper} {Q:eP} {n:Nat} {Hq:List Ent} {nk:List Nat} {r i m:Nat} {L:Array Bool} {F:dF} {H:List Ent} {rest:List Oper} {d:Nat} {op:Op} {ty:TypeId} {ps:String} {af:Array Edge} {j t:Nat} {b:Bool}
theorem xF {o:Oper} {a:Act} (ha:Ok F n a) (hg:o.guard=some (j,b)) (hs:nG ops j=some t) (hv:look F t=some undef):Region.wanted o (yielded ops a.tmps)=false:=by
 have h1:ops[j]?.bind (·.dst)=some t:=hs;have h2:yielded ops a.tmps j=none:=by
  unfold yielded;rw[h1];simp [ha.slot t _ hv,undef]
 simp [Region.wanted,hg,h2]
theorem QM (hs:nG ops j=some t) (hv:look F t=some undef) (hd:bh d n=true) (k:cG P ops Q n rest ((d,undef)::F) H):cG P ops Q n (⟨some d,op,ty,ps,af,some (j,b)⟩::rest) F H:=
 fun a w ha hw=>wpList_step fun K' hK=>by
  have h9:=xF (o:=⟨some d,op,ty,ps,af,some (j,b)⟩) ha rfl hs hv;rw[if_neg (by rw[h9];decide)];exact hK _ _ (k _ _ (ha.put (d:=some d) hd) hw)
theorem QN (hs:nG ops j=some t) (hv:look F t=some undef) (k:cG P ops Q n rest F H):cG P ops Q n (⟨none,op,ty,ps,af,some (j,b)⟩::rest) F H:=
 fun a w ha hw=>wpList_step fun K' hK=>by
  have h9:=xF (o:=⟨none,op,ty,ps,af,some (j,b)⟩) ha rfl hs hv;rw[if_neg (by rw[h9];decide)];exact hK _ _ (k _ _ (ha.put (d:=none) rfl) hw)
theorem akW (hi:ops[i]? =some ⟨some d,op,ty,ps,af,some (j,b)⟩) (hsl:nG ops j=some t) (hv:look F t=some undef) (hb:eV ops nk L i=true) (hs:HSub H Hq) (hd:bh d n=true) (h:cQ P ops Q n Hq nk r (i+1) m (L.setIfInBounds i true) ((d,undef)::F) H):cQ P ops Q n Hq nk r i (m+1) L F H:=
 rR hi hb hs hd (fun a ha=> .inr ⟨xF ha rfl hsl hv,rfl⟩) h
end
theorem qs2 {P:Program} {n:Nat} {o:Oper} {F:dF} {H:List Ent} {v:Value} (h:Qt P n o F H v:=by exact adJ rfl rfl (by exact aN) (by dsimp only[List.drop,List.take]) (by rfl)):Qt P n o F H v:=h
end Go.Proofs.YtbjalbcdbgcgdaaGreat.sl
namespace Go.Proofs.YtbjalbcdbgcgdaaGreat.sl
open Go.RowKit bG
section
variable {P:Program} {n:Nat} {F:dF} {H R:List Ent} {o:Oper} {x y z:Operand} {v u z':Value} {T S:TypeId}
theorem aCP {t:Nat} {k:IntKind} {i j:Int} (ho:o.op= .call { callee:= .builtin .max,args:= #[x,y],argTypes:= #[t,t] }) (hx:ev F x=some (.int k i)) (hy:ev F y=some (.int k j)):Qt P n o F H (.int k (max i j)):=fun a w ha hw=>by
 simp [execOp,ho,resolve,invoke,builtin,ha.eval hx,ha.eval hy,Builtin.max_,Builtin.max2,HU]
def aHP (v:Value) (k:Nat):Value:=
 match v with
 | .slice (some a) m c=> .slice (some (a.add k)) (m-k) (c-k)
 |u=>u
theorem arJ {t e by' m c j:Nat} {k:IntKind} {i:Int} {agg:Bool} {ad:Addr} [ht:nH P t e] [hs:Ty P e agg 1 by' z'] (ho:o.op= .slice t x (some y) none none) (hx:ev F x=some (.slice (some ad) m c)) (hy:ev F y=some (.int k i)) (hi:i=(j:Int)) (hj:j<m) (hc:m≤c):Qt P n o F H (.slice (some (ad.add j)) (m-j) (c-j)):=fun a w ha hw=>by
 subst hi;have he:P.elem t=e:=by simp [Program.elem,ht.h]
 have hu:P.underlying t=some (.slice (P.elem t)):=by rw[he];exact ht.h
 have h1:=run_slice_l (P:=P) w t (some ad) m c hu k (j:Int) (by omega) (by omega);rw[he,cV hs] at h1;have hv:sliced (some ad) ((j:Int)).toNat m c 1= .slice (some (ad.add j)) (m-j) (c-j):=by
  unfold sliced;rw[Int.toNat_natCast,if_neg (by omega),ao];rfl
 simp only[Result.andThen_ok,hv] at h1;simp only[execOp,ho,Option.map_some,Option.map_none,ha.eval hx,ha.eval hy,Sem.run_bind,Sem.run_pure,run_sliceAt_slice w t _ _ _ _ hu,h1,Result.andThen_ok]
theorem QO {c:Code} {Q:eP} {q:Option Addr} {e m cp:Nat} {xs:List Value} (p:bF (own (.slice q m cp) e 1 m xs) H R) (hm:0<m) (k: ∀ g,q=some ⟨g,0,none⟩→m≤cp→dC P Q n c F H):dC P Q n c F H:=fun a w ha hw=>by
 have hb:w.ownsRow 0 e 1 (.slice q m cp) m xs:=(hw.perm p.perm).head;rcases hb.2 with⟨h,h0⟩|⟨g,cap,cur,h,_,_,h2,_⟩
 ·omega
 ·cases h;exact k g rfl h2 a w ha hw
theorem XZ {α:Type} {A B:List α} {k m:Nat} (h:k+B.length≤m) (hm:m≤A.length):(A.take k++B++A.drop (k+B.length)).take m=(A.take m).take k++B++(A.take m).drop (k+B.length):=by
 apply List.ext_getElem?;intro i;simp only[List.getElem?_take,List.getElem?_append,ag,b9,List.getElem?_drop]
 repeat' split
 all_goals first|rfl|omega|(congr 1;omega)|skip
theorem zF (l:List UInt8):flat fY l=Lib.byteCells l:=by
 induction l with
 |nil=>rfl
 |cons b l ih=>
  show fY b++flat fY l=_;rw[ih];rfl
theorem FC {e by' m k:Nat} {agg:Bool} {l xs:List UInt8} {u:Value} {tt:TypeId} (hu:u=aHP v k∨(u=v∧k=0)) [ht:nH P T e] [hs:Ty P e agg 1 by' z'] (ho:o.op= .call { callee:= .builtin .copy,args:= #[x,y],argTypes:= #[T,tt] }) (hx:ev F x=some u) (hy:ev F y=some (.string (str l))) (p:bF (own v e 1 m (flat fY xs)) H R) (hm:k+l.length≤m) (hk:l.length=0∨k<m):
  cJ P n o F H fun r H'=>r= .int .i64 (l.length:Int)∧H'=own v e 1 m (flat fY (xs.take k++l++xs.drop (k+l.length)))::R:=fun Q a w next ha hw hn=>by
 have hw':=hw.perm p.perm;have hb:w.ownsRow 0 e 1 v m (flat fY xs):=hw'.head;obtain⟨it,dt,e1,_,_,e2,_,_⟩:=hs.info;have hsz:(P.info? e).map (·.size)=some 1:=by rw[e1];simp [e2]
 have hsz2:((P.info? e).map (·.size)).isSome=true:=by rw[hsz];rfl
 have hls:(str l).size=l.length:=bP l;rcases hb.2 with⟨hv,h0⟩|⟨g,cap,cur,hv,hb0,hg,h2,h3,h4,h5⟩
 ·have hl0:l=[]:=List.eq_nil_of_length_eq_zero (by omega);have hk0:k=0:=by omega
  have hu2:u= .slice none 0 0:=by
   rcases hu with h|⟨h,_⟩
   ·rw[h,hv];rfl
   ·rw[h,hv]
  have hr:=Lib.run_copy_empty_string (P:=P) w T tt o.type e none 0 0 (str l) ht.h hsz2 (by rw[hls,hl0];rfl);unfold Oper.wp;simp only[execOp,ho,resolve,invoke,builtin,dn,eh,eo,ha.eval hx,ha.eval hy,hu2,Sem.run_bind,Sem.run_pure,Result.andThen_ok,hr,Oper.upon];refine hn _ _ _ ⟨by rw[hl0];rfl,rfl⟩ ?_;rw[hl0,hk0];simpa using hw'
 ·have hu2:u= .slice (some ⟨g,k,none⟩) (m-k) (cap-k):=by
   rcases hu with h|⟨h,h9⟩
   ·rw[h,hv];show Value.slice (some ((⟨g,0,none⟩:Addr).add k)) (m-k) (cap-k)=_;rw[show (⟨g,0,none⟩:Addr).add k=⟨g,k,none⟩ from by unfold Addr.add;split<;>simp_all]
   ·rw[h,hv,h9];rfl
  have hcl:cur.toList.length=cap:=by simpa using h4
  have hr:=Lib.run_copy_row_string (P:=P) w T tt o.type e g k (m-k) (cap-k) (str l) cur e ht.h hsz hg (by rw[hls];omega) (by rw[hls];simp only[gq] at hcl;omega);rw[hls] at hr;unfold Oper.wp;simp only[execOp,ho,resolve,invoke,builtin,dn,eh,eo,ha.eval hx,ha.eval hy,hu2,Sem.run_bind,Sem.run_pure,Result.andThen_ok,hr,Oper.upon];have hbl:(Lib.byteCells l).length=l.length:=Lib.byteCells_length l;have hxl:xs.length=m:=by
   have h9:=hb.1;rw[zF,Lib.byteCells_length] at h9;omega
  have key:flat fY (xs.take k++l++xs.drop (k+l.length))=(flat fY xs).take k++Lib.byteCells l++(flat fY xs).drop (k+l.length):=by
   simp only[zF,Lib.byteCells,List.map_append,List.map_take,List.map_drop]
  refine hn _ _ _ ⟨rfl,rfl⟩ (aD.pA hw' rfl (nO w g _ _ (by rw[hv];rfl)) ⟨?_, .inr ⟨g,cap,_,hv,hb0,setRow_heap w g _ _ e _ hg,h2,h3, ?_, ?_⟩⟩ fun k hk=> .inl hk)
  ·rw[zF,Lib.byteCells_length];simp only[ag,b9,eu];omega
  ·simp only[List.size_toArray,ag,b9,eu,hbl];simp only[gq] at hcl ⊢;omega
  ·rw[key, ←h5,ao];have:=XZ (A:=cur.toList) (B:=Lib.byteCells l) (k:=k) (m:=m) (by rw[hbl];omega) (by omega);rw[hbl] at this;exact this
end
end Go.Proofs.YtbjalbcdbgcgdaaGreat.sl
