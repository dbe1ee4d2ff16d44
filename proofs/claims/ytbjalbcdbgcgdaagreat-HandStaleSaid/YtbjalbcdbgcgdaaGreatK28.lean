/- Law HandStale: its texts, packed. -/
import Derived.Test.YtbjalbcdbgcgdaaGreatK13
import Derived.Laws.RangeAny
import Derived.Laws.Runes
import Derived.Scope
import Derived.Test.YtbjalbcdbgcgdaaGreatK07
import Derived.Test.YtbjalbcdbgcgdaaGreatK06
import Derived.Test.YtbjalbcdbgcgdaaGreatK19
open List renaming cons_append->jg,ext_getElem?->da,getElem?_eq_getElem->aj,getElem?_eq_none->dz,mem_append->ft,mem_append_left->gh,mem_cons->aw,mem_cons_of_mem->ax,mem_cons_self->bc,mem_singleton->fk,nil_append->fe,not_mem_nil->fj,pairwise_cons->au
open Nat renaming add_zero->dm,le_refl->aq,lt_or_ge->iq,not_lt_zero->mj,zero_le->fg
open ByteArray renaming get!->nv,mk->nw
open Array renaming getElem?_eq_some_iff->aa
open Bool renaming and_eq_true->fl
set_option linter.unusedVariables false
set_option maxRecDepth 100000
set_option maxHeartbeats 8000000
namespace Go.Proofs.YtbjalbcdbgcgdaaGreat.sl
open Go.RowKit bG
def iter (b:Nat) (l:List UInt8) (pos:Nat):Ent where
 iD:=true
 jE j:=j=b
 holds w:=w.heap[b]? =some (.stringIter (str l) pos)
 lt h hk:=by
  subst hk;exact (aa.1 h).1
 keep h _ _ _ _ hb:=by rw[hb b rfl];exact h
def iC (l:List UInt8) (pos:Nat):Nat:=(Utf8.decode (str l) pos).1
def nB (l:List UInt8) (pos:Nat):Nat:=(Utf8.decode (str l) pos).2
section
variable {P:Program} {Q:eP} {n:Nat} {F:dF} {H R:List Ent} {o:Oper} {x y z:Operand} {v u z':Value} {T S:TypeId}
theorem SD {l:List UInt8} [ht:yV P T] (ho:o.op= .range T x) (hx:ev F x=some (.string (str l))):cJ P n o F H fun u H'=> ∃ b,u=aH b 0∧H'=iter b l 0::H:=fun Q a w next ha hw hn=>by
 unfold Oper.wp;simp only[execOp,ho,ha.eval hx,run_range_string w T (str l) ht.h,Sem.run_bind,Sem.run_pure,Result.andThen_ok,Oper.upon];refine hn _ _ _ ⟨w.heap.size,rfl,rfl⟩ (aD.new hw (fD w _) ?_ fun j hj=> ?_)
 ·exact World.iter_heap w (str l) 0
 ·have:j=w.heap.size:=hj;omega
theorem MQ {b pos:Nat} {l:List UInt8} (ho:o.op= .next x true) (hx:ev F x=some (aH b 0)) (p:bF (iter b l pos) H R) (h:pos<l.length):cJ P n o F H fun u H'=>u= .tuple #[.bool true, .int .i64 (pos:Int), .int .i32 (iC l pos:Int)]∧H'=iter b l (pos+nB l pos)::R:=fun Q a w next ha hw hn=>by
 have hw':=hw.perm p.perm;have hb:w.heap[b]? =some (.stringIter (str l) pos):=hw'.head;have hs:pos<(str l).size:=by rw[bP];exact h
 have hlt:=(aa.1 hb).1;have hr:(Instr.next (aH b 0) true o.type).run P w= .ok (.tuple #[.bool true, .int .i64 (pos:Int), .int .i32 (iC l pos:Int)]) { w with heap:=w.heap.setIfInBounds b (.stringIter (str l) (pos+nB l pos)) }:=by
  simp only[Instr.next,aH,getObj,setObj,Sem.run_bind,Sem.run,hb,Result.andThen,hs,if_true];simp [goInt,iC,nB]
 unfold Oper.wp;simp only[execOp,ho,ha.eval hx,hr,Sem.run_bind,Sem.run_pure,Result.andThen_ok,Oper.upon];refine hn _ _ _ ⟨rfl,rfl⟩ (aD.pA hw' rfl ⟨rfl,rfl,rfl,by simp,fun j _ hne=> ?_⟩ ?_ fun j hj=> .inl hj)
 ·have hne': ¬ b=j:=fun e=>hne (show j=b from e.symm)
  simp [hne']
 ·show (w.heap.setIfInBounds b _)[b]? =_;simp [hlt]
theorem AS {b pos:Nat} {l:List UInt8} (ho:o.op= .next x true) (hx:ev F x=some (aH b 0)) (p:bF (iter b l pos) H R) (h:l.length≤pos):cJ P n o F H fun u H'=>u= .tuple #[.bool false]∧H'=H:=fun Q a w next ha hw hn=>by
 have hb:w.heap[b]? =some (.stringIter (str l) pos):=hw.1 _ p.mem;have hs: ¬ pos<(str l).size:=by rw[bP];omega
 have hr:(Instr.next (aH b 0) true o.type).run P w= .ok (.tuple #[.bool false]) w:=by
  simp [Instr.next,aH,getObj,Sem.run,hb,hs]
 unfold Oper.wp;simp only[execOp,ho,ha.eval hx,hr,Sem.run_bind,Sem.run_pure,Result.andThen_ok,Oper.upon];exact hn _ _ _ ⟨rfl,rfl⟩ hw
theorem anB {k:IntKind} {i:Int} [hs:Knd P S] [hd:yV P T] (ho:o.op= .convert S T x) (hx:ev F x=some (.int k i)):Qt P n o F H (.string (Utf8.encode i)):=fun a w ha _=>by
 have h1:=run_convert_int_string (P:=P) w S T k i hs.h hd.h;simp only[execOp,ho,ha.eval hx,h1,Sem.run_bind,Result.andThen_ok,Sem.run_pure]
theorem QQ {c:Code} (h:dC P (Exit.noGoto Q) n c F H):dC P Q n (.scope c) F H:=fun a w ha hw=>wp_scope_straight (h a w ha hw)
theorem QP (h:dG Q .normal n F H):dG (Exit.noGoto Q) .normal n F H:=h
theorem wO (h:dG Q .ret n F H):dG (Exit.noGoto Q) .ret n F H:=h
theorem tU {id:Nat} (h:dG Q (.exit id) n F H):dG (Exit.noGoto Q) (.exit id) n F H:=h
theorem QR {l:Nat} (h:dG Q .normal n F H):dC P Q n (.label l) F H:=fun a w ha hw=>wp_label (h a w ha hw)
end
theorem anC (s:ByteArray) (i:Nat) (h:i<s.size):1≤(Utf8.decode s i).2∧i+(Utf8.decode s i).2≤s.size∧((Utf8.decode s i).1<128→(Utf8.decode s i).2=1∧(s.get! (i+0)).toNat=(Utf8.decode s i).1)∧(128≤(Utf8.decode s i).1→ ∀ k,k<(Utf8.decode s i).2→128≤(s.get! (i+k)).toNat)∧((Utf8.decode s i).1<128∨(Utf8.decode s i).1=65533∨Utf8.valid (Utf8.decode s i).1=true):=by
 simp only[Utf8.decode,Utf8.runeError];split
 ·exact⟨aq _,by simp;omega,fun _=>⟨rfl,rfl⟩,fun h=>by dsimp only at h;omega, .inl (by assumption)⟩
 ·have hb0:128≤(s.get! (i+0)).toNat:=by omega
  have one:1≤(65533,1).2∧i+(65533,1).2≤s.size∧((65533,1).1<128→(65533,1).2=1∧(s.get! (i+0)).toNat=(65533,1).1)∧(128≤(65533,1).1→ ∀ k,k<(65533,1).2→128≤(s.get! (i+k)).toNat)∧((65533,1).1<128∨(65533,1).1=65533∨Utf8.valid (((65533,1).1:Nat):Int)=true):=
   ⟨by decide, by simp; omega, fun h => absurd h (by decide), fun _ k hk => by
    have:k=0:=by dsimp only at hk;omega
    subst this;exact hb0, .inr (.inl rfl)⟩
  split
  ·rename_i hc;simp only[fl,beq_iff_eq,decide_eq_true_eq] at hc;split
   ·refine⟨by simp,by simp;omega,fun h=>by dsimp only at h;omega,fun _ k hk=> ?_, .inr (.inr ?_)⟩
    ·dsimp only at hk;rcases iq k 1 with hk1|hk1
     ·have:k=0:=by omega
      subst this;omega
     ·have:k=1:=by omega
      subst this;omega
    ·unfold Utf8.valid;simp;omega
   ·exact one
  ·split
   ·rename_i hc;simp only[fl,beq_iff_eq,decide_eq_true_eq] at hc;split
    ·rename_i hv;simp only[fl,decide_eq_true_eq] at hv;refine⟨by simp,by simp;omega,fun h=>by dsimp only at h;omega,fun _ k hk=> ?_, .inr (.inr ?_)⟩
     ·dsimp only at hk;rcases iq k 1 with hk1|hk1
      ·have:k=0:=by omega
       subst this;omega
      ·rcases iq k 2 with hk2|hk2
       ·have:k=1:=by omega
        subst this;omega
       ·have:k=2:=by omega
        subst this;omega
     ·exact hv.2
    ·exact one
   ·split
    ·rename_i hc;simp only[fl,beq_iff_eq,decide_eq_true_eq] at hc;split
     ·rename_i hv;simp only[fl,decide_eq_true_eq] at hv;refine⟨by simp,by simp;omega,fun h=>by dsimp only at h;omega,fun _ k hk=> ?_, .inr (.inr ?_)⟩
      ·dsimp only at hk;rcases iq k 1 with hk1|hk1
       ·have:k=0:=by omega
        subst this;omega
       ·rcases iq k 2 with hk2|hk2
        ·have:k=1:=by omega
         subst this;omega
        ·rcases iq k 3 with hk3|hk3
         ·have:k=2:=by omega
          subst this;omega
         ·have:k=3:=by omega
          subst this;omega
      ·exact hv.2
     ·exact one
    ·exact one
theorem str_get! (l:List UInt8) (i:Nat):(str l).get! i=l.getD i 0:=by
 show (nw l.toArray).get! i=_;unfold nv;simp [List.getD_eq_getElem?_getD];rfl
theorem aeZ {l:List UInt8} {i:Nat} (h:i<l.length):1≤nB l i∧i+nB l i≤l.length∧(iC l i<128→nB l i=1∧(l.getD i 0).toNat=iC l i)∧(128≤iC l i→ ∀ k,k<nB l i→128≤(l.getD (i+k) 0).toNat)∧(iC l i<128∨iC l i=65533∨Utf8.valid (iC l i)=true):=by
 have hd:=anC (str l) i (by rw[bP];exact h);rw[bP] at hd;simp only[str_get!,dm] at hd;exact hd
theorem aAL (l:List UInt8) (i:Nat):iC l i≤2147483647:=decode_le (str l) i
end Go.Proofs.YtbjalbcdbgcgdaaGreat.sl
namespace Go.Proofs.YtbjalbcdbgcgdaaGreat.lz
open Go.RowKit bG sl Go.WideMaps
set_option pp.maxSteps 20000
def dX (n:Nat) (B:Nat→Nat):List Int:=(List.range n).map fun i=>(B i:Int)
def fJ (B:Nat→Nat) (i v:Nat):Nat→Nat:=fun j=>if j=i then v else B j
theorem eJ (n:Nat) (B:Nat→Nat):(dX n B).length=n:=by simp [dX]
theorem dI {n i:Nat} (B:Nat→Nat) (h:i<n):(dX n B)[i]? =some ((B i:Nat):Int):=by
 unfold dX;rw[List.getElem?_map,List.getElem?_range h];rfl
theorem fK {n i:Nat} (B:Nat→Nat) (v:Nat) (h:i<n):(dX n B).set i (v:Int)=dX n (fJ B i v):=by
 apply da;intro j;rw[List.getElem?_set];rcases iq j n with hj|hj
 ·rw[dI _ hj,dI _ hj];unfold fJ;by_cases e:i=j
  ·subst e;rw[if_pos rfl,if_pos (by rw[eJ];exact h),if_pos rfl]
  ·rw[if_neg e,if_neg (fun h=>e h.symm)]
 ·rw[if_neg (by omega),dz (by rw[eJ];exact hj),dz (by rw[eJ];exact hj)]
theorem kT (n:Nat):List.replicate n (0:Int)=dX n (fun _=>0):=by
 apply da;intro j;rcases iq j n with hj|hj
 ·rw[dI _ hj,List.getElem?_replicate,if_pos hj];rfl
 ·rw[dz (by simpa using hj),dz (by rw[eJ];exact hj)]
theorem SF (B:Nat→Nat) (i:Nat):fJ B i (B i)=B:=by
 funext j;unfold fJ;split
 ·rename_i h;rw[h]
 ·rfl
theorem kX (B:Nat→Nat) (i v w:Nat):fJ (fJ B i v) i w=fJ B i w:=by
 funext j;unfold fJ;split<;>rfl
theorem pR (B:Nat→Nat) (i v:Nat):fJ B i v i=v:=by unfold fJ;rw[if_pos rfl]
theorem AU (B:Nat→Nat) {i j:Nat} (v:Nat) (h:j≠i):fJ B i v j=B j:=by unfold fJ;rw[if_neg h]
abbrev AV:=K3×List Int×Option Addr×Nat
def qX (r:AV):Ent:=own (.slice r.2.2.1 r.2.1.length r.2.2.2) 3 1 r.2.1.length (flat fI r.2.1)
def slv (r:AV):Value:= .slice r.2.2.1 r.2.1.length r.2.2.2
def lW:List AV→K3→Value
 |[],_=> .slice none 0 0
 |r::tab,t=>if t=r.1 then slv r else lW tab t
def aAM (tab:List AV):Ent:=kM (tab.map qX)
def tri (s:List UInt8) (k:Nat) (t:K3):Prop:=s[k]? =some t.1∧s[k+1]? =some t.2.1∧s[k+2]? =some t.2.2
theorem VQ {s:List UInt8} {k:Nat} {t u:K3} (h:tri s k t) (g:tri s k u):t=u:=by
 obtain⟨a,b,c⟩:=t;obtain⟨a',b',c'⟩:=u;obtain⟨h1,h2,h3⟩:=h;obtain⟨g1,g2,g3⟩:=g;rw[h1] at g1;rw[h2] at g2;rw[h3] at g3;simp only[Option.some.injEq] at g1 g2 g3;rw[g1,g2,g3]
def FY (s:List UInt8) (i:Nat) (t:K3) (xs:List Int):Prop:=(∀ x∈xs, ∃ k:Nat,x=(k:Int)∧k<i∧tri s k t)∧(∀ k,k<i→tri s k t→(k:Int)∈xs)∧xs.length≤i
def auO (s:List UInt8) (i:Nat) (tab:List AV):Prop:=tab.Pairwise (fun r u=>r.1≠u.1)∧(∀ r∈tab,FY s i r.1 r.2.1)∧ ∀ k t,k<i→tri s k t→ ∃ r∈tab,r.1=t
theorem anD {tab:List AV} {t:K3} (h: ∀ r∈tab,r.1≠t):lW tab t= .slice none 0 0:=by
 induction tab with
 |nil=>rfl
 |cons r tab ih=>rw[lW,if_neg (fun e=>h r bc e.symm),ih fun r hr=>h r (ax _ hr)]
theorem anE {A B:List AV} {r:AV} (h: ∀ u∈A,u.1≠r.1):lW (A++r::B) r.1=slv r:=by
 induction A with
 |nil=>rw[fe,lW,if_pos rfl]
 |cons u A ih=>rw[jg,lW,if_neg (fun e=>h u bc e.symm),ih fun r hr=>h r (ax _ hr)]
theorem afA {A B:List AV} {r:AV} {t:K3} (h:t≠r.1):lW (A++r::B) t=lW (A++B) t:=by
 induction A with
 |nil=>rw[fe,lW,if_neg h,fe]
 |cons u A ih=>rw[jg,jg,lW,lW,ih]
theorem aaR {s:List UInt8} {i:Nat} {t u:K3} {xs:List Int} (hi:tri s i t) (hne:u≠t) (h:FY s i u xs):FY s (i+1) u xs:=by
 obtain⟨h1,h2,h3⟩:=h;refine⟨fun x hx=> ?_,fun k hk hu=> ?_,by omega⟩
 ·obtain⟨k,e1,e2,e3⟩:=h1 x hx;exact⟨k,e1,by omega,e3⟩
 ·rcases iq k i with h|h
  ·exact h2 k h hu
  ·obtain rfl:k=i:=by omega
   exact absurd (VQ hu hi) hne
theorem aAN {s:List UInt8} {i:Nat} {t:K3} {xs:List Int} (hi:tri s i t) (h:FY s i t xs):FY s (i+1) t (xs++[(i:Int)]):=by
 obtain⟨h1,h2,h3⟩:=h;refine⟨fun x hx=> ?_,fun k hk hu=> ?_,by simp;omega⟩
 ·rcases ft.1 hx with hx|hx
  ·obtain⟨k,e1,e2,e3⟩:=h1 x hx;exact⟨k,e1,by omega,e3⟩
  ·rw[fk.1 hx];exact⟨i,rfl,by omega,hi⟩
 ·rcases iq k i with h|h
  ·exact gh _ (h2 k h hu)
  ·obtain rfl:k=i:=by omega
   exact List.mem_append_right _ (fk.2 rfl)
theorem auP {s:List UInt8} {i:Nat} {tab:List AV} {t:K3} (h:auO s i tab) (hi:tri s i t): ∃ (xs:List Int) (q:Option Addr) (c:Nat) (rest:List AV),lW tab t= .slice q xs.length c∧(∀ {H R:List Ent},bF (aAM tab) H R→HSub H (own (.slice q xs.length c) 3 1 xs.length (flat fI xs)::aAM rest::R))∧FY s i t xs∧ ∀ (ys:List Int) (q':Option Addr) (c':Nat),FY s (i+1) t ys→auO s (i+1) ((t,ys,q',c')::rest)∧(fun j=>if j=t then Value.slice q' ys.length c' else lW tab j)=lW ((t,ys,q',c')::rest):=by
 obtain⟨h1,h2,h3⟩:=h;by_cases hex: ∃ r∈tab,r.1=t
 ·obtain⟨r,hr,rfl⟩:=hex;obtain⟨A,B,rfl⟩:=List.append_of_mem hr;have hpm:(A++r::B).Perm (r::(A++B)):=List.perm_middle;have h1':(r::(A++B)).Pairwise (fun r u=>r.1≠u.1):=(hpm.pairwise_iff (fun {a b} (h:a.1≠b.1)=>h.symm)).1 h1;have hp:=au.1 h1';refine⟨r.2.1,r.2.2.1,r.2.2.2,A++B,anE (fun u hu=>(hp.1 u (gh _ hu)).symm),fun {H R} p=>adU p ?_,h2 r hr,fun ys q' c' hys=>⟨⟨?_, ?_, ?_⟩, ?_⟩⟩
  ·have:=hpm.map qX;rw[List.map_cons] at this;exact this
  ·exact au.2 ⟨fun u hu=>hp.1 u hu,hp.2⟩
  ·intro u hu;rcases aw.1 hu with rfl|hu
   ·exact hys
   ·exact aaR hi (fun e=>hp.1 u hu e.symm) (h2 u (hpm.mem_iff.2 (ax _ hu)))
  ·intro k u hk hu;rcases iq k i with hki|hki
   ·obtain⟨v,hv,e⟩:=h3 k u hki hu;rcases aw.1 (hpm.mem_iff.1 hv) with rfl|hv
    ·exact⟨_,bc,e⟩
    ·exact⟨v,ax _ hv,e⟩
   ·obtain rfl:k=i:=by omega
    exact⟨_,bc,VQ hi hu⟩
  ·funext j;rw[lW];dsimp only;split
   ·rfl
   ·rename_i hne;exact afA hne
 ·have hn: ∀ r∈tab,r.1≠t:=fun r hr e=>hex ⟨r,hr,e⟩
  refine⟨[],none,0,tab,anD hn,fun {H R} p=> ?_,⟨fun x hx=>absurd hx fj,fun k hk hu=> ?_,fg _⟩,fun ys q' c' hys=>⟨⟨?_, ?_, ?_⟩, ?_⟩⟩
  ·exact HSub.trans (bO p.perm) (aY _ 3 1)
  ·obtain⟨r,hr,e⟩:=h3 k t hk hu;exact absurd e (hn r hr)
  ·exact au.2 ⟨fun u hu e=>hn u hu e.symm,h1⟩
  ·intro u hu;rcases aw.1 hu with rfl|hu
   ·exact hys
   ·exact aaR hi (hn u hu) (h2 u hu)
  ·intro k u hk hu;rcases iq k i with hki|hki
   ·obtain⟨v,hv,e⟩:=h3 k u hki hu;exact⟨v,ax _ hv,e⟩
   ·obtain rfl:k=i:=by omega
    exact⟨_,bc,VQ hi hu⟩
  ·funext j;rw[lW];rfl
def Part (s:List UInt8) (xs:List Int) (i idx n d:Nat):Prop:=(n=0∨(3≤n∧n≤66∧i+n≤s.length∧1≤d∧d≤i∧mat s (i-d) i n))∧ ∀ k m:Nat,(k:Int)∈xs.take idx→3≤m→m≤66→i+m≤s.length→mat s k i m→m≤n
theorem auQ (s:List UInt8) (xs:List Int) (i:Nat):Part s xs i 0 0 0:=⟨.inl rfl,fun k m h=>by rw[List.take_zero] at h;exact absurd h fj⟩
theorem auR {s:List UInt8} {xs:List Int} {i n d:Nat} {t:K3} (hi:tri s i t) (hx:FY s i t xs) (h:Part s xs i xs.length n d):VB s i n d:=by
 refine⟨h.1,fun k m hk h3 h66 hl hm=> ?_⟩;refine h.2 k m ?_ h3 h66 hl hm;rw[List.take_length];refine hx.2.1 k hk ⟨?_, ?_, ?_⟩
 ·have:=hm 0 (by omega);simp only[dm] at this;rw[this];exact hi.1
 ·rw[hm 1 (by omega)];exact hi.2.1
 ·rw[hm 2 (by omega)];exact hi.2.2
theorem DV {s:List UInt8} {xs:List Int} {i idx n d k n2:Nat} {t:K3} (hi:tri s i t) (hk:xs[idx]? =some (k:Int)) (hki:k<i) (hkt:tri s k t) (h:Part s xs i idx n d) (h3:3≤n2) (h66:n2≤66) (hl:i+n2≤s.length) (hm:mat s k i n2) (hend:n2=66∨i+n2=s.length∨s[k+n2]? ≠s[i+n2]?):(n2<n→Part s xs i (idx+1) n d)∧(n≤n2→Part s xs i (idx+1) n2 (i-k)):=by
 have hmax: ∀ m,3≤m→m≤66→i+m≤s.length→mat s k i m→m≤n2:=fun m _ hm66 hml hmm=>by
  rcases hend with h|h|h
  ·omega
  ·omega
  ·rcases iq n2 m with h9|h9
   ·exact absurd (hmm n2 h9) h
   ·exact h9
 have htk:xs.take (idx+1)=xs.take idx++[(k:Int)]:=by
  rw[List.take_add_one,hk];rfl
 refine⟨fun hlt=>⟨h.1,fun k2 m hk2=> ?_⟩,fun hle=>⟨.inr ⟨h3,h66,hl,by omega,by omega,by rw[show i-(i-k)=k by omega];exact hm⟩,fun k2 m hk2 a1 a2 a3 a4=> ?_⟩⟩
 ·intro a1 a2 a3 a4;rw[htk] at hk2;rcases ft.1 hk2 with hk2|hk2
  ·exact h.2 k2 m hk2 a1 a2 a3 a4
  ·have:k2=k:=by have:=fk.1 hk2;omega
   subst this;have:=hmax m a1 a2 a3 a4;omega
 ·rw[htk] at hk2;rcases ft.1 hk2 with hk2|hk2
  ·have:=h.2 k2 m hk2 a1 a2 a3 a4;omega
  ·have:k2=k:=by have:=fk.1 hk2;omega
   subst this;exact hmax m a1 a2 a3 a4
theorem aAO {s:List UInt8} {k i:Nat} {t:K3} (h:tri s k t) (g:tri s i t):mat s k i 3:=by
 intro j hj;rcases (by omega:j=0∨j=1∨j=2) with rfl|rfl|rfl
 ·show s[k]? =s[i]?;rw[h.1,g.1]
 ·rw[h.2.1,g.2.1]
 ·rw[h.2.2,g.2.2]
theorem auS {s:List UInt8} {k i n:Nat} (h:mat s k i n) (g:s[k+n]? =s[i+n]?):mat s k i (n+1):=by
 intro j hj;rcases (by omega:j<n∨j=n) with h1|rfl
 ·exact h j h1
 ·exact g
def ajE (s:List UInt8) (L D:Nat→Nat) (i:Nat):Prop:= ∀ j,(j<i→VB s j (L j) (D j))∧(i≤j→L j=0∧D j=0)
theorem afB {s:List UInt8} {L D:Nat→Nat} {i n d:Nat} (h:ajE s L D i) (g:VB s i n d):ajE s (fJ L i n) (fJ D i d) (i+1):=by
 intro j;by_cases e:j=i
 ·subst e;rw[pR,pR];exact⟨fun _=>g,fun h=>by omega⟩
 ·rw[AU _ _ e,AU _ _ e];exact⟨fun hj=>(h j).1 (by omega),fun hj=>(h j).2 (by omega)⟩
theorem anF {s:List UInt8} {L D:Nat→Nat} {i:Nat} (h:ajE s L D i) (hi:s.length<i+3):sB s L D:=by
 intro j hj;rcases iq j i with h1|h1
 ·exact (h j).1 h1
 ·obtain⟨e1,e2⟩:=(h j).2 h1;rw[e1,e2];exact⟨.inl rfl,fun k m _ h3 _ hl _=>by omega⟩
theorem aEQ (r:AV):(qX r).iD=true:=rfl
attribute [local irreducible] box own sl gH aH bC Qt cJ cG dC dG eO
instance:alP Tryz.prog 433:=⟨⟨5,⟨by kernel_rfl,by kernel_rfl,by kernel_rfl,by kernel_rfl⟩,by kernel_rfl⟩,⟨Tryz.prog.types.size-1,by kernel_rfl⟩⟩
theorem aaS (s:List UInt8) (hs:s.length≤512):
  Ct Tryz.prog 338 [.string (str s)] [] fun v H'=> ∃ L D q1 q2,sB s L D∧v= .tuple #[.slice q1 s.length s.length, .slice q2 s.length s.length]∧H'=[own (.slice q1 s.length s.length) 3 1 s.length (flat fI (dX s.length L)),own (.slice q2 s.length s.length) 3 1 s.length (flat fI (dX s.length D))]:=by
 obtain⟨N,hN⟩: ∃ N,s.length=N:=⟨_,rfl⟩;rw[hN];rw[hN] at hs;(refine Ye Tryz.func338 Tryz.ntmps338 ?_;intro Fr);refine dN ?_;refine nQ 0 (σ:=Option Addr×Option Addr) (fun _=>True) (fun x=>[(2, .slice x.1 N N),(3, .slice x.2 N N)]) (fun x=>[own (.slice x.1 N N) 3 1 N (flat fI (dX N fun _=>0)),own (.slice x.2 N N) 3 1 N (flat fI (dX N fun _=>0))]) ?_ ?_<;>dsimp only[List.drop]
 ·(refine aB (Hq:=[]) [] [] rfl (by kernel_rfl) Za ?_);refine gX ?_;(refine aA 2 ?_;refine cU 5 (by kernel_rfl) ?_ ?_)
  ·(refine Oc (l:=by exact (cT (fI) (0) (c:=N) rfl rfl rfl Ze Ze rfl rfl (by omega) Zg)) (k:= ?_);rintro _ _ ⟨q1,rfl,rfl⟩;refine Te ?_;(try refine Da ?_));refine gX ?_;(refine aA 5 ?_;refine Oa (l:=by exact (cT (fI) (0) (c:=N) rfl rfl rfl Ze Ze rfl rfl (by omega) Zg)) (k:= ?_);rintro _ _ ⟨q2,rfl,rfl⟩;refine Te ?_;(try refine Da ?_));rw[kT];refine Yw8 ?_;exact pH ((q1,q2)) (by trivial) (jB.of gA) yP
  ·(refine Oc (l:=by exact (cT (fI) (0) (c:=N) rfl rfl rfl Ze Ze rfl rfl (by omega) Zg)) (k:= ?_);rintro _ _ ⟨q2,rfl,rfl⟩;refine Te ?_;(try refine Da ?_));refine gX ?_;(refine aA 2 ?_;refine Oa (l:=by exact (cT (fI) (0) (c:=N) rfl rfl rfl Ze Ze rfl rfl (by omega) Zg)) (k:= ?_);rintro _ _ ⟨q1,rfl,rfl⟩;refine Te ?_;(try refine Da ?_));rw[kT];refine Yw8 ?_;exact pH ((q1,q2)) (by trivial) (jB.of gA) yP
 rintro⟨q1,q2⟩ _;refine Da ?_;refine dN ?_;refine aI wt rfl (UR (k:=433) (z':= .slice none 0 0) (e:=23) rfl) ?_;rintro _ _ ⟨bm,rfl,rfl⟩;rw[show (fun _:K3=>Value.slice none 0 0)=lW [] from rfl];refine dN ?_;refine aT (H':=aAM []::_) (xM _) ?_;(refine aC (σ:=Nat×(Nat→Nat)×(Nat→Nat)×List AV) (fun x=>x.1≤N∧ajE s x.2.1 x.2.2.1 x.1∧auO s x.1 x.2.2.2) (fun x=>[(5, .int .i64 (x.1:Int))]) (fun x=>[UQ Tryz.prog 433 (.slice none 0 0) bm x.1 (lW x.2.2.2),own (.slice q1 N N) 3 1 N (flat fI (dX N x.2.1)),own (.slice q2 N N) 3 1 N (flat fI (dX N x.2.2.1)),aAM x.2.2.2]) _ (fun x=>N-x.1) ((0,fun _=>0,fun _=>0,[])) (by exact⟨fg _,fun j=>⟨fun h=>absurd h (mj _),fun _=>⟨rfl,rfl⟩⟩,List.Pairwise.nil,fun r hr=>absurd hr fj,fun k t hk=>absurd hk (mj _)⟩) (by exact gA) Zb (fun⟨i,L,D,tab⟩ ⟨hiN,hL,hT⟩=> ?_);refine Da ?_);dsimp only at hiN hL hT ⊢;rcases iq N (i+3) with hge|hlt
 ·refine dN ?_;exact Ea (x:=⟨L,D,q1,q2,anF hL (by omega),rfl,rfl⟩)
 ·obtain⟨x0,h0⟩: ∃ x,s[i]? =some x:=⟨_,aj (by omega)⟩;obtain⟨x1,h1⟩: ∃ x,s[i+1]? =some x:=⟨_,aj (by omega)⟩;obtain⟨x2,h2⟩: ∃ x,s[i+2]? =some x:=⟨_,aj (by omega)⟩;have ht:tri s i (x0,x1,x2):=⟨h0,h1,h2⟩;refine dN ?_;(refine aB (Hq:=[]) [] [] rfl (by kernel_rfl) Za ?_);refine gX ?_;(refine aA 11 ?_;refine aU _ rfl rfl wt (by decide +kernel) iS rfl (asM (e:=5) (z3:= .int .u8 0) (by kernel_rfl) rfl rfl rfl rfl rfl rfl rfl) ?_);(repeat' (first|refine Wa ?_|refine Wk ?_|refine We ?_|(refine Wb ?_;intro b)|fail));obtain⟨xs,q,c,rest,e1,e2,e3,e4⟩:=auP hT ht;have hi2:i<N:=by omega
  have z1:fJ L i 0=L:=by have:=SF L i;rwa [((hL i).2 (aq _)).1] at this
  have z2:fJ D i 0=D:=by have:=SF D i;rwa [((hL i).2 (aq _)).2] at this
  have hxl:=e3.2.2;refine dJ wt rfl (alQ (t:=(x0,x1,x2)) (e:=23) rfl rfl rfl aN e1) ?_;refine aS (e2 aN) ?_;refine eU ?_;rw[←z1, ←z2];(refine aC (σ:=Nat×Nat×Nat) (fun x=>x.1≤xs.length∧Part s xs i x.1 x.2.1 x.2.2) (fun x=>[(40, .int .i64 (x.1:Int))]) (fun x=>[own (.slice q1 N N) 3 1 N (flat fI (dX N (fJ L i x.2.1))),own (.slice q2 N N) 3 1 N (flat fI (dX N (fJ D i x.2.2)))]) _ (fun x=>xs.length-x.1) ((0,0,0)) (by exact⟨fg _,auQ _ _ _⟩) (by exact gA) Zb (fun⟨idx,n0,d0⟩ ⟨hidx,hP⟩=> ?_);refine Da ?_);dsimp only at hidx hP ⊢;have gL:(dX N (fJ L i n0))[i]? =some (n0:Int):=by rw[dI _ hi2,pR]
  have gD:(dX N (fJ D i d0))[i]? =some (d0:Int):=by rw[dI _ hi2,pR]
  have hn0:n0≤66∧i+n0≤N:=by rcases hP.1 with h|h<;>omega
  rcases iq idx xs.length with hlt2|hge2
  ·obtain⟨x,hx⟩: ∃ x,xs[idx]? =some x:=⟨_,aj hlt2⟩;obtain⟨k,rfl,hki,hkt⟩:=e3.1 x (List.mem_of_getElem? hx);have hk:=hx;have hik:(i:Int)-(k:Int)=((i-k:Nat):Int):=by omega
   refine dN ?_;(refine cK (σ:=Nat) (fun n=>3≤n∧n≤66∧i+n≤N∧mat s k i n) (fun n=>[(9, .int .i64 (n:Int))]) (fun n=>66-n) (3) (by exact⟨by decide,by decide,by omega,aAO hkt ht⟩) (by exact gA) (fun n ⟨h3,h66,hin,hm⟩=> ?_);refine Da ?_);by_cases hn66:n=66
   ·have pn:=DV ht hk hki hkt hP h3 h66 (by omega) hm (.inl hn66);rcases iq n n0 with hlt3|hge3
    ·omega
    ·refine dN ?_;(refine cM wt (aG (f:=fI) (q':=(n:Int)) rfl rfl rfl rfl (by exact aN) rfl (by omega) (by intro _;rfl) (by assumption) rfl rfl (by rfl)) ?_;rintro _ _ ⟨rfl,rfl⟩);rw[fK _ _ hi2,kX];refine eU ?_;rw[hik];(refine cM wt (aG (f:=fI) (q':=((i-k:Nat):Int)) rfl rfl rfl rfl (by exact aN) rfl (by omega) (by intro _;rfl) (by assumption) rfl rfl (by rfl)) ?_;rintro _ _ ⟨rfl,rfl⟩);rw[fK _ _ hi2,kX];refine eU ?_;refine Ee ((idx+1,n,i-k)) ?_ ?_
     ·exact⟨by omega,pn.2 hge3⟩
     ·dsimp only;omega
   ·by_cases hnN:i+n=N
    ·have pn:=DV ht hk hki hkt hP h3 h66 (by omega) hm (.inr (.inl (by omega)));rcases iq n n0 with hlt3|hge3
     ·omega
     ·refine dN ?_;(refine cM wt (aG (f:=fI) (q':=(n:Int)) rfl rfl rfl rfl (by exact aN) rfl (by omega) (by intro _;rfl) (by assumption) rfl rfl (by rfl)) ?_;rintro _ _ ⟨rfl,rfl⟩);rw[fK _ _ hi2,kX];refine eU ?_;rw[hik];(refine cM wt (aG (f:=fI) (q':=((i-k:Nat):Int)) rfl rfl rfl rfl (by exact aN) rfl (by omega) (by intro _;rfl) (by assumption) rfl rfl (by rfl)) ?_;rintro _ _ ⟨rfl,rfl⟩);rw[fK _ _ hi2,kX];refine eU ?_;refine Ee ((idx+1,n,i-k)) ?_ ?_
      ·exact⟨by omega,pn.2 hge3⟩
      ·dsimp only;omega
    ·obtain⟨y1,hy1⟩: ∃ y,s[k+n]? =some y:=⟨_,aj (by omega)⟩;obtain⟨y2,hy2⟩: ∃ y,s[i+n]? =some y:=⟨_,aj (by omega)⟩;by_cases hyy:y1=y2
     ·subst hyy;refine KA ?_;refine Ee (n+1) ?_ ?_
      ·exact⟨by omega,by omega,by omega,auS hm (by rw[hy1,hy2])⟩
      ·omega
     ·have hyn:y1.toNat≠y2.toNat:=fun h=>hyy (UInt8.toNat_inj.1 h)
      have pn:=DV ht hk hki hkt hP h3 h66 (by omega) hm (.inr (.inr (by rw[hy1,hy2];exact fun h=>hyy (Option.some.inj h))));rcases iq n n0 with hlt3|hge3
      ·refine KA ?_;refine Ee ((idx+1,n0,d0)) ?_ ?_
       ·exact⟨by omega,pn.1 hlt3⟩
       ·dsimp only;omega
      ·refine KA ?_;(refine cM wt (aG (f:=fI) (q':=(n:Int)) rfl rfl rfl rfl (by exact aN) rfl (by omega) (by intro _;rfl) (by assumption) rfl rfl (by rfl)) ?_;rintro _ _ ⟨rfl,rfl⟩);rw[fK _ _ hi2,kX];refine eU ?_;rw[hik];(refine cM wt (aG (f:=fI) (q':=((i-k:Nat):Int)) rfl rfl rfl rfl (by exact aN) rfl (by omega) (by intro _;rfl) (by assumption) rfl rfl (by rfl)) ?_;rintro _ _ ⟨rfl,rfl⟩);rw[fK _ _ hi2,kX];refine eU ?_;refine Ee ((idx+1,n,i-k)) ?_ ?_
       ·exact⟨by omega,pn.2 hge3⟩
       ·dsimp only;omega
  ·obtain rfl:idx=xs.length:=by omega
   have hlong:=auR ht e3 hP;(repeat' (first|refine Wa ?_|refine aF ?_|(refine Wq ?_;intro q)|fail));refine aI wt rfl (PI (e:=23) rfl rfl rfl aN e1 Zh) ?_;rintro _ _ ⟨st,rfl,rfl⟩;refine eU ?_;refine aI wt rfl (by first|exact Ma (fI) [(i:Int)] rfl|exact Mb (fI) [(i:Int)] rfl) ?_;rintro _ _ ⟨q5,c5,rfl,rfl⟩;refine eU ?_;refine cM wt (GR rfl rfl rfl rfl aN) ?_;rintro _ _ ⟨rfl,rfl⟩;obtain⟨g1,g2⟩:=e4 (xs++[(i:Int)]) q5 c5 (aAN ht e3);rw[g2];refine eU ?_;refine lC (jB.refl _) (DC (e:=qX ((x0,x1,x2),xs++[(i:Int)],q5,c5)) (l:=rest.map qX) aN aN (aEQ _)) ?_;refine Ee ((i+1,fJ L i n0,fJ D i d0,((x0,x1,x2),xs++[(i:Int)],q5,c5)::rest)) ?_ ?_
   ·exact⟨by omega,afB hL hlong,g1⟩
   ·dsimp only;omega
end Go.Proofs.YtbjalbcdbgcgdaaGreat.lz
