/- Law HandStale: its texts, packed. -/
import Derived.Test.YtbjalbcdbgcgdaaGreatK02
import Derived.OrdersHeld
open List renaming mem_singleton->fk,not_mem_nil->fj
open Nat renaming blt->bh
open Array renaming replicate->fm
open Bool renaming and_eq_true->fl
set_option linter.unusedVariables false
set_option maxRecDepth 100000
set_option maxHeartbeats 8000000
namespace Go.Proofs.YtbjalbcdbgcgdaaGreat.sl
open Go.RowKit bG
def GP (P:Program) (ops:Array Oper) (Q:eP) (S:World→Prop) (nk:List Nat):Nat→Array Bool→Act→World→Prop
 |0,L,a,w=>Region.ready .any ops L=[]∧Q .normal a w
 |k+1,L,a,w=>(Region.ready .any ops L=[]→Q .normal a w)∧
  ∀ i∈Region.ready .any ops L,wpOp P ops Q i (fun a' w'=>(i∉nk→S w')∧GP P ops Q S nk k (L.setIfInBounds i true) a' w') a w
section
variable {P:Program} {ops:Array Oper} {Q:eP} {S:World→Prop} {nk:List Nat}
theorem GP.any: ∀ (k:Nat) (L:Array Bool) (a:Act) (w:World),GP P ops Q S nk k L a w→wpAny P .any ops Q k L a w
 |0,_,_,_,h=>h
 |k+1,_,_,_,h=>⟨h.1,fun i hi=>wpOp_mono (fun a' w' h'=>GP.any k _ a' w' h'.2) (h.2 i hi)⟩
def behind (ops:Array Oper) (i j:Nat):Bool:=(ops[j]?).any fun o=>o.after.any fun e=>Region.binds .any e&&e.on==i
theorem adG {i:Nat} {oi:Oper} {v:Value} (hi:ops[i]? =some oi) (hsel: ∀ (j:Nat) (o:Oper) cs b,ops[j]? =some o→o.op≠ .select cs b) (hQ: ∀ c a w, ¬ Q (.panic c) a w) (hb: ∀ j∈nk,j≠i→behind ops i j=true): ∀ (k:Nat) (L:Array Bool) (a:Act) (w:World),(∀ j oj,ops[j]? =some oj→j≠i→L.getD j true=false→(∀ e∈oj.after,Region.binds .any e=true→e.on≠i)→oi.apart ops oj=true)→i∈Region.ready .any ops L→YieldsIf P ops S oi v a→S w→GP P ops Q S nk k (L.setIfInBounds i true) (a.put oi.dst v) w→GP P ops Q S nk (k+1) L a w:=by
 intro k;induction k with
 |zero=>
  intro L a w _ hr hy hS H;refine⟨fun h=>absurd hr (by rw[h];exact fj),fun j hj=> ?_⟩;by_cases hji:j=i
  ·rw[hji] at hj ⊢;exact hy.wpOp hi hS ⟨fun _=>hS,H⟩
  ·have h9:=ready_mono hj hji;rw[H.1] at h9;exact absurd h9 fj
 |succ k ih=>
  intro L a w hfree hr hy hS H;refine⟨fun h=>absurd hr (by rw[h];exact fj),fun j hj=> ?_⟩;by_cases hji:j=i
  ·rw[hji] at hj ⊢;exact hy.wpOp hi hS ⟨fun _=>hS,H⟩
  ·obtain⟨hjun,oj,hoj,hall⟩:=mem_ready.1 hj;have hno: ∀ e∈oj.after,Region.binds .any e=true→e.on≠i:=fun e he hbd heq=>by
    have g1:=hall e he hbd;have g0:=(mem_ready.1 hr).1;rw[heq] at g1;by_cases hs:i<L.size
    ·simp [hs] at g0 g1;rw[g0] at g1;exact absurd g1 (by simp)
    ·simp [Array.getElem?_eq_none (Nat.le_of_not_lt hs)] at g1
   have hnk:j∉nk:=fun hjn=>by
    have:=hb j hjn hji;simp only[behind,hoj,Option.any_some,Array.any_eq_true] at this;obtain⟨x,hx,hx2⟩:=this;simp only[fl,beq_iff_eq] at hx2;exact hno _ (Array.getElem_mem hx) hx2.1 hx2.2
   have g2:=wpOp_putIf hoj (hfree j oj hoj hji hjun hno) (fun cs b=>hsel i oi cs b hi) (fun cs b=>hsel j oj cs b hoj) (fun c a w h=>absurd h (hQ c _ w)) hy (H.2 j (ready_mono hj hji));refine wpOp_mono (fun a' w' h3=>⟨h3.2.1, ?_⟩) g2;refine ih (L.setIfInBounds j true) a' w' (fun m om hm hmi hun hnm=> ?_) (ready_mono hr (Ne.symm hji)) h3.1 (h3.2.1 hnk) ?_
   ·refine hfree m om hm hmi ?_ hnm;by_cases hjm:j=m
    ·rw[←hjm];exact hjun
    ·rw[getD_set_ne true hjm] at hun;exact hun
   ·rw[Array.setIfInBounds_comm _ _ hji];exact h3.2.2
end
def calm (Q:eP):eP
 | .panic _,_,_=>False
 |e,a,w=>Q e a w
def eO (P:Program) (ops:Array Oper) (Q:eP) (n:Nat) (Hq:List Ent) (nk:List Nat) (k:Nat) (L:Array Bool) (F:dF) (H:List Ent):Prop:=
 ∀ a w,Ok F n a→aD H w→GP P ops (calm Q) (aD Hq) nk k L a w
section
variable {P:Program} {ops:Array Oper} {Q:eP} {n:Nat} {Hq:List Ent} {nk:List Nat} {k:Nat} {L:Array Bool} {F:dF} {H:List Ent}
theorem CH {id:Nat} {l:List Oper} (Hq:List Ent) (nk:List Nat) (hm:P.follows .mixedOrders=true) (h:eO P l.toArray Q n Hq nk l.length (fm l.length false) F H):dC P Q n (.region id l.toArray true) F H:=fun a w ha hw=>by
 have h1:=h a _ ha hw.drew;have h2:=GP.any _ _ _ _ h1;refine wp_mono (wp_region_any hm (Q:=calm Q) (by simpa using h2)) ?_;intro e a w hq;cases e<;>first|exact hq|exact hq.elim
def oB:List Nat→List Ent→List Ent
 |[],_=>[]
 |i::l,H=>match H[i]? with
  |some e=>e::oB l H
  |none=>oB l H
theorem PF {id:Nat} {l:List Oper} {Hq:List Ent} (is nk:List Nat) (hq:oB is H=Hq) (hm:P.follows .mixedOrders=true) (h:eO P l.toArray Q n Hq nk l.length (fm l.length false) F H):dC P Q n (.region id l.toArray true) F H:=CH Hq nk hm h
theorem XP (hr:Region.ready .any ops L=[]) (h:dG Q .normal n F H):eO P ops Q n Hq nk k L F H:=fun a w ha hw=>by
 have h1:calm Q .normal a w:=h a w ha hw;cases k with
 |zero=>exact⟨hr,h1⟩
 |succ k=>exact⟨fun _=>h1,fun i hi=>absurd hi (by rw[hr];exact fj)⟩
def eV (ops:Array Oper) (nk:List Nat) (L:Array Bool) (i:Nat):Bool:=
 Region.noSelect ops&&Region.free .any ops L i&&(Region.ready .any ops L).contains i&&nk.all fun j=>j==i||behind ops i j
theorem rR {i:Nat} {o:Oper} {v:Value} (hi:ops[i]? =some o) (hb:eV ops nk L i=true) (hs:HSub H Hq) (hd:fits n o.dst=true) (hy: ∀ a,Ok F n a→YieldsIf P ops (aD Hq) o v a) (h:eO P ops Q n Hq nk k (L.setIfInBounds i true) (pA F o.dst v) H):eO P ops Q n Hq nk (k+1) L F H:=fun a w ha hw=>by
 simp only[eV,fl,List.contains_iff_mem,List.all_eq_true,Bool.or_eq_true,beq_iff_eq] at hb;obtain⟨⟨⟨h1,h2⟩,h3⟩,h4⟩:=hb;exact adG hi (Region.noSelect_spec h1) (fun c a w h=>h) (fun j hj hne=>(h4 j hj).resolve_left hne) k L a w (Region.free_spec hi h2) h3 (hy a ha) (hs w hw) (h _ w (ha.put hd) hw)
theorem aqT (i:Nat) {o:Oper} {v:Value} (hi:ops[i]? =some o) (hg:kR ops F o) (hb:eV ops nk L i=true) (hs:HSub H Hq) (hd:fits n o.dst=true) (hq:Qt P n o F Hq v) (h:eO P ops Q n Hq nk k (L.setIfInBounds i true) (pA F o.dst v) H):eO P ops Q n Hq nk (k+1) L F H:=
 rR hi hb hs hd (fun a ha=> .inl ⟨hg.wanted ha,fun w hw=>hq a w ha hw⟩) h
theorem UE (i:Nat) {o:Oper} {j t:Nat} {b:Bool} (hi:ops[i]? =some o) (hg:o.guard=some (j,b)) (hsl:nG ops j=some t) (hv:look F t=some (.bool (!b))) (hb:eV ops nk L i=true) (hs:HSub H Hq) (hd:fits n o.dst=true) (h:eO P ops Q n Hq nk k (L.setIfInBounds i true) (pA F o.dst undef) H):eO P ops Q n Hq nk (k+1) L F H:=
 rR hi hb hs hd (fun a ha=> .inr ⟨by simp only[Region.wanted,hg,rP ha hsl hv];cases b<;>simp,rfl⟩) h
def JT (P:Program) (ops:Array Oper) (Q:eP) (n:Nat) (Hq:List Ent) (nk:List Nat) (k:Nat) (L:Array Bool) (F:dF) (H:List Ent) (i:Nat):Prop:=
 ∀ a w,Ok F n a→aD H w→wpOp P ops (calm Q) i (fun a' w'=>(i∉nk→aD Hq w')∧GP P ops (calm Q) (aD Hq) nk k (L.setIfInBounds i true) a' w') a w
theorem aCL {i:Nat} {o:Oper} {K:Value→List Ent→Prop} (hi:ops[i]? =some o) (hg:kR ops F o) (hd:fits n o.dst=true) (h:cJ P n o F H K) (hk: ∀ v H',K v H'→(nk.contains i=false→HSub H' Hq)∧eO P ops Q n Hq nk k (L.setIfInBounds i true) (pA F o.dst v) H'):JT P ops Q n Hq nk k L F H i:=fun a w ha hw=>by
 unfold wpOp;simp only[hi];rw[if_pos (hg.wanted ha)];refine .inl (h (calm Q) a w _ ha hw fun v H' w' hkv hw'=> ?_);obtain⟨h1,h2⟩:=hk v H' hkv;exact⟨fun hn=>h1 (by simpa using hn) w' hw',h2 _ _ (ha.put hd) hw'⟩
theorem nP (i:Nat) (hr:Region.ready .any ops L=[i]) (h:JT P ops Q n Hq nk k L F H i):eO P ops Q n Hq nk (k+1) L F H:=fun a w ha hw=>
 ⟨fun h0 => absurd (hr ▸ h0) (by simp), fun j hj => by
  rw [hr] at hj;rw [fk.1 hj];exact h a w ha hw⟩
theorem ayB (i j:Nat) (hr:Region.ready .any ops L=[i,j]) (h:JT P ops Q n Hq nk k L F H i) (h':JT P ops Q n Hq nk k L F H j):eO P ops Q n Hq nk (k+1) L F H:=fun a w ha hw=>
 ⟨fun h0 => absurd (hr ▸ h0) (by simp), fun m hm => by
  rw[hr] at hm;rcases List.mem_cons.1 hm with rfl|hm
  ·exact h a w ha hw
  ·rw [fk.1 hm];exact h' a w ha hw⟩
theorem rS (i:Nat) {d:Nat} {op:Op} {ty:TypeId} {ps:String} {af:Array Edge} {g:Option (Nat×Bool)} {v:Value} (hi:ops[i]? =some ⟨some d,op,ty,ps,af,g⟩) (hg:kR ops F ⟨some d,op,ty,ps,af,g⟩) (hb:eV ops nk L i=true) (hs:HSub H Hq) (hd:bh d n=true) (hq:Qt P n ⟨some d,op,ty,ps,af,g⟩ F Hq v) (h:eO P ops Q n Hq nk k (L.setIfInBounds i true) ((d,v)::F) H):eO P ops Q n Hq nk (k+1) L F H:=aqT i hi hg hb hs hd hq h
theorem QF (i:Nat) {d:Nat} {op:Op} {ty:TypeId} {ps:String} {af:Array Edge} {j t:Nat} {b:Bool} (hi:ops[i]? =some ⟨some d,op,ty,ps,af,some (j,b)⟩) (hsl:nG ops j=some t) (hv:look F t=some (.bool (!b))) (hb:eV ops nk L i=true) (hs:HSub H Hq) (hd:bh d n=true) (h:eO P ops Q n Hq nk k (L.setIfInBounds i true) ((d,undef)::F) H):eO P ops Q n Hq nk (k+1) L F H:=UE i hi rfl hsl hv hb hs hd h
theorem QG (i:Nat) {d:Nat} {op:Op} {ty:TypeId} {ps:String} {af:Array Edge} {g:Option (Nat×Bool)} {K:Value→List Ent→Prop} (hi:ops[i]? =some ⟨some d,op,ty,ps,af,g⟩) (hg:kR ops F ⟨some d,op,ty,ps,af,g⟩) (hd:bh d n=true) (h:cJ P n ⟨some d,op,ty,ps,af,g⟩ F H K) (hk: ∀ v H',K v H'→(nk.contains i=false→HSub H' Hq)∧eO P ops Q n Hq nk k (L.setIfInBounds i true) ((d,v)::F) H'):JT P ops Q n Hq nk k L F H i:=aCL hi hg hd h hk
theorem ahJ (i:Nat) {op:Op} {ty:TypeId} {ps:String} {af:Array Edge} {g:Option (Nat×Bool)} {K:Value→List Ent→Prop} (hi:ops[i]? =some ⟨none,op,ty,ps,af,g⟩) (hg:kR ops F ⟨none,op,ty,ps,af,g⟩) (h:cJ P n ⟨none,op,ty,ps,af,g⟩ F H K) (hk: ∀ v H',K v H'→(nk.contains i=false→HSub H' Hq)∧eO P ops Q n Hq nk k (L.setIfInBounds i true) F H'):JT P ops Q n Hq nk k L F H i:=aCL hi hg rfl h hk
end
end Go.Proofs.YtbjalbcdbgcgdaaGreat.sl
