/- Law HandStale: its texts, packed. -/
import Derived.Test.YtbjalbcdbgcgdaaGreatK00
import Derived.Orders
import Derived.IntWalk
open List renaming Sublist->bj,mem_cons->aw,mem_cons_of_mem->ax,mem_cons_self->bc,pairwise_cons->au
open Nat renaming beq->a6,blt->bh,eq_of_beq_eq_true->ay,le_refl->aq,lt_of_lt_of_le->ab
open Option renaming some.inj->bf,some.injEq->bd
open Classical renaming choose->a7,choose_spec->a8
set_option linter.unusedVariables false
set_option maxRecDepth 100000
set_option maxHeartbeats 8000000
namespace Go.Proofs.YtbjalbcdbgcgdaaGreat.sl
open Go.RowKit bG
structure Ent where
 iD:Bool
 jE:Nat→Prop
 holds:World→Prop
 lt: ∀ {w b},holds w→jE b→b<w.heap.size
 keep: ∀ {w w':World},holds w→w'.os=w.os→w'.tape=w.tape→w'.output=w.output→w.heap.size≤w'.heap.size→(∀ b,jE b→w'.heap[b]? =w.heap[b]?)→holds w'
def JH (e f:Ent):Prop:=(e.iD=true∨f.iD=true)→ ∀ b,e.jE b→ ¬ f.jE b
theorem JH.symm {e f:Ent} (h:JH e f):JH f e:=fun hx b h1 h2=>h hx.symm b h2 h1
def aD (H:List Ent) (w:World):Prop:=(∀ e∈H,e.holds w)∧H.Pairwise JH
structure mP (S:Nat→Prop) (w w':World):Prop where
 os:w'.os=w.os
 tape:w'.tape=w.tape
 output:w'.output=w.output
 size:w.heap.size≤w'.heap.size
 block: ∀ b,b<w.heap.size→ ¬ S b→w'.heap[b]? =w.heap[b]?
theorem mP.refl (S:Nat→Prop) (w:World):mP S w w:=⟨rfl,rfl,rfl,aq _,fun _ _ _=>rfl⟩
theorem Ent.WQ {e:Ent} {S:Nat→Prop} {w w':World} (h:e.holds w) (m:mP S w w') (hd: ∀ b,e.jE b→ ¬ S b):e.holds w':=
 e.keep h m.os m.tape m.output m.size fun b hb=>m.block b (e.lt h hb) (hd b hb)
theorem aD.perm {H H':List Ent} {w:World} (p:H.Perm H') (h:aD H w):aD H' w:=
 ⟨fun e he=>h.1 e (p.mem_iff.2 he),(p.pairwise_iff (fun {a b}=>JH.symm)).1 h.2⟩
theorem aD.sub {H H':List Ent} {w:World} (p:H'.Sublist H) (h:aD H w):aD H' w:=
 ⟨fun e he=>h.1 e (p.subset he),h.2.sublist p⟩
theorem aD.tail {e:Ent} {H:List Ent} {w:World} (h:aD (e::H) w):aD H w:=h.sub (List.sublist_cons_self _ _)
theorem aD.head {e:Ent} {H:List Ent} {w:World} (h:aD (e::H) w):e.holds w:=h.1 e bc
theorem aD.drew {H:List Ent} {w:World} (h:aD H w):aD H { w with drawn:=w.drawn+1 }:=
 ⟨fun e he=>e.keep (h.1 e he) rfl rfl rfl (aq _) fun _ _=>rfl,h.2⟩
theorem WT {H:List Ent} (h:H.Pairwise JH) {e f:Ent} (he:e∈H) (hf:f∈H) (hne:e≠f):JH e f:=by
 induction H with
 |nil=>cases he
 |cons g H ih=>
  have hp:=au.1 h;rcases aw.1 he with rfl|he
  ·rcases aw.1 hf with rfl|hf
   ·exact absurd rfl hne
   ·exact hp.1 f hf
  ·rcases aw.1 hf with hfg|hf
   ·rw[hfg];exact (hp.1 e he).symm
   ·exact ih hp.2 he hf
theorem aD.pA {e e':Ent} {H:List Ent} {w w':World} (h:aD (e::H) w) (he:e.iD=true) (hm:mP e.jE w w') (hh:e'.holds w') (hf: ∀ b,e'.jE b→e.jE b∨w.heap.size≤b):aD (e'::H) w':=by
 have hp:=au.1 h.2;refine⟨fun f hfm=> ?_,au.2 ⟨fun f hfm _ b h1 h2=> ?_,hp.2⟩⟩
 ·rcases aw.1 hfm with rfl|hfm
  ·exact hh
  ·exact Ent.WQ (h.1 f (ax _ hfm)) hm fun b hb hb2=>hp.1 f hfm (.inl he) b hb2 hb
 ·rcases hf b h1 with h3|h3
  ·exact hp.1 f hfm (.inl he) b h3 h2
  ·exact absurd (f.lt (h.1 f (ax _ hfm)) h2) (by omega)
theorem aD.new {e':Ent} {H:List Ent} {w w':World} (h:aD H w) (hm:mP (fun _=>False) w w') (hh:e'.holds w') (hf: ∀ b,e'.jE b→w.heap.size≤b):aD (e'::H) w':=by
 refine⟨fun f hfm=> ?_,au.2 ⟨fun f hfm _ b h1 h2=> ?_,h.2⟩⟩
 ·rcases aw.1 hfm with rfl|hfm
  ·exact hh
  ·exact Ent.WQ (h.1 f hfm) hm fun b hb hb2=>hb2
 ·exact absurd (f.lt (h.1 f hfm) h2) (by have:=hf b h1;omega)
theorem aD.aBV {H:List Ent} {w w':World} (h:aD H w) (hm:mP (fun _=>False) w w'):aD H w':=
 ⟨fun f hfm=>Ent.WQ (h.1 f hfm) hm fun b hb hb2=>hb2,h.2⟩
theorem aD.shared {e':Ent} {H:List Ent} {w:World} (h:aD H w) (he:e'.iD=false) (hh:e'.holds w) (hf: ∀ b,e'.jE b→ ∃ e∈H,e.iD=false∧e.jE b):aD (e'::H) w:=by
 refine⟨fun f hfm=> ?_,au.2 ⟨fun f hfm hx b h1 h2=> ?_,h.2⟩⟩
 ·rcases aw.1 hfm with rfl|hfm
  ·exact hh
  ·exact h.1 f hfm
 ·obtain⟨g,hg,hg1,hg2⟩:=hf b h1;rcases hx with hx|hx
  ·rw[he] at hx;cases hx
  ·by_cases hgf:g=f
   ·subst hgf;rw[hg1] at hx;cases hx
   ·exact (WT h.2 hg hfm hgf) (.inr hx) b hg2 h2
theorem aD.acZ {e e':Ent} {H:List Ent} {w:World} (h:aD (e::H) w) (hx:e'.iD=true→e.iD=true) (hh:e'.holds w) (hf: ∀ b,e'.jE b→e.jE b):aD (e'::H) w:=by
 have hp:=au.1 h.2;refine⟨fun f hfm=> ?_,au.2 ⟨fun f hfm hxx b h1 h2=>hp.1 f hfm (hxx.imp hx id) b (hf b h1) h2,hp.2⟩⟩;rcases aw.1 hfm with rfl|hfm
 ·exact hh
 ·exact h.1 f (ax _ hfm)
inductive bF (e:Ent):List Ent→List Ent→Prop
 |here {H}:bF e (e::H) H
 |there {f H R}:bF e H R→bF e (f::H) (f::R)
theorem bF.perm {e:Ent} {H R:List Ent} (p:bF e H R):H.Perm (e::R):=by
 induction p with
 |here=>exact List.Perm.refl _
 |there _ ih=>exact (ih.cons _).trans (List.Perm.swap _ _ _)
theorem bF.mem {e:Ent} {H R:List Ent} (p:bF e H R):e∈H:=p.perm.mem_iff.2 bc
inductive iE:List Ent→List Ent→List Ent→Prop
 |nil {H S}:bj S H→iE [] H S
 |out {e C H R S}:bF e H R→iE C R S→iE (e::C) H S
 |share {e C H R S}:bF e H R→e.iD=false→iE C H S→iE (e::C) H S
theorem iE.ok {C H R:List Ent} (p:iE C H R): ∀ {w:World},aD H w→aD (C++R) w:=by
 induction p with
 |nil hs=>exact fun h=>h.sub hs
 | @out e C H R S p _ ih=>
  intro w h;have h1:=h.perm p.perm;have hp:=au.1 h1.2;have h2:=ih h1.tail;refine⟨fun f hf=> ?_,au.2 ⟨fun f hf=> ?_,h2.2⟩⟩
  ·rcases aw.1 hf with rfl|hf
   ·exact h1.head
   ·exact h2.1 f hf
  ·rename_i q;have: ∀ f∈C++S,f∈R:=by
    clear ih h2 h1 hp hf p h;induction q with
    |nil hs=>exact fun f hf=>hs.subset hf
    |out p _ ih=>
     intro f hf;rcases aw.1 hf with rfl|hf
     ·exact p.mem
     ·exact p.perm.mem_iff.2 (ax _ (ih f hf))
    |share p _ _ ih=>
     intro f hf;rcases aw.1 hf with rfl|hf
     ·exact p.mem
     ·exact ih f hf
   exact hp.1 f (this f hf)
 | @share e C H R S p hx q ih=>
  intro w h;have h2:=ih h;have hsub: ∀ f∈C++S,f∈H:=by
   clear ih h2 p hx;induction q with
   |nil hs=>exact fun f hf=>hs.subset hf
   |out p _ ih=>
    intro f hf;rcases aw.1 hf with rfl|hf
    ·exact p.mem
    ·exact p.perm.mem_iff.2 (ax _ (ih (h.perm p.perm).tail f hf))
   |share p _ _ ih=>
    intro f hf;rcases aw.1 hf with rfl|hf
    ·exact p.mem
    ·exact ih h f hf
  refine⟨fun f hf=> ?_,au.2 ⟨fun f hf hxx b h3 h4=> ?_,h2.2⟩⟩
  ·rcases aw.1 hf with rfl|hf
   ·exact h.1 _ p.mem
   ·exact h2.1 f hf
  ·rcases hxx with hxx|hxx
   ·rw[hx] at hxx;cases hxx
   ·have hne:e≠f:=by
     intro e';subst e';rw[hx] at hxx;cases hxx
    exact (WT h.2 p.mem (hsub f hf) hne) (.inr hxx) b h3 h4
def HSub (H H':List Ent):Prop:= ∀ w,aD H w→aD H' w
theorem HSub.refl (H:List Ent):HSub H H:=fun _ h=>h
theorem HSub.nil (H:List Ent):HSub H []:=fun _ _=>⟨fun _ h=>absurd h (List.not_mem_nil),List.Pairwise.nil⟩
theorem HSub.WU {C H R:List Ent} (p:iE C H R):HSub H C:=fun w h=>(p.ok h).sub (List.sublist_append_left C R)
theorem HSub.kC {C H R:List Ent} (p:iE C H R):HSub H (C++R):=fun w h=>p.ok h
theorem HSub.drop {e:Ent} {H H':List Ent} (h:HSub H H'):HSub (e::H) H':=fun w hw=>h w hw.tail
theorem HSub.nZ {H H':List Ent} (p:H'.Sublist H):HSub H H':=fun w h=>h.sub p
theorem HSub.trans {A B C:List Ent} (h:HSub A B) (k:HSub B C):HSub A C:=fun w hw=>k w (h w hw)
inductive Cov:List Ent→List Ent→Prop
 |base {T H}:bj T H→Cov T H
 |out {e H R T}:bF e H R→Cov T R→Cov (e::T) H
 |share {e H R T}:bF e H R→e.iD=false→Cov T H→Cov (e::T) H
theorem Cov.aFT {T H:List Ent} (c:Cov T H): ∃ C S,T=C++S∧iE C H S:=by
 induction c with
 |base h=>exact⟨[],_,rfl,iE.nil h⟩
 |out p _ ih=>
  obtain⟨C,S,e,q⟩:=ih;exact⟨_::C,S,by rw[e];rfl,iE.out p q⟩
 |share p hx _ ih=>
  obtain⟨C,S,e,q⟩:=ih;exact⟨_::C,S,by rw[e];rfl,iE.share p hx q⟩
theorem HSub.aqJ {T H:List Ent} (c:Cov T H):HSub H T:=by
 obtain⟨C,S,rfl,q⟩:=c.aFT;exact HSub.kC q
abbrev dF:=List (Nat×Value)
def look:dF→Nat→Option Value
 |[],_=>none
 |(s,v)::F,t=>bif a6 s t then some v else look F t
def ev (F:dF):Operand→Option Value
 | .tmp t=>look F t
 | .const v=>some v
 | .global g=>some (.pointer (some ⟨g,0,none⟩))
 | .func f=>some (.func (.func f) #[] #[])
structure Ok (F:dF) (n:Nat) (a:Act):Prop where
 defers:a.defers=[]
 size:a.tmps.size=n
 slot: ∀ t v,look F t=some v→a.tmps[t]? =some v
theorem Ok.eval {F:dF} {n:Nat} {a:Act} (h:Ok F n a) {x:Operand} {v:Value} (hx:ev F x=some v):a.eval x=v:=by
 cases x with
 |tmp t=>simp [Act.eval,h.slot t v hx]
 |const v=>simpa [ev,Act.eval] using hx
 |global g=>simpa [ev,Act.eval] using hx
 |func f=>simpa [ev,Act.eval] using hx
def pA (F:dF):Option Nat→Value→dF
 |none,_=>F
 |some d,v=>(d,v)::F
def fits (n:Nat):Option Nat→Bool
 |none=>true
 |some d=>bh d n
theorem Ok.put {F:dF} {n:Nat} {a:Act} (h:Ok F n a) {d:Option Nat} {v:Value} (hd:fits n d=true):Ok (pA F d v) n (a.put d v):=by
 cases d with
 |none=>exact h
 |some d=>
  have hdn:d<n:=by simpa [fits] using hd
  refine⟨h.defers,by simp [Act.put,h.size],fun t u hu=> ?_⟩;simp only[pA,look] at hu;simp only[Act.put,Array.getElem?_setIfInBounds];by_cases hdt:d=t
  ·subst hdt;rw[if_pos rfl,if_pos (by rw[h.size];exact hdn)];simpa using hu
  ·rw[if_neg hdt];have:a6 d t=false:=by
    cases hb:a6 d t with
    |false=>rfl
    |true=>exact absurd (ay hb) hdt
   rw[this] at hu;exact h.slot t u hu
def jB (F G:dF):Prop:= ∀ t v,look G t=some v→look F t=some v
theorem Ok.sub {F G:dF} {n:Nat} {a:Act} (h:Ok F n a) (hs:jB F G):Ok G n a:=⟨h.defers,h.size,fun t v ht=>h.slot t v (hs t v ht)⟩
theorem jB.refl (F:dF):jB F F:=fun _ _ h=>h
inductive nF (F:dF):List Nat→dF→Prop
 |nil {seen}:nF F seen []
 |skip {seen t v G}:seen.contains t=true→nF F seen G→nF F seen ((t,v)::G)
 |cons {seen t v G}:look F t=some v→nF F (t::seen) G→nF F seen ((t,v)::G)
theorem nF.slot {F:dF} {seen:List Nat} {G:dF} (h:nF F seen G): ∀ t v,seen.contains t=false→look G t=some v→look F t=some v:=by
 induction h with
 |nil=>intro t v _ h;cases h
 | @skip seen s u G hs _ ih=>
  intro t v ht hl;simp only[look] at hl;cases hb:a6 s t with
  |true=>rw[ay hb] at hs;rw[hs] at ht;cases ht
  |false=>rw[hb] at hl;exact ih t v ht hl
 | @cons seen s u G hs _ ih=>
  intro t v ht hl;simp only[look] at hl;cases hb:a6 s t with
  |true=>
   rw[hb] at hl;have:=ay hb;subst this;simp at hl;rw[←hl];exact hs
  |false=>
   rw[hb] at hl;refine ih t v ?_ hl;have hne:(t==s)=false:=by
    cases hc:t==s with
    |false=>rfl
    |true=>rw[beq_iff_eq] at hc;subst hc;simp at hb
   rw[List.contains_cons,hne,ht];rfl
theorem jB.of {F G:dF} (h:nF F [] G):jB F G:=fun t v ht=>h.slot t v rfl ht
theorem ER (G F:dF) (t:Nat):look (G++F) t=match look G t with|some u=>some u|none=>look F t:=by
 induction G with
 |nil=>rfl
 |cons p G ih=>
  obtain⟨s,u⟩:=p;simp only[List.cons_append,look];cases a6 s t with
  |true=>rfl
  |false=>exact ih
abbrev eP:=Exit→Act→World→Prop
def dG (Q:eP) (e:Exit) (n:Nat) (F:dF) (H:List Ent):Prop:= ∀ a w,Ok F n a→aD H w→Q e a w
def dC (P:Program) (Q:eP) (n:Nat) (c:Code) (F:dF) (H:List Ent):Prop:= ∀ a w,Ok F n a→aD H w→c.wp P Q a w
def cG (P:Program) (ops:Array Oper) (Q:eP) (n:Nat) (l:List Oper) (F:dF) (H:List Ent):Prop:= ∀ a w,Ok F n a→aD H w→wpList P ops Q l a w
section
variable {P:Program} {Q:eP} {n:Nat} {F:dF} {H:List Ent}
theorem aT {c:Code} {H':List Ent} (hH:HSub H H') (h:dC P Q n c F H'):dC P Q n c F H:=fun a w ha hw=>h a w ha (hH w hw)
theorem aS {ops:Array Oper} {l:List Oper} {H':List Ent} (hH:HSub H H') (h:cG P ops Q n l F H'):cG P ops Q n l F H:=fun a w ha hw=>h a w ha (hH w hw)
theorem lC {e:Exit} {G:dF} {H':List Ent} (hF:jB F G) (hH:HSub H H') (h:dG Q e n G H'):dG Q e n F H:=fun a w ha hw=>h a w (ha.sub hF) (hH w hw)
theorem aF {x y:Code} (h:dC P (Exit.then (y.wp P Q) Q) n x F H):dC P Q n (.seq x y) F H:=fun a w ha hw=>wp_seq (h a w ha hw)
theorem WV (h:dG Q .normal n F H):dC P Q n .skip F H:=fun a w ha hw=>wp_skip (h a w ha hw)
theorem WW {id:Nat} (h:dG Q (.exit id) n F H):dC P Q n (.exit id) F H:=fun a w ha hw=>wp_exit (h a w ha hw)
theorem agW (h:dG Q .ret n F H):dC P Q n .ret F H:=fun a w ha hw=>wp_ret (h a w ha hw)
theorem WZ {c:Operand} {x y:Code} (t:Bool) (hc:ev F c=some (.bool t)) (h1:t=true→dC P Q n x F H) (h2:t=false→dC P Q n y F H):dC P Q n (.cond c x y) F H:=
 fun a w ha hw=>wp_cond_split (ha.eval hc) (fun ht=>h1 ht a w ha hw) (fun ht=>h2 ht a w ha hw)
theorem JI {c:Operand} {x y:Code} (hc:ev F c=some (.bool true)) (h:dC P Q n x F H):dC P Q n (.cond c x y) F H:=
 WZ true hc (fun _=>h) fun h=>by cases h
theorem JJ {c:Operand} {x y:Code} (hc:ev F c=some (.bool false)) (h:dC P Q n y F H):dC P Q n (.cond c x y) F H:=
 WZ false hc (fun h=>by cases h) fun _=>h
theorem PY {id:Nat} {c:Code} (h:dC P (Exit.inBlock id Q) n c F H):dC P Q n (.block id c) F H:=fun a w ha hw=>wp_block (h a w ha hw)
theorem JK {id:Nat} {l:List Oper} (h:cG P l.toArray Q n l F H):dC P Q n (.region id l.toArray false) F H:=fun a w ha hw=>wp_region_lit (h a w ha hw)
theorem agX {ops:Array Oper} (h:dG Q .normal n F H):cG P ops Q n [] F H:=fun a w ha hw=>wpList_nil (h a w ha hw)
theorem XA {y:Code} (h:dC P Q n y F H):dG (Exit.then (y.wp P Q) Q) .normal n F H:=h
theorem wI {K:Act→World→Prop} {id:Nat} (h:dG Q (.exit id) n F H):dG (Exit.then K Q) (.exit id) n F H:=h
theorem yS {K:Act→World→Prop} (h:dG Q .ret n F H):dG (Exit.then K Q) .ret n F H:=h
theorem PZ {id:Nat} (h:dG Q .normal n F H):dG (Exit.inBlock id Q) .normal n F H:=h
theorem wJ {id:Nat} (h:dG Q .ret n F H):dG (Exit.inBlock id Q) .ret n F H:=h
theorem tH {id:Nat} (h:dG Q .normal n F H):dG (Exit.inBlock id Q) (.exit id) n F H:=fun a w ha hw=>by
 show if id=id then _ else _
 rw[if_pos rfl];exact h a w ha hw
theorem wK {id i:Nat} (hne:a6 i id=false) (h:dG Q (.exit i) n F H):dG (Exit.inBlock id Q) (.exit i) n F H:=fun a w ha hw=>by
 show if i=id then _ else _
 rw[if_neg (fun e=>by subst e;simp at hne)];exact h a w ha hw
def XB {σ:Type} (n:Nat) (I:σ→Prop) (Fi:σ→dF) (Hi:σ→List Ent) (μ:σ→Nat) (k:Nat) (a:Act) (w:World):Prop:= ∃ y,I y∧Ok (Fi y) n a∧aD (Hi y) w∧μ y<k
theorem least {p:Nat→Prop} (h: ∃ k,p k): ∃ k,p k∧ ∀ j,p j→k≤j:=by
 obtain⟨k,hk⟩:=h;induction k using Nat.strongRecOn with
 |_ k ih=>
  by_cases hj: ∃ j,j<k∧p j
  ·obtain⟨j,h1,h2⟩:=hj;exact ih j h1 h2
  ·exact⟨k,hk,fun j h=>Nat.le_of_not_lt fun hlt=>hj ⟨j,hlt,h⟩⟩
theorem XD {c:Code} {σ:Type} (I:σ→Prop) (Fi:σ→dF) (Hi:σ→List Ent) (μ:σ→Nat) (x0:σ) (h0:I x0) (hF:jB F (Fi x0)) (hH:HSub H (Hi x0)) (round: ∀ x,I x→dC P (Exit.then (XB n I Fi Hi μ (μ x)) Q) n c (Fi x) (Hi x)):dC P Q n (.loop c) F H:=by
 classical
 intro a w ha hw
 let J:Act→World→Nat→Prop:=fun a w k=> ∃ x,I x∧Ok (Fi x) n a∧aD (Hi x) w∧μ x=k
 let m:Act→World→Nat:=fun a w=>if h: ∃ k,J a w k then a7 (least h) else 0
 refine wp_loop (fun a w=> ∃ k,J a w k) m ⟨_,x0,h0,ha.sub hF,hH w hw,rfl⟩ ?_;intro a w hI;have hm:m a w=a7 (least hI):=by simp only[m];rw[dif_pos hI]
 obtain⟨x,h1,h2,h3,h4⟩:=(a8 (least hI)).1;refine wp_mono (round x h1 a w h2 h3) ?_;intro e a' w' hq;cases e<;>try exact hq
 obtain⟨y,g1,g2,g3,g4⟩:=hq;have hJ: ∃ k,J a' w' k:=⟨_,y,g1,g2,g3,rfl⟩;refine⟨hJ, ?_⟩;have hm':m a' w'=a7 (least hJ):=by simp only[m];rw[dif_pos hJ]
 rw[hm,hm', ←h4];exact Nat.lt_of_le_of_lt ((a8 (least hJ)).2 _ ⟨y,g1,g2,g3,rfl⟩) g4
theorem akH {σ:Type} {I:σ→Prop} {Fi:σ→dF} {Hi:σ→List Ent} {μ:σ→Nat} {k:Nat} (y:σ) (hI:I y) (hF:jB F (Fi y)) (hH:HSub H (Hi y)) (hμ:μ y<k):dG (Exit.then (XB n I Fi Hi μ k) Q) .normal n F H:=
 fun a w ha hw=>⟨y,hI,ha.sub hF,hH w hw,hμ⟩
end
section
variable {P:Program} {Q:eP} {n:Nat} {F:dF} {H:List Ent}
theorem cK {c:Code} {σ:Type} (I:σ→Prop) (G:σ→dF) (μ:σ→Nat) (x0:σ) (h0:I x0) (hF:nF F [] (G x0)) (round: ∀ x,I x→dC P (Exit.then (XB n I (fun x=>G x++F) (fun _=>H) μ (μ x)) Q) n c (G x++F) H):dC P Q n (.loop c) F H:=
 XD I (fun x => G x ++ F) (fun _ => H) μ x0 h0 (fun t v h => by
  rw[ER] at h;split at h
  ·rename_i u hu;simp only[bd] at h;subst h;exact hF.slot t u rfl hu
  ·exact h) (HSub.refl H) round
theorem aC {c:Code} {σ:Type} (I:σ→Prop) (G:σ→dF) (E:σ→List Ent) (S:List Ent) (μ:σ→Nat) (x0:σ) (h0:I x0) (hF:nF F [] (G x0)) (hH:HSub H (E x0++S)) (round: ∀ x,I x→dC P (Exit.then (XB n I (fun x=>G x++F) (fun x=>E x++S) μ (μ x)) Q) n c (G x++F) (E x++S)):dC P Q n (.loop c) F H:=
 XD I (fun x => G x ++ F) (fun x => E x ++ S) μ x0 h0 (fun t v h => by
  rw[ER] at h;split at h
  ·rename_i u hu;simp only[bd] at h;subst h;exact hF.slot t u rfl hu
  ·exact h) hH round
end
structure Ct (P:Program) (f:FuncId) (args:List Value) (H:List Ent) (R:Value→List Ent→Prop):Prop where
 go: ∀ Fr w,aD (H++Fr) w→Calls P f args.toArray w fun e w'=> ∃ v H',e= .returned v∧R v H'∧aD (H'++Fr) w'
def ini:Nat→List Value→dF
 |_,[]=>[]
 |k,v::l=>(k,v)::ini (k+1) l
theorem XE: ∀ (l:List Value) (k t:Nat) (v:Value),look (ini k l) t=some v→k≤t∧l[t-k]? =some v:=by
 intro l;induction l with
 |nil=>intro k t v h;cases h
 |cons u l ih=>
  intro k t v h;simp only[ini,look] at h;cases hb:a6 k t with
  |true=>
   rw[hb] at h;have:=ay hb;subst this;simp at h;simp [h]
  |false=>
   rw[hb] at h;obtain⟨h1,h2⟩:=ih (k+1) t v h;refine⟨by omega, ?_⟩;rw[show t-k=(t-(k+1))+1 from by omega];simpa using h2
def Fin (P:Program) (fn:Func) (R:Value→List Ent→Prop) (Fr:List Ent):eP:=bodyPost P fn fun e w'=> ∃ v H',e= .returned v∧R v H'∧aD (H'++Fr) w'
theorem adA {P:Program} {f:FuncId} {fn:Func} {c:Code} {args:List Value} {H:List Ent} {R:Value→List Ent→Prop} {n:Nat} (hf:P.funcs[f]? =some fn) (hnt:fn.ntmps=n) (hb:fn.body=some c) (hn:Nat.ble args.length n=true) (h: ∀ Fr,dC P (Fin P fn R Fr) n c (ini 0 args) (H++Fr)):Ct P f args H R:=by
 refine⟨fun Fr w hw=> ?_⟩;subst hnt;refine calls_of_wp hf hb (h Fr _ w ⟨rfl, ?_, ?_⟩ hw)
 ·have:=Nat.le_of_ble_eq_true hn;simp;omega
 ·intro t v ht;have:=XE args 0 t v ht;obtain⟨_,h2⟩:=this;simp only[Nat.sub_zero] at h2;have hl:=(List.getElem?_eq_some_iff.1 h2).1;rw[Array.getElem?_append_left (by simpa using hl)];simpa using h2
theorem lX {P:Program} {f:FuncId} {args:List Value} {H:List Ent} {R R':Value→List Ent→Prop} (h:Ct P f args H R) (hr: ∀ v H',R v H'→R' v H'):Ct P f args H R':=
 ⟨fun Fr w hw=>(h.go Fr w hw).mono fun _ _ ⟨v,H',h1,h2,h3⟩=>⟨v,H',h1,hr _ _ h2,h3⟩⟩
def rd (tmps:Array Value):ResultVar→Sem Value
 | .tmp t=>pure (tmps.getD t undef)
 | .cell a t=>do loadVar t (←asAddr (tmps.getD a undef))
inductive jC (P:Program) (F:dF) (H:List Ent):ResultVar→Value→Prop
 |tmp {t v}:look F t=some v→jC P F H (.tmp t) v
 |read {t ty a v}:look F t=some (.pointer (some a))→(∀ w,aD H w→(loadVar ty a).run P w= .ok v w)→jC P F H (.cell t ty) v
theorem jC.run {P:Program} {F:dF} {H:List Ent} {r:ResultVar} {v:Value} (h:jC P F H r v) {n:Nat} {a:Act} {w:World} (ha:Ok F n a) (hw:aD H w):(rd a.tmps r).run P w= .ok v w:=by
 cases h with
 |tmp h1=>simp [rd,ha.slot _ _ h1]
 |read h1 h2=>simp [rd,ha.slot _ _ h1,asAddr,h2 w hw]
inductive yT (P:Program) (F:dF) (H:List Ent):List ResultVar→Value→Prop
 |r0:yT P F H [] (.tuple #[])
 |r1 {r v}:jC P F H r v→yT P F H [r] v
 |r2 {r v r' v'}:jC P F H r v→jC P F H r' v'→yT P F H [r,r'] (.tuple #[v,v'])
 |r3 {r v r' v' r3 v3}:jC P F H r v→jC P F H r' v'→jC P F H r3 v3→yT P F H [r,r',r3] (.tuple #[v,v',v3])
 |r4 {r v r' v' r3 v3 r4 v4}:jC P F H r v→jC P F H r' v'→jC P F H r3 v3→jC P F H r4 v4→yT P F H [r,r',r3,r4] (.tuple #[v,v',v3,v4])
 |r5 {r v r' v' r3 v3 r4 v4 r5 v5}:jC P F H r v→jC P F H r' v'→jC P F H r3 v3→jC P F H r4 v4→jC P F H r5 v5→yT P F H [r,r',r3,r4,r5] (.tuple #[v,v',v3,v4,v5])
theorem adB (fn:Func) (tmps:Array Value):results fn tmps=(fn.results.mapM (rd tmps)>>=fun vs=>pure (if h:vs.size=1 then vs[0] else .tuple vs)):=by
 have e:rd tmps=(fun| .tmp t=>pure (tmps.getD t undef)| .cell a t=>do loadVar t (←asAddr (tmps.getD a undef))):=by
  funext r;cases r<;>rfl
 unfold results;rw[e];rfl
theorem yT.results {P:Program} {fn:Func} {F:dF} {H:List Ent} {v:Value} {rs:List ResultVar} (hrs:fn.results=rs.toArray) (h:yT P F H rs v) {n:Nat} {a:Act} {w:World} (ha:Ok F n a) (hw:aD H w):(results fn a.tmps).run P w= .ok v w:=by
 rw[adB,hrs];cases h with
 |r0=>simp
 |r1 h1=>simp [h1.run ha hw]
 |r2 h1 h2=>simp [h1.run ha hw,h2.run ha hw]
 |r3 h1 h2 h3=>simp [h1.run ha hw,h2.run ha hw,h3.run ha hw]
 |r4 h1 h2 h3 h4=>simp [h1.run ha hw,h2.run ha hw,h3.run ha hw,h4.run ha hw]
 |r5 h1 h2 h3 h4 h5=>simp [h1.run ha hw,h2.run ha hw,h3.run ha hw,h4.run ha hw,h5.run ha hw]
theorem gU {P:Program} {fn:Func} {R:Value→List Ent→Prop} {Fr:List Ent} {n:Nat} {F:dF} {H:List Ent} {rs:List ResultVar} (hrs:fn.results=rs.toArray) {v:Value} (hr:yT P F H rs v) (H':List Ent) (hR:R v H') (hH:HSub H (H'++Fr)):dG (Fin P fn R Fr) .ret n F H:=
 fun a w ha hw=>⟨ha.defers,_,hr.results hrs ha hw,_,_,rfl,hR,hH w hw⟩
theorem XF {P:Program} {fn:Func} {R:Value→List Ent→Prop} {Fr:List Ent} {n:Nat} {F:dF} {H:List Ent} {rs:List ResultVar} (hrs:fn.results=rs.toArray) {v:Value} (hr:yT P F H rs v) (H':List Ent) (hR:R v H') (hH:HSub H (H'++Fr)):dG (Fin P fn R Fr) .normal n F H:=
 fun a w ha hw=>⟨ha.defers,_,hr.results hrs ha hw,_,_,rfl,hR,hH w hw⟩
end Go.Proofs.YtbjalbcdbgcgdaaGreat.sl
namespace Go.Proofs.YtbjalbcdbgcgdaaGreat.sl
open Go.RowKit bG
theorem TY {w:World} {b:Nat} {o:Obj} (h:w.heap[b]? =some o):b<w.heap.size:=(Array.getElem?_eq_some_iff.1 h).1
def box (b:Nat) (cs:List Value) (t:TypeId):Ent where
 iD:=true
 jE k:=k=b
 holds w:=w.heap[b]? =some (.cells cs.toArray t (0,0))
 lt h hk:=by subst hk;exact TY h
 keep h _ _ _ _ hb:=by rw[hb b rfl];exact h
theorem vA {w:World} {B e sz n:Nat} {v:Value} {xs:List Value} (h:w.ownsRow B e sz v n xs) {k:Nat} (hk:v.ownBlock=some k): ∃ cap cur,v= .slice (some ⟨k,0,none⟩) n cap∧B≤k∧w.heap[k]? =some (.cells cur e (0,0))∧n≤cap∧cap≤maxLen∧cur.size=cap*sz∧cur.toList.take (n*sz)=xs:=by
 rcases h.2 with⟨rfl,_⟩|⟨g,cap,cur,rfl,r⟩
 ·cases hk
 ·have e:g=k:=bf hk;subst e;exact⟨cap,cur,rfl,r⟩
def own (v:Value) (e sz n:Nat) (xs:List Value):Ent where
 iD:=true
 jE k:=v.ownBlock=some k
 holds w:=w.ownsRow 0 e sz v n xs
 lt h hk:=by obtain⟨_,_,_,_,hg,_⟩:=vA h hk;exact TY hg
 keep {w w'} h _ _ _ _ hb:=by
  refine⟨h.1, ?_⟩;rcases h.2 with hn|⟨g,cap,cur,rfl,h0,hg,r⟩
  ·exact .inl hn
  ·exact .inr ⟨g,cap,cur,rfl,h0,by rw[hb g rfl];exact hg,r⟩
theorem PD {w:World} {sz:Nat} {v:Value} {rows:List (List Value)} (h:bM w sz v rows) (hr:rows≠[]): ∃ b off cap,v= .slice (some ⟨b,off,none⟩) rows.length cap∧b<w.heap.size:=by
 rcases h with⟨h0,_⟩|⟨b,off,cap,hv,_,_,_,hb,_⟩
 ·exact absurd h0 hr
 ·exact⟨b,off,cap,hv,hb⟩
def sl (sz:Nat) (v:Value) (rows:List (List Value)):Ent where
 iD:=false
 jE k:=rows≠[]∧v.ownBlock=some k
 holds w:=bM w sz v rows
 lt h hk:=by
  obtain⟨b,off,cap,rfl,hb⟩:=PD h hk.1;have e:b=_:=bf hk.2;subst e;exact hb
 keep {w w'} h _ _ _ hs hb:=by
  rcases h with h|⟨b,off,cap,rfl,h1,h2,h3,h4,h5⟩
  ·exact .inl h
  ·refine .inr ⟨b,off,cap,rfl,h1,h2,h3,ab h4 hs,fun i r hi=>⟨(h5 i r hi).1,fun j x hj=> ?_⟩⟩;have hne:rows≠[]:=by intro e;subst e;simp at h3
   have:=(h5 i r hi).2 j x hj;rw[World.cell?_of_block (w:=w) (hb b ⟨hne,rfl⟩)];exact this
def gH (W:World):Ent where
 iD:=false
 jE k:=k<W.heap.size
 holds w:=Below W.heap.size W w
 lt h hk:=ab hk h.size
 keep h h1 h2 h3 h4 hb:=h.trans ⟨h1,h2,h3,h4,fun k hk=>hb k hk⟩
def Qt (P:Program) (n:Nat) (o:Oper) (F:dF) (H:List Ent) (v:Value):Prop:= ∀ a w,Ok F n a→aD H w→(execOp a.eval o).run P w= .ok (.value v) w
def cJ (P:Program) (n:Nat) (o:Oper) (F:dF) (H:List Ent) (K:Value→List Ent→Prop):Prop:=
 ∀ (Q:eP) a w (next:Act→World→Prop),Ok F n a→aD H w→(∀ v H' w',K v H'→aD H' w'→next (a.put o.dst v) w')→o.wp P a w next Q
section
variable {P:Program} {Q:eP} {n:Nat} {F:dF} {H:List Ent} {ops:Array Oper} {o:Oper} {rest:List Oper}
theorem gV {v:Value} (h:Qt P n o F H v):cJ P n o F H fun u H'=>u=v∧H'=H:=fun Q a w next ha hw hn=>by
 unfold Oper.wp;rw[h a w ha hw];exact hn v H w ⟨rfl,rfl⟩ hw
def nG (ops:Array Oper) (j:Nat):Option Nat:=(ops[j]?).bind (·.dst)
theorem rP {j t:Nat} {b:Bool} {a:Act} (ha:Ok F n a) (hs:nG ops j=some t) (hv:look F t=some (.bool b)):yielded ops a.tmps j=some b:=by
 have h1:ops[j]?.bind (·.dst)=some t:=hs;unfold yielded;rw[h1];simp [ha.slot t _ hv]
inductive kR (ops:Array Oper) (F:dF) (o:Oper):Prop
 |none:o.guard=none→kR ops F o
 |on {j t b}:o.guard=some (j,b)→nG ops j=some t→look F t=some (.bool b)→kR ops F o
theorem kR.wanted {a:Act} (h:kR ops F o) (ha:Ok F n a):Region.wanted o (yielded ops a.tmps)=true:=by
 cases h with
 |none h=>simp [Region.wanted,h]
 |on h1 h2 h3=>simp [Region.wanted,h1,rP ha h2 h3]
theorem TZ {K:Value→List Ent→Prop} (hg:kR ops F o) (hd:fits n o.dst=true) (h:cJ P n o F H K) (k: ∀ v H',K v H'→cG P ops Q n rest (pA F o.dst v) H'):cG P ops Q n (o::rest) F H:=
 fun a w ha hw=>wpList_step fun K' hK=>by
  rw[if_pos (hg.wanted ha)];exact h Q a w K' ha hw fun v H' w' hk hw'=>hK _ _ (k v H' hk _ _ (ha.put hd) hw')
theorem JL {v:Value} (hg:kR ops F o) (hd:fits n o.dst=true) (h:Qt P n o F H v) (k:cG P ops Q n rest (pA F o.dst v) H):cG P ops Q n (o::rest) F H:=
 TZ hg hd (gV h) fun u H' ⟨h1,h2⟩=>by subst h1;subst h2;exact k
theorem dJ {d:Nat} {op:Op} {ty:TypeId} {ps:String} {af:Array Edge} {g:Option (Nat×Bool)} {v:Value} (hg:kR ops F ⟨some d,op,ty,ps,af,g⟩) (hd:bh d n=true) (h:Qt P n ⟨some d,op,ty,ps,af,g⟩ F H v) (k:cG P ops Q n rest ((d,v)::F) H):cG P ops Q n (⟨some d,op,ty,ps,af,g⟩::rest) F H:=JL hg hd h k
theorem aI {d:Nat} {op:Op} {ty:TypeId} {ps:String} {af:Array Edge} {g:Option (Nat×Bool)} {K:Value→List Ent→Prop} (hg:kR ops F ⟨some d,op,ty,ps,af,g⟩) (hd:bh d n=true) (h:cJ P n ⟨some d,op,ty,ps,af,g⟩ F H K) (k: ∀ v H',K v H'→cG P ops Q n rest ((d,v)::F) H'):cG P ops Q n (⟨some d,op,ty,ps,af,g⟩::rest) F H:=TZ hg hd h k
theorem cM {op:Op} {ty:TypeId} {ps:String} {af:Array Edge} {g:Option (Nat×Bool)} {K:Value→List Ent→Prop} (hg:kR ops F ⟨none,op,ty,ps,af,g⟩) (h:cJ P n ⟨none,op,ty,ps,af,g⟩ F H K) (k: ∀ v H',K v H'→cG P ops Q n rest F H'):cG P ops Q n (⟨none,op,ty,ps,af,g⟩::rest) F H:=TZ hg rfl h k
theorem agY {j t:Nat} {b:Bool} (hg:o.guard=some (j,b)) (hs:nG ops j=some t) (hv:look F t=some (.bool (!b))) (hd:fits n o.dst=true) (k:cG P ops Q n rest (pA F o.dst undef) H):cG P ops Q n (o::rest) F H:=
 fun a w ha hw=>wpList_step fun K' hK=>by
  have: ¬ Region.wanted o (yielded ops a.tmps)=true:=by
   simp only[Region.wanted,hg,rP ha hs hv];cases b<;>simp
  rw[if_neg this];exact hK _ _ (k _ _ (ha.put hd) hw)
theorem XG {d:Nat} {op:Op} {ty:TypeId} {ps:String} {af:Array Edge} {j t:Nat} {b:Bool} (hs:nG ops j=some t) (hv:look F t=some (.bool (!b))) (hd:bh d n=true) (k:cG P ops Q n rest ((d,undef)::F) H):cG P ops Q n (⟨some d,op,ty,ps,af,some (j,b)⟩::rest) F H:=agY rfl hs hv hd k
theorem XH {op:Op} {ty:TypeId} {ps:String} {af:Array Edge} {j t:Nat} {b:Bool} (hs:nG ops j=some t) (hv:look F t=some (.bool (!b))) (k:cG P ops Q n rest F H):cG P ops Q n (⟨none,op,ty,ps,af,some (j,b)⟩::rest) F H:=agY rfl hs hv rfl k
variable {x y z:Operand} {v u:Value}
theorem cD (ho:o.op= .move x) (hx:ev F x=some v):Qt P n o F H v:=fun a w ha _=>by simp [execOp,ho,ha.eval hx]
theorem yU (ho:o.op= .assign x) (hx:ev F x=some v):Qt P n o F H v:=fun a w ha _=>by simp [execOp,ho,ha.eval hx]
theorem XI (ho:o.op= .pick x y z) (hx:ev F x=some (.bool true)) (hy:ev F y=some v):Qt P n o F H v:=fun a w ha _=>by simp [execOp,ho,ha.eval hx,ha.eval hy,asBool]
theorem XJ (ho:o.op= .pick x y z) (hx:ev F x=some (.bool false)) (hz:ev F z=some v):Qt P n o F H v:=fun a w ha _=>by simp [execOp,ho,ha.eval hx,ha.eval hz,asBool]
theorem aBW {b:Bool} {T:TypeId} (ho:o.op= .unOp .not T x) (hx:ev F x=some (.bool b)):Qt P n o F H (.bool (!b)):=fun a w ha _=>by simp [execOp,ho,ha.eval hx,Op.unary]
theorem agZ {T:TypeId} (ho:o.op= .unOp .not T x) (hx:ev F x=some (.bool true)):Qt P n o F H (.bool false):=aBW ho hx
theorem ahA {T:TypeId} (ho:o.op= .unOp .not T x) (hx:ev F x=some (.bool false)):Qt P n o F H (.bool true):=aBW ho hx
theorem QA {i:Nat} {vs:Array Value} (ho:o.op= .extract x i) (hx:ev F x=some (.tuple vs)) (hi:vs[i]? =some v):Qt P n o F H v:=fun a w ha _=>by simp [execOp,ho,ha.eval hx,Instr.extract,hi]
section ints
variable {k:IntKind} {i j:Int} {T T':TypeId}
theorem UA {op:BinOp} {r:Int} (ho:o.op= .binOp op T x y T') (hx:ev F x=some (.int k i)) (hy:ev F y=some (.int k j)) (xB:op= .add∧r=i+j∨op= .sub∧r=i-j∨op= .mul∧r=i*j) (hw:k.wrap r=r):Qt P n o F H (.int k r):=fun a w ha _=>by
 rcases xB with⟨rfl,rfl⟩|⟨rfl,rfl⟩|⟨rfl,rfl⟩<;>simp [execOp,ho,ha.eval hx,ha.eval hy,eqGuard,binOp,Op.intArith,hw]
theorem ES (ho:o.op= .binOp .add T x y T') (hx:ev F x=some (.int .i64 i)) (hy:ev F y=some (.int .i64 j)) (h: -9223372036854775808≤i+j∧i+j≤9223372036854775807):Qt P n o F H (.int .i64 (i+j)):=UA ho hx hy (.inl ⟨rfl,rfl⟩) (IntWalk.i64_in _ h)
theorem QB (ho:o.op= .binOp .sub T x y T') (hx:ev F x=some (.int .i64 i)) (hy:ev F y=some (.int .i64 j)) (h: -9223372036854775808≤i-j∧i-j≤9223372036854775807):Qt P n o F H (.int .i64 (i-j)):=UA ho hx hy (.inr (.inl ⟨rfl,rfl⟩)) (IntWalk.i64_in _ h)
theorem aBX (ho:o.op= .binOp .mul T x y T') (hx:ev F x=some (.int .i64 i)) (hy:ev F y=some (.int .i64 j)) (h: -9223372036854775808≤i*j∧i*j≤9223372036854775807):Qt P n o F H (.int .i64 (i*j)):=UA ho hx hy (.inr (.inr ⟨rfl,rfl⟩)) (IntWalk.i64_in _ h)
theorem axU (ho:o.op= .binOp .add T x y T') (hx:ev F x=some (.int k i)) (hy:ev F y=some (.int k j)):Qt P n o F H (.int k (k.wrap (i+j))):=fun a w ha _=>by simp [execOp,ho,ha.eval hx,ha.eval hy,eqGuard,binOp,Op.intArith]
theorem axV (ho:o.op= .binOp .sub T x y T') (hx:ev F x=some (.int k i)) (hy:ev F y=some (.int k j)):Qt P n o F H (.int k (k.wrap (i-j))):=fun a w ha _=>by simp [execOp,ho,ha.eval hx,ha.eval hy,eqGuard,binOp,Op.intArith]
theorem axW (ho:o.op= .binOp .mul T x y T') (hx:ev F x=some (.int k i)) (hy:ev F y=some (.int k j)):Qt P n o F H (.int k (k.wrap (i*j))):=fun a w ha _=>by simp [execOp,ho,ha.eval hx,ha.eval hy,eqGuard,binOp,Op.intArith]
def dS:BinOp→Int→Int→Bool
 | .eql,i,j=>i==j
 | .neq,i,j=>i !=j
 | .lss,i,j=>decide (i<j)
 | .leq,i,j=>decide (i≤j)
 | .gtr,i,j=>decide (i>j)
 | .geq,i,j=>decide (i ≥ j)
 |_,_,_=>false
def ahB:BinOp→Bool
 | .eql| .neq| .lss| .leq| .gtr| .geq=>true
 |_=>false
theorem aFU {op:BinOp} (ho:o.op= .binOp op T x y T') (hc:ahB op=true) (hx:ev F x=some (.int k i)) (hy:ev F y=some (.int k j)):Qt P n o F H (.bool (dS op i j)):=fun a w ha _=>by
 cases op<;>(first|(cases hc;done)|simp [execOp,ho,ha.eval hx,ha.eval hy,eqGuard,binOp,Op.intCmp,dS])
theorem vC {op:BinOp} {b:Bool} (ho:o.op= .binOp op T x y T') (hc:ahB op=true) (hx:ev F x=some (.int k i)) (hy:ev F y=some (.int k j)) (h:dS op i j=b):Qt P n o F H (.bool b):=h ▸ aFU ho hc hx hy
theorem aBY (h:i=j):dS .eql i j=true:=by simp [dS,h]
theorem aBZ (h:i≠j):dS .eql i j=false:=by simp [dS,h]
theorem aCA (h:i≠j):dS .neq i j=true:=by simp [dS,h]
theorem aCB (h:i=j):dS .neq i j=false:=by simp [dS,h]
theorem aCC (h:i<j):dS .lss i j=true:=by simp [dS,h]
theorem aCD (h:j≤i):dS .lss i j=false:=by simp [dS,h]
theorem aCE (h:i≤j):dS .leq i j=true:=by simp [dS,h]
theorem aCF (h:j<i):dS .leq i j=false:=by simp [dS];omega
theorem aCG (h:j<i):dS .gtr i j=true:=by simp [dS,h]
theorem aCH (h:i≤j):dS .gtr i j=false:=by simp [dS];omega
theorem aCI (h:j≤i):dS .geq i j=true:=by simp [dS,h]
theorem aCJ (h:i<j):dS .geq i j=false:=by simp [dS];omega
theorem qF {op:BinOp} (hg:kR ops F o) (hd:fits n o.dst=true) (ho:o.op= .binOp op T x y T') (hc:ahB op=true) (hx:ev F x=some (.int k i)) (hy:ev F y=some (.int k j)) (h1:dS op i j=true→cG P ops Q n rest (pA F o.dst (.bool true)) H) (h2:dS op i j=false→cG P ops Q n rest (pA F o.dst (.bool false)) H):cG P ops Q n (o::rest) F H:=by
 cases hb:dS op i j with
 |true=>exact JL hg hd (vC ho hc hx hy hb) (h1 hb)
 |false=>exact JL hg hd (vC ho hc hx hy hb) (h2 hb)
theorem aqK (h:dS .eql i j=true):i=j:=by simpa [dS] using h
theorem ahC (h:dS .eql i j=false):i≠j:=by simpa [dS] using h
theorem aqL (h:dS .neq i j=true):i≠j:=by simpa [dS] using h
theorem ahD (h:dS .neq i j=false):i=j:=by simpa [dS] using h
theorem aqM (h:dS .lss i j=true):i<j:=by simpa [dS] using h
theorem ahE (h:dS .lss i j=false):j≤i:=by simpa [dS] using h
theorem aqN (h:dS .leq i j=true):i≤j:=by simpa [dS] using h
theorem ahF (h:dS .leq i j=false):j<i:=by simpa [dS] using h
theorem aqO (h:dS .gtr i j=true):j<i:=by simpa [dS] using h
theorem ahG (h:dS .gtr i j=false):i≤j:=by simpa [dS] using h
theorem aqP (h:dS .geq i j=true):j≤i:=by simpa [dS] using h
theorem ahH (h:dS .geq i j=false):i<j:=by simpa [dS] using h
end ints
end
end Go.Proofs.YtbjalbcdbgcgdaaGreat.sl
