/- Law HandStale: its texts, packed. -/
import Derived.Test.YtbjalbcdbgcgdaaGreatK04
import Derived.Laws.Strings2
import Derived.Laws.Strings3
import Derived.Laws.Concat
import Derived.Laws.BytesArg
open List renaming Perm.refl->gj,getElem?_eq_getElem->aj,getElem?_take->bp,map_take->gk,mem_append->ft,mem_append_left->gh,mem_cons->aw,mem_map->fu,pairwise_append->fp,pairwise_cons->au,sublist_append_right->fy
open Nat renaming ble->dv,blt->bh,le_of_ble_eq_true->bu,min_eq_left->gi
open Int renaming toNat_natCast->fq
open Option renaming map_none->fw,map_some->fv
open UInt8 renaming ofNat->gl
open ByteArray renaming copySlice->gm,ext->fo,extract->gp,size->ar
open Array renaming replicate->fm
open Bool renaming not_false->gd
set_option linter.unusedVariables false
set_option maxRecDepth 100000
set_option maxHeartbeats 8000000
namespace Go.Proofs.YtbjalbcdbgcgdaaGreat.sl
open Go.RowKit bG
theorem aCN (a v:Value) (l:List Value):(a::l).set 0 v=v::l:=rfl
theorem aFW {a v:Value} {l l':List Value} {i:Nat} (h:l.set i v=l'):(a::l).set (i+1) v=a::l':=by rw[←h];rfl
def fro (e:Ent):Ent:={ e with iD:=false }
structure View (S:List Ent) (c:Ent):Prop where
 shared:c.iD=false
 holds: ∀ w,aD S w→c.holds w
 jE: ∀ b,c.jE b→ ∃ e∈S,e.jE b
theorem View.same {S R:List Ent} {e:Ent} (p:bF e S R) (h:e.iD=false):View S e:=⟨h,fun w hw=>hw.1 e p.mem,fun b hb=>⟨e,p.mem,hb⟩⟩
theorem View.own {S R:List Ent} {e sz m:Nat} {α:Type} {f:α→List Value} {ys:List α} {v:Value} (p:bF (own v e sz m (flat f ys)) S R) (hf: ∀ y,(f y).length=sz) (hm:m=ys.length):View S (sl sz v (ys.map f)):=
 ⟨rfl,fun w hw=>rO hf hm (hw.1 _ p.mem),fun b hb=>⟨_,p.mem,hb.2⟩⟩
theorem ahK {w:World} {sz n c m:Nat} {q:Option Addr} {α:Type} {f:α→List Value} {xs:List α} (h:bM w sz (.slice q n c) (xs.map f)) (hm:m≤xs.length):bM w sz (.slice q m c) ((xs.take m).map f):=by
 rcases h with⟨h0,h1⟩|⟨b,off,cap,hv,h2,h3,h4,h5,h6⟩
 ·have hx:xs=[]:=by simpa using h0
  subst hx;have hm0:m=0:=by simpa using hm
  subst hm0;refine .inl ⟨rfl, ?_⟩;rcases h1 with h1|⟨a,cap,h1⟩
  ·cases h1;exact .inl rfl
  ·cases h1;exact .inr ⟨_,_,rfl⟩
 ·cases hv;by_cases h0:m=0
  ·subst h0;exact .inl ⟨rfl, .inr ⟨_,_,rfl⟩⟩
  ·have hl:((xs.take m).map f).length=m:=by simp;omega
   simp only[List.length_map] at h2;refine .inr ⟨b,off,c,by rw[hl],by omega,h3,by omega,h5,fun i r hr=>h6 i r ?_⟩;rw[gk,bp] at hr;split at hr
   ·exact hr
   ·cases hr
theorem View.part {S R:List Ent} {sz n c m:Nat} {q:Option Addr} {α:Type} {f:α→List Value} {xs:List α} (p:bF (sl sz (.slice q n c) (xs.map f)) S R) (hm:m≤xs.length):View S (sl sz (.slice q m c) ((xs.take m).map f)):=
 ⟨rfl, fun w hw => ahK (hw.1 _ p.mem) hm, fun b hb => ⟨_, p.mem, fun e => hb.1 (by rw [gk, e]; simp), by
  have h2 := hb.2;cases q <;> exact h2⟩⟩
theorem View.emp {S:List Ent} {sz:Nat} {α:Type} {f:α→List Value} {xs:List α} (hx:xs=[]):View S (sl sz (.slice none 0 0) (xs.map f)):=by
 subst hx;exact⟨rfl,fun w _=> .inl ⟨rfl, .inl rfl⟩,fun b hb=>absurd rfl hb.1⟩
inductive Lp:List Ent→List Ent→List Ent→Prop
 |nil {H}:Lp [] H H
 |view {c C H S}:c.iD=false→Lp C H S→View S c→Lp (c::C) H S
 |out {e C H R S}:bF e H R→Lp C R S→Lp (e::C) H S
theorem Lp.parts {C H S:List Ent} (p:Lp C H S): ∃ O V,C.Perm (O++V)∧H.Perm (O++S)∧ ∀ c∈V,View S c:=by
 induction p with
 |nil=>exact⟨[],[],gj _,gj _,fun c hc=>by cases hc⟩
 | @view c C H S _ _ hv ih=>
  obtain⟨O,V,h1,h2,h3⟩:=ih;refine⟨O,c::V,(h1.cons c).trans List.perm_middle.symm,h2,fun d hd=> ?_⟩;rcases aw.1 hd with rfl|hd
  ·exact hv
  ·exact h3 d hd
 |out p _ ih=>
  obtain⟨O,V,h1,h2,h3⟩:=ih;exact⟨_::O,V,h1.cons _,p.perm.trans (h2.cons _),h3⟩
theorem Lp.ok {C H S:List Ent} (p:Lp C H S) {w:World} (h:aD H w):aD (C++S.map fro) w:=by
 obtain⟨O,V,h1,h2,h3⟩:=p.parts;have hh:=h.perm h2;have hS:aD S w:=hh.sub (fy _ _);refine aD.perm (h1.symm.append_right _) ?_;have hp:=fp.1 hh.2;have hV: ∀ c∈V,c.iD=false:=fun c hc=>(h3 c hc).shared
 refine⟨fun e he=> ?_, ?_⟩
 ·rcases ft.1 he with he|he
  ·rcases ft.1 he with he|he
   ·exact hh.1 e (gh _ he)
   ·exact (h3 e he).holds w hS
  ·obtain⟨g,hg,rfl⟩:=fu.1 he;exact hS.1 g hg
 ·rw[List.append_assoc];refine fp.2 ⟨hp.1,fp.2 ⟨?_, ?_, ?_⟩, ?_⟩
  ·exact List.Pairwise.imp_of_mem (R:=fun _ _=>True) (fun {a b} ha hb _ hx=>by rw[hV a ha,hV b hb] at hx;rcases hx with hx|hx<;>cases hx) (List.pairwise_of_forall (fun _ _=>trivial))
  ·refine List.Pairwise.map _ (fun a b _ hx=> ?_) hp.2.1;rcases hx with hx|hx<;>cases hx
  ·intro c hc d hd hx;obtain⟨g,hg,rfl⟩:=fu.1 hd;rw[hV c hc] at hx;rcases hx with hx|hx<;>cases hx
  ·intro o ho c hc hx b h4 h5;rcases ft.1 hc with hc|hc
   ·obtain⟨g,hg,h6⟩:=(h3 c hc).jE b h5;rw[hV c hc] at hx;rcases hx with hx|hx
    ·exact hp.2.2 o ho g hg (.inl hx) b h4 h6
    ·cases hx
   ·obtain⟨g,hg,rfl⟩:=fu.1 hc;rcases hx with hx|hx
    ·exact hp.2.2 o ho g hg (.inl hx) b h4 h5
    ·cases hx
theorem Lp.back {C H S H1:List Ent} (p:Lp C H S) {w w':World} (h:aD H w) (hx: ∀ e∈H1,e.iD=true) (h':aD (H1++S.map fro) w'):aD (H1++S) w':=by
 obtain⟨O,V,h1,h2,h3⟩:=p.parts;have hS:aD S w:=(h.perm h2).sub (fy _ _);have hp:=fp.1 h'.2;refine⟨fun e he=> ?_,fp.2 ⟨hp.1,hS.2,fun a ha b hb _ k h4 h5=> ?_⟩⟩
 ·rcases ft.1 he with he|he
  ·exact h'.1 e (gh _ he)
  ·exact h'.1 (fro e) (List.mem_append_right _ (fu.2 ⟨e,he,rfl⟩))
 ·exact hp.2.2 a ha (fro b) (fu.2 ⟨b,hb,rfl⟩) (.inl (hx a ha)) k h4 h5
class XL (L:List Ent):Prop where
 h: ∀ e∈L,e.iD=true
instance:XL []:=⟨fun e he=>by cases he⟩
instance {v : Value} {e sz m : Nat} {xs : List Value} {L : List Ent} [hl : XL L] : XL (own v e sz m xs :: L) := ⟨fun g hg => by
 rcases aw.1 hg with rfl|hg
 ·rfl
 ·exact hl.h g hg⟩
instance {b : Nat} {cs : List Value} {t : TypeId} {L : List Ent} [hl : XL L] : XL (box b cs t :: L) := ⟨fun g hg => by
 rcases aw.1 hg with rfl|hg
 ·rfl
 ·exact hl.h g hg⟩
class Xcl (R:Value→List Ent→Prop):Prop where
 h: ∀ v H,R v H→ ∀ e∈H,e.iD=true
instance {p:Value→Prop} {L:List Ent} [hl:XL L]:Xcl fun v H'=>p v∧H'=L:=⟨fun v H h=>by rw[h.2];exact hl.h⟩
instance {α:Sort _} {R:α→Value→List Ent→Prop} [hr: ∀ a,Xcl (R a)]:Xcl fun v H'=> ∃ a,R a v H':=⟨fun v H ⟨a,h⟩=>(hr a).h v H h⟩
instance {R R' : Value → List Ent → Prop} [hr : Xcl R] [hr' : Xcl R'] : Xcl fun v H' => R v H' ∨ R' v H' := ⟨fun v H h => by
 rcases h with h|h
 ·exact hr.h v H h
 ·exact hr'.h v H h⟩
instance {p:Prop} {R:Value→List Ent→Prop} [hr:Xcl R]:Xcl fun v H'=>p∧R v H':=⟨fun v H h=>hr.h v H h.2⟩
theorem adH {P:Program} {f:FuncId} {args:List Value} {H:List Ent} {R R':Value→List Ent→Prop} (h:Ct P f args H R) (hi: ∀ v H',R v H'→R' v H'):Ct P f args H R':=
 ⟨fun Fr w hw=>(h.go Fr w hw).mono fun e w' ⟨v,H',h1,h2,h3⟩=>⟨v,H',h1,hi v H' h2,h3⟩⟩
def cZ:Op→Nat
 | .move _=>1
 | .assign _=>1
 | .pick _ _ _=>1
 | .extract _ _=>1
 | .load _ _=>2
 | .fieldAddr _ _ _=>3
 | .indexAddr _ _ _=>3
 | .field _ _ _=>3
 | .index _ _ _=>3
 | .nilCheck _=>3
 | .binOp _ _ _ _ _=>4
 | .unOp _ _ _=>4
 | .build _ _=>5
 | .makeFunc _ _ _=>5
 | .call c=>match c.callee with
  | .builtin _=>6
  |_=>7
 | .alloc _=>8
 | .box _ _=>8
 | .store _ _ _=>9
 | .buildSlice _ _ _=>10
 | .convert _ _ _=>11
 | .slice _ _ _ _ _=>12
 |_=>0
section
variable {P:Program} {n:Nat} {F:dF} {H R:List Ent} {o:Oper} {x y z:Operand} {v u z':Value} {T:TypeId}
def Cut {σ:Type} (n:Nat) (I:σ→Prop) (Fi:σ→dF) (Hi:σ→List Ent):eP:=fun e a w=>e= .normal∧ ∃ y,I y∧Ok (Fi y) n a∧aD (Hi y) w
theorem ayJ {c:Code} {Q:eP} {σ:Type} (I:σ→Prop) (G:σ→dF) (E:σ→List Ent) (F0:dF) (S:List Ent) (first:dC P (Cut n I (fun x=>G x++F0) (fun x=>E x++S)) n c F H) (rest: ∀ x,I x→dG Q .normal n (G x++F0) (E x++S)):dC P Q n c F H:=
 fun a w ha hw=>wp_mono (first a w ha hw) fun e a w ⟨he,x,hI,hF,hH⟩=>by subst he;exact rest x hI a w hF hH
theorem nQ (d:Nat) {c:Code} {Q:eP} {σ:Type} (I:σ→Prop) (G:σ→dF) (E:σ→List Ent) (first:dC P (Cut n I (fun x=>G x++F) (fun x=>E x++H.drop d)) n c F H) (rest: ∀ x,I x→dG Q .normal n (G x++F) (E x++H.drop d)):dC P Q n c F H:=ayJ I G E F (H.drop d) first rest
theorem pH {σ:Type} {I:σ→Prop} {Fi:σ→dF} {Hi:σ→List Ent} (y:σ) (hI:I y) (hF:jB F (Fi y)) (hH:HSub H (Hi y)):dG (Cut n I Fi Hi) .normal n F H:=fun a w ha hw=>⟨rfl,y,hI,ha.sub hF,hH w hw⟩
theorem vG {t e sz by' N c m:Nat} {agg:Bool} {q:Option Addr} {k:IntKind} {j:Int} {rows:List (List Value)} [ht:nH P t e] [hs:Ty P e agg sz by' z'] (ho:o.op= .slice t x none (some y) none) (hx:ev F x=some (.slice q N c)) (hy:ev F y=some (.int k j)) (p:bF (sl sz (.slice q N c) rows) H R) (hj:j=(m:Int)) (hm:m≤N):Qt P n o F H (.slice q m c):=fun a w ha hw=>by
 subst hj;have hb:bM w sz (.slice q N c) rows:=hw.1 _ p.mem;have hc:m≤c:=by
  rcases hb with⟨_,h1⟩|⟨b,off,cap,hv,h2,_⟩
  ·rcases h1 with h1|⟨a,cap,h1⟩
   ·cases h1;exact hm
   ·cases h1;omega
  ·cases hv;omega
 have he:P.elem t=e:=by simp [Program.elem,ht.h]
 have hu:P.underlying t=some (.slice (P.elem t)):=by rw[he];exact ht.h
 have h1:=run_slice_h (P:=P) w t q N c hu k (m:Int) (by omega) (by omega);rw[he,cV hs] at h1;have hv:sliced q 0 ((m:Int)).toNat c sz= .slice q m c:=by
  simp [sliced,Addr.add]
 simp only[Result.andThen_ok,hv] at h1;simp only[execOp,ho,fv,fw,ha.eval hx,ha.eval hy,Sem.run_bind,Sem.run_pure,run_sliceAt_slice w t _ _ _ _ hu,h1,Result.andThen_ok]
theorem gK (kd:Nat) {ops:Array Oper} {Q:eP} {rest:List Oper} {d:Nat} {op:Op} {ty:TypeId} {ps:String} {af:Array Edge} {g:Option (Nat×Bool)} {v:Value} (hk:cZ op=kd) (hg:kR ops F ⟨some d,op,ty,ps,af,g⟩) (hd:bh d n=true) (h:Qt P n ⟨some d,op,ty,ps,af,g⟩ F H v) (k:cG P ops Q n rest ((d,v)::F) H):cG P ops Q n (⟨some d,op,ty,ps,af,g⟩::rest) F H:=dJ hg hd h k
theorem rU (kd:Nat) {ops:Array Oper} {Q:eP} {rest:List Oper} {d:Nat} {op:Op} {ty:TypeId} {ps:String} {af:Array Edge} {g:Option (Nat×Bool)} {K:Value→List Ent→Prop} (hk:cZ op=kd) (hg:kR ops F ⟨some d,op,ty,ps,af,g⟩) (hd:bh d n=true) (h:cJ P n ⟨some d,op,ty,ps,af,g⟩ F H K) (k: ∀ v H',K v H'→cG P ops Q n rest ((d,v)::F) H'):cG P ops Q n (⟨some d,op,ty,ps,af,g⟩::rest) F H:=aI hg hd h k
theorem IE (kd:Nat) {ops:Array Oper} {Q:eP} {rest:List Oper} {op:Op} {ty:TypeId} {ps:String} {af:Array Edge} {g:Option (Nat×Bool)} {K:Value→List Ent→Prop} (hk:cZ op=kd) (hg:kR ops F ⟨none,op,ty,ps,af,g⟩) (h:cJ P n ⟨none,op,ty,ps,af,g⟩ F H K) (k: ∀ v H',K v H'→cG P ops Q n rest F H'):cG P ops Q n (⟨none,op,ty,ps,af,g⟩::rest) F H:=cM hg h k
theorem aV {f:FuncId} [hc:bX P f] {args:List Operand} {ts:Array TypeId} {vs:List Value} {C S:List Ent} {Rs:Value→List Ent→Prop} [hX:Xcl Rs] (ho:o.op= .call { callee:= .value (.func f),args:=args.toArray,argTypes:=ts }) (hs:Ct P f vs C Rs) (hv:UD F args=some vs) (p:Lp C H S):cJ P n o F H fun v H'=> ∃ H1,Rs v H1∧H'=H1++S:=fun Q a w next ha hw hn=>by
 have he:=mR ha hv;have e1:args.toArray.map a.eval=vs.toArray:=by simpa using he
 unfold Oper.wp;simp only[execOp,ho,resolve,Deferred.ofValue,Act.eval,invoke,e1,Sem.run_bind,Sem.run_pure,Result.andThen_ok,lD];simp only[Array.append_empty,List.append_toArray,List.nil_append,Oper.upon];refine (hs.go _ w (p.ok hw)).mono ?_;rintro e w' ⟨v,H1,rfl,h1,h2⟩;exact hn v _ w' ⟨H1,h1,rfl⟩ (p.back hw (hX.h v H1 h1) h2)
theorem pJ {f:FuncId} [hc:bX P f] {args:List Operand} {ts:Array TypeId} {vs:List Value} {C S:List Ent} {u:Value} (ho:o.op= .call { callee:= .value (.func f),args:=args.toArray,argTypes:=ts }) (hs:Ct P f vs C fun v H'=>v=u∧H'=[]) (hv:UD F args=some vs) (p:Lp C H S):cJ P n o F H fun v H'=>v=u∧H'=S:=fun Q a w next ha hw hn=>
 aV ho hs hv p Q a w next ha hw fun v H' w' ⟨H1,⟨h1,h2⟩,h3⟩ hw'=>hn v H' w' ⟨h1,by rw[h3,h2];rfl⟩ hw'
end
section
variable {P:Program} {ops:Array Oper} {Q:eP} {n:Nat} {Hq:List Ent} {nk:List Nat} {k:Nat} {L:Array Bool} {F:dF} {H:List Ent}
def akO (l:List Nat) (P:Program) (ops:Array Oper) (Q:eP) (n:Nat) (Hq:List Ent) (nk:List Nat) (k:Nat) (L:Array Bool) (F:dF) (H:List Ent):Prop:=eO P ops Q n Hq nk k L F H
theorem JU (l:List Nat) (h:akO l P ops Q n Hq nk k L F H):eO P ops Q n Hq nk k L F H:=h
theorem XU (h:eO P ops Q n Hq nk k L F H):akO [] P ops Q n Hq nk k L F H:=h
theorem QI {i:Nat} {l:List Nat} {d:Nat} {op:Op} {ty:TypeId} {ps:String} {af:Array Edge} {g:Option (Nat×Bool)} {v:Value} (hi:ops[i]? =some ⟨some d,op,ty,ps,af,g⟩) (hg:kR ops F ⟨some d,op,ty,ps,af,g⟩) (hb:eV ops nk L i=true) (hs:HSub H Hq) (hd:bh d n=true) (hq:Qt P n ⟨some d,op,ty,ps,af,g⟩ F Hq v) (h:akO l P ops Q n Hq nk k (L.setIfInBounds i true) ((d,v)::F) H):akO (i::l) P ops Q n Hq nk (k+1) L F H:=rS i hi hg hb hs hd hq h
theorem XV {i:Nat} {l:List Nat} {d:Nat} {op:Op} {ty:TypeId} {ps:String} {af:Array Edge} {j t:Nat} {b:Bool} (hi:ops[i]? =some ⟨some d,op,ty,ps,af,some (j,b)⟩) (hsl:nG ops j=some t) (hv:look F t=some (.bool (!b))) (hb:eV ops nk L i=true) (hs:HSub H Hq) (hd:bh d n=true) (h:akO l P ops Q n Hq nk k (L.setIfInBounds i true) ((d,undef)::F) H):akO (i::l) P ops Q n Hq nk (k+1) L F H:=QF i hi hsl hv hb hs hd h
end
theorem aDG {W:World}: ∀ e∈([]:List Ent),e.iD=false∧e.holds W:=fun e he=>by cases he
inductive CJ:List Ent→List Ent→Prop
 |refl {T}:CJ T T
 |nil {e sz T T'}:CJ T T'→CJ (own (.slice none 0 0) e sz 0 []::T) T'
 |cons {x T T'}:CJ T T'→CJ (x::T) (x::T')
theorem CJ.mem {T T':List Ent} (h:CJ T T'): ∀ x∈T,x∈T'∨ ∀ b, ¬ x.jE b:=by
 induction h with
 |refl=>exact fun x hx=> .inl hx
 |nil _ ih=>
  intro x hx;rcases aw.1 hx with rfl|hx
  ·exact .inr fun b hb=>by cases hb
  ·exact ih x hx
 |cons _ ih=>
  intro x hx;rcases aw.1 hx with rfl|hx
  ·exact .inl List.mem_cons_self
  ·exact (ih x hx).imp (List.mem_cons_of_mem _) id
theorem CJ.ok {T T':List Ent} (h:CJ T T') {w:World} (hw:aD T' w):aD T w:=by
 induction h with
 |refl=>exact hw
 |nil _ ih=>exact aY _ _ _ w (ih hw)
 |cons h0 ih=>
  have h1:=ih hw.tail;have hp:=au.1 hw.2;refine⟨fun f hf=> ?_,au.2 ⟨fun f hf hx b h2 h3=> ?_,h1.2⟩⟩
  ·rcases aw.1 hf with rfl|hf
   ·exact hw.head
   ·exact h1.1 f hf
  ·rcases h0.mem f hf with h4|h4
   ·exact hp.1 f h4 hx b h2 h3
   ·exact h4 b h3
theorem HSub.ayK {H T T':List Ent} (n:CJ T T') (h:HSub H T'):HSub H T:=fun w hw=>n.ok (h w hw)
theorem aN {e:Ent} {H R:List Ent} (h:bF e H R:=by ((repeat (first|apply bF.here|apply bF.there));(first|done|fail))):bF e H R:=h
theorem wt {ops:Array Oper} {F:dF} {o:Oper} (h:kR ops F o:=by (first|exact kR.none rfl|exact kR.on rfl rfl rfl)):kR ops F o:=h
theorem akP {l l':List Value} {i:Nat} {v:Value} (h:l.set i v=l':=by (first|((repeat (first|apply aCN|apply aFW));(first|done|fail))|rfl)):l.set i v=l':=h
theorem akQ {l l':List Value} {i:Nat} {v:List Value} (h:eQ l i v=l':=by (first|(simp only[eQ];(first|done|fail))|(simp only[eQ];exact rfl)|rfl)):eQ l i v=l':=h
theorem nfa {a b c:Nat} (h:a+b=c:=by (first|(simp only[Nat.reduceAdd];(first|done|fail))|(simp only[Nat.reduceAdd];exact rfl)|rfl)):a+b=c:=h
theorem lE {pl:Nat→Option (Nat×Nat)} {l:List (Nat×Value)} {cs out:List Value} (h:Bld pl l cs out:=by (repeat (first|apply Bld.nil|(apply yZ;(focus rfl);(focus rfl);(focus rfl);(focus exact akP))|(apply axZ;(focus rfl);(focus rfl);(focus rfl);(focus exact akQ))))):Bld pl l cs out:=h
theorem pca {C H R:List Ent} (h:iE C H R:=by (repeat (first|(apply iE.nil;(focus (apply List.Sublist.refl)))|(apply iE.share;(focus exact aN);(first|exact mL _ _ _|exact qJ _))|(apply iE.out;(focus exact aN))))):iE C H R:=h
theorem PG {C H S:List Ent} (h:Lp C H S:=by ((repeat' (first|apply Lp.nil|(apply Lp.view;(focus (first|exact mL _ _ _|exact qJ _)))|(apply Lp.out;(focus exact aN))|(first|exact View.same (by exact aN) (by first|exact mL _ _ _|exact qJ _)|exact View.emp (by first|rfl|assumption)|exact View.own (by exact aN) (by intro _;rfl) (by first|rfl|assumption|omega|simp)|exact View.part (by exact aN) (by omega)|exact View.front (by exact aN) (by intro _;rfl) (by first|rfl|assumption|omega|simp))));(first|done|fail))):Lp C H S:=h
theorem yP {H T:List Ent} (h:HSub H T:=by (first|exact HSub.refl _|(apply HSub.kC;(focus ((repeat (first|(apply iE.nil;(focus ((repeat (first|apply List.Sublist.refl|apply List.Sublist.cons));(first|done|fail))))|(apply iE.share;(focus exact aN);(first|exact mL _ _ _|exact qJ _))|(apply iE.out;(focus exact aN))));(first|done|fail))))|(apply HSub.aqJ;(focus ((repeat (first|(apply Cov.share;(focus exact aN);(first|exact mL _ _ _|exact qJ _))|(apply Cov.out;(focus exact aN))|(apply Cov.base;(first|exact List.nil_sublist _|((repeat (first|apply List.Sublist.refl|apply List.Sublist.cons));(first|done|fail))))));(first|done|fail))))|(apply HSub.WU;(focus (exact pca;(first|done|fail))))|(apply HSub.nZ;(focus ((repeat (first|apply List.Sublist.refl|apply List.Sublist.cons));(first|done|fail))))|exact HSub.ayK (by (repeat (first|apply CJ.nil|apply CJ.cons));exact CJ.refl) (HSub.aqJ (by (repeat (first|(apply Cov.share;(focus exact aN);(first|exact mL _ _ _|exact qJ _))|(apply Cov.out;(focus exact aN))|(apply Cov.base;(first|exact List.nil_sublist _|((repeat (first|apply List.Sublist.refl|apply List.Sublist.cons));(first|done|fail))))));(first|done|fail))))):HSub H T:=h
theorem iS {H T:List Ent} (h:HSub H T:=by (first|exact HSub.refl _|exact HSub.nil _|exact HSub.drop (HSub.refl _)|exact HSub.drop (HSub.drop (HSub.refl _))|exact HSub.drop (HSub.drop (HSub.drop (HSub.refl _)))|exact HSub.WU (by exact pca;(first|done|fail)))):HSub H T:=h
theorem qK {P:Program} {F:dF} {H:List Ent} {rs:List ResultVar} {v:Value} (h:yT P F H rs v:=by (first|exact yT.r0|(apply yT.r1;(focus (first|exact jC.tmp rfl|(apply eS;(focus rfl);(focus exact aN);(focus rfl))|(apply dZ;(focus rfl);(focus exact aN)))))|(apply yT.r2;(focus (first|exact jC.tmp rfl|(apply eS;(focus rfl);(focus exact aN);(focus rfl))|(apply dZ;(focus rfl);(focus exact aN))));(focus (first|exact jC.tmp rfl|(apply eS;(focus rfl);(focus exact aN);(focus rfl))|(apply dZ;(focus rfl);(focus exact aN)))))|(apply yT.r3;(focus (first|exact jC.tmp rfl|(apply eS;(focus rfl);(focus exact aN);(focus rfl))|(apply dZ;(focus rfl);(focus exact aN))));(focus (first|exact jC.tmp rfl|(apply eS;(focus rfl);(focus exact aN);(focus rfl))|(apply dZ;(focus rfl);(focus exact aN))));(focus (first|exact jC.tmp rfl|(apply eS;(focus rfl);(focus exact aN);(focus rfl))|(apply dZ;(focus rfl);(focus exact aN)))))|(apply yT.r4;(focus (first|exact jC.tmp rfl|(apply eS;(focus rfl);(focus exact aN);(focus rfl))|(apply dZ;(focus rfl);(focus exact aN))));(focus (first|exact jC.tmp rfl|(apply eS;(focus rfl);(focus exact aN);(focus rfl))|(apply dZ;(focus rfl);(focus exact aN))));(focus (first|exact jC.tmp rfl|(apply eS;(focus rfl);(focus exact aN);(focus rfl))|(apply dZ;(focus rfl);(focus exact aN))));(focus (first|exact jC.tmp rfl|(apply eS;(focus rfl);(focus exact aN);(focus rfl))|(apply dZ;(focus rfl);(focus exact aN)))))|(apply yT.r5;(focus (first|exact jC.tmp rfl|(apply eS;(focus rfl);(focus exact aN);(focus rfl))|(apply dZ;(focus rfl);(focus exact aN))));(focus (first|exact jC.tmp rfl|(apply eS;(focus rfl);(focus exact aN);(focus rfl))|(apply dZ;(focus rfl);(focus exact aN))));(focus (first|exact jC.tmp rfl|(apply eS;(focus rfl);(focus exact aN);(focus rfl))|(apply dZ;(focus rfl);(focus exact aN))));(focus (first|exact jC.tmp rfl|(apply eS;(focus rfl);(focus exact aN);(focus rfl))|(apply dZ;(focus rfl);(focus exact aN))));(focus (first|exact jC.tmp rfl|(apply eS;(focus rfl);(focus exact aN);(focus rfl))|(apply dZ;(focus rfl);(focus exact aN))))))):yT P F H rs v:=h
theorem gA {F G:dF} {l:List Nat} (h:nF F l G:=by (repeat' (first|exact nF.nil|refine nF.skip rfl ?_|refine nF.cons (by rfl) ?_|refine nF.cons ?_ ?_))):nF F l G:=h
theorem qg1 {P:Program} {n:Nat} {o:Oper} {F:dF} {H:List Ent} {v:Value} (h:Qt P n o F H v:=by (first|exact cD rfl rfl|exact yU rfl rfl|exact QA rfl rfl rfl|exact XI rfl rfl rfl|exact XJ rfl rfl rfl)):Qt P n o F H v:=h
theorem qg2 {P:Program} {n:Nat} {o:Oper} {F:dF} {H:List Ent} {v:Value} (h:Qt P n o F H v:=by (first|exact pE rfl rfl (by exact aN) rfl|exact xD rfl rfl (by exact aN) (by rfl)|exact EV rfl rfl (by exact aN) (by assumption) rfl|exact EW rfl rfl (by exact aN) (by assumption) (by rfl)|exact yX rfl rfl (by exact aN) (by intro _;rfl) (by assumption) rfl|exact yY rfl rfl (by exact aN) (by intro _;rfl) (by assumption) rfl)):Qt P n o F H v:=h
theorem qg3 {P:Program} {n:Nat} {o:Oper} {F:dF} {H:List Ent} {v:Value} (h:Qt P n o F H v:=by (first|exact ET rfl rfl nfa|exact wM rfl rfl nfa (by exact aN) (by assumption)|exact wN rfl rfl nfa (by exact aN) (by omega)|exact jF rfl rfl rfl (by exact aN) rfl (by simp only[List.length_map];omega)|exact bR rfl rfl rfl (by exact aN) rfl (by omega)|exact zA rfl rfl)):Qt P n o F H v:=h
theorem qg4 {P:Program} {n:Nat} {o:Oper} {F:dF} {H:List Ent} {v:Value} (h:Qt P n o F H v:=by (first|exact vC rfl rfl rfl rfl (by first|exact aBY (by omega)|exact aBZ (by omega)|exact aCA (by omega)|exact aCB (by omega)|exact aCC (by omega)|exact aCD (by omega)|exact aCE (by omega)|exact aCF (by omega)|exact aCG (by omega)|exact aCH (by omega)|exact aCI (by omega)|exact aCJ (by omega))|exact agZ rfl rfl|exact ahA rfl rfl|exact ES rfl rfl rfl (by omega)|exact QB rfl rfl rfl (by omega)|exact aBX rfl rfl rfl (by omega)|exact XQ rfl (by rfl) (by rfl) (by first|assumption|exact rfl)|exact XS rfl (by rfl) (by rfl) (by first|assumption|(intro h;exact absurd (congrArg ByteArray.toList h) (by decide)))|exact XR rfl (by rfl) (by rfl) (by first|assumption|exact rfl)|exact XT rfl (by rfl) (by rfl) (by first|assumption|(intro h;exact absurd (congrArg ByteArray.toList h) (by decide))))):Qt P n o F H v:=h
theorem qg5 {P:Program} {n:Nat} {o:Oper} {F:dF} {H:List Ent} {v:Value} (h:Qt P n o F H v:=by (first|exact aDE rfl rfl (by exact lE)|exact JS rfl rfl rfl)):Qt P n o F H v:=h
theorem qg6 {P:Program} {n:Nat} {o:Oper} {F:dF} {H:List Ent} {v:Value} (h:Qt P n o F H v:=by (first|exact EY rfl rfl|exact CE rfl rfl|exact aCK rfl rfl rfl)):Qt P n o F H v:=h
theorem qta {P:Program} {n:Nat} {o:Oper} {F:dF} {H:List Ent} {v:Value} (h:Qt P n o F H v:=by (first|exact cD rfl rfl|exact yU rfl rfl|exact ET rfl rfl nfa|exact pE rfl rfl (by exact aN) rfl|exact xD rfl rfl (by exact aN) (by rfl)|exact QA rfl rfl rfl|exact EY rfl rfl|exact CE rfl rfl|exact XI rfl rfl rfl|exact XJ rfl rfl rfl|exact agZ rfl rfl|exact ahA rfl rfl|exact ES rfl rfl rfl (by omega)|exact QB rfl rfl rfl (by omega)|exact aBX rfl rfl rfl (by omega)|exact EV rfl rfl (by exact aN) (by assumption) rfl|exact EW rfl rfl (by exact aN) (by assumption) (by rfl)|exact wM rfl rfl nfa (by exact aN) (by assumption)|exact wN rfl rfl nfa (by exact aN) (by omega)|exact jF rfl rfl rfl (by exact aN) rfl (by simp only[List.length_map];omega)|exact bR rfl rfl rfl (by exact aN) rfl (by omega)|exact yX rfl rfl (by exact aN) (by intro _;rfl) (by assumption) rfl|exact yY rfl rfl (by exact aN) (by intro _;rfl) (by assumption) rfl|exact aDE rfl rfl (by exact lE)|exact XQ rfl (by rfl) (by rfl) (by first|assumption|exact rfl)|exact XS rfl (by rfl) (by rfl) (by first|assumption|(intro h;exact absurd (congrArg ByteArray.toList h) (by decide)))|exact XR rfl (by rfl) (by rfl) (by first|assumption|exact rfl)|exact XT rfl (by rfl) (by rfl) (by first|assumption|(intro h;exact absurd (congrArg ByteArray.toList h) (by decide)))|exact zA rfl rfl|exact JS rfl rfl rfl|exact aCK rfl rfl rfl|exact vC rfl rfl rfl rfl (by first|exact aBY (by omega)|exact aBZ (by omega)|exact aCA (by omega)|exact aCB (by omega)|exact aCC (by omega)|exact aCD (by omega)|exact aCE (by omega)|exact aCF (by omega)|exact aCG (by omega)|exact aCH (by omega)|exact aCI (by omega)|exact aCJ (by omega)))):Qt P n o F H v:=h
end Go.Proofs.YtbjalbcdbgcgdaaGreat.sl
namespace Go.Proofs.YtbjalbcdbgcgdaaGreat.sl
open Go.RowKit bG
abbrev str (l:List UInt8):ByteArray:=⟨l.toArray⟩
theorem bP (l:List UInt8):(str l).size=l.length:=by simp [ar]
theorem adI (s:ByteArray): ∃ l,s=str l∧l.length=s.size:=⟨s.data.toList,by cases s;rfl,by cases s;simp [ar]⟩
theorem oC (l:List UInt8):(str l).toList=l:=by rw[Lib.toList_data]
theorem tM (l:List UInt8) (i j:Nat):(str l).extract i j=str ((l.drop i).take (j-i)):=by
 apply fo;simp [gp,gm]
theorem ayL (a b:List UInt8):str a++str b=str (a++b):=by
 apply fo;simp
class Knd (P:Program) (t:TypeId):Prop where
 h:(P.underlying t).isSome=true
instance {P:Program} {t:TypeId} {k:IntKind} [h:JN P t k]:Knd P t:=⟨by rw[h.h];rfl⟩
section
variable {P:Program} {n:Nat} {F:dF} {H R:List Ent} {o:Oper} {x y z:Operand} {v u z':Value} {T S:TypeId}
theorem aDH {t:Nat} {l:List UInt8} [ht:yV P t] (ho:o.op= .call { callee:= .builtin .len,args:= #[x],argTypes:= #[t] }) (hx:ev F x=some (.string (str l))):Qt P n o F H (.int .i64 (l.length:Int)):=by
 have:=CE (P:=P) (n:=n) (H:=H) (ht:=ht) ho hx;rwa [bP] at this
theorem aFX {a b:List UInt8} {T':TypeId} (ho:o.op= .binOp .add T x y T') (hx:ev F x=some (.string (str a))) (hy:ev F y=some (.string (str b))) (h:a.length+b.length≤9223372036854775807):Qt P n o F H (.string (str (a++b))):=fun ac w ha _=>by
 have h2:=run_string_add_sum (P:=P) (w:=w) (str a) (str b) (by rw[bP,bP];exact h);simp only[execOp,ho,ha.eval hx,ha.eval hy,eqGuard,gd,if_true,binOp_string_add,Sem.run_bind,Sem.run_pure,Result.andThen_ok,h2,ayL]
theorem aDI {a b:List UInt8} {T':TypeId} {r:Bool} (ho:o.op= .binOp .eql T x y T') (hx:ev F x=some (.string (str a))) (hy:ev F y=some (.string (str b))) (hr:(a==b)=r):Qt P n o F H (.bool r):=by
 have:=CF (P:=P) (n:=n) (H:=H) ho hx hy;rw[oC,oC,hr] at this;exact this
theorem ayM {a b:List UInt8} {T':TypeId} {r:Bool} (ho:o.op= .binOp .neq T x y T') (hx:ev F x=some (.string (str a))) (hy:ev F y=some (.string (str b))) (hr:(a==b)=r):Qt P n o F H (.bool (!r)):=by
 have:=CG (P:=P) (n:=n) (H:=H) ho hx hy;rw[oC,oC,hr] at this;exact this
theorem aFY {k:IntKind} {i:Int} {j:Nat} {l:List UInt8} {b:UInt8} [ht:yV P T] (ho:o.op= .index T x y) (hx:ev F x=some (.string (str l))) (hy:ev F y=some (.int k i)) (hi:i=(j:Int)) (hb:l[j]? =some b):Qt P n o F H (.int .u8 (b.toNat:Int)):=fun a w ha _=>by
 subst hi;obtain⟨hl,hb⟩:=List.getElem?_eq_some_iff.1 hb;have h1:=run_index_string (P:=P) w T (str l) k (j:Int) ht.h;rw[dif_pos ⟨by omega,by rw[bP];omega⟩] at h1;simp only[execOp,ho,ha.eval hx,ha.eval hy,Sem.run_bind,h1,Result.andThen_ok,Sem.run_pure,fq];have:(str l)[j]'(by rw[bP];exact hl)=b:=by rw[←hb];rfl
 rw[this]
theorem aDJ {k k':IntKind} {i j:Int} {i' j':Nat} {l m:List UInt8} [ht:yV P T] (ho:o.op= .slice T x (some y) (some z) none) (hx:ev F x=some (.string (str l))) (hy:ev F y=some (.int k i)) (hz:ev F z=some (.int k' j)) (hi:i=(i':Int)) (hj:j=(j':Int)) (hij:i'≤j') (hjl:j'≤l.length) (hm:(l.drop i').take (j'-i')=m):Qt P n o F H (.string (str m)):=fun a w ha _=>by
 subst hi;subst hj;subst hm;have h1:=run_slice_string (P:=P) w T (str l) k k' (i':Int) (j':Int) ht.h (by omega) (by omega) (by rw[bP];omega);simp only[execOp,ho,fv,fw,ha.eval hx,ha.eval hy,ha.eval hz,run_sliceAt_string w T _ _ _ _ ht.h,Sem.run_bind,h1,Result.andThen_ok,Sem.run_pure,fq,tM]
theorem aDK {k':IntKind} {j:Int} {j':Nat} {l m:List UInt8} [ht:yV P T] (ho:o.op= .slice T x none (some z) none) (hx:ev F x=some (.string (str l))) (hz:ev F z=some (.int k' j)) (hj:j=(j':Int)) (hjl:j'≤l.length) (hm:l.take j'=m):Qt P n o F H (.string (str m)):=fun a w ha _=>by
 subst hj;subst hm;have h1:=run_slice_string_h (P:=P) w T (str l) ht.h k' (j':Int) (by omega) (by rw[bP];omega);simp only[execOp,ho,fv,fw,ha.eval hx,ha.eval hz,run_sliceAt_string w T _ _ _ _ ht.h,Sem.run_bind,h1,Result.andThen_ok,Sem.run_pure,fq,tM,List.drop_zero,Nat.sub_zero]
theorem aDL {k:IntKind} {i:Int} {i':Nat} {l m:List UInt8} [ht:yV P T] (ho:o.op= .slice T x (some y) none none) (hx:ev F x=some (.string (str l))) (hy:ev F y=some (.int k i)) (hi:i=(i':Int)) (hil:i'≤l.length) (hm:l.drop i'=m):Qt P n o F H (.string (str m)):=fun a w ha _=>by
 subst hi;subst hm;have h1:=run_slice_string_l (P:=P) w T (str l) ht.h k (i':Int) (by omega) (by rw[bP];omega);have h2:(l.drop i').take ((str l).size-i')=l.drop i':=by rw[bP,List.take_of_length_le (by simp)]
 simp only[execOp,ho,fv,fw,ha.eval hx,ha.eval hy,run_sliceAt_string w T _ _ _ _ ht.h,Sem.run_bind,h1,Result.andThen_ok,Sem.run_pure,fq,tM,h2]
theorem aDM {a b r:Bool} {T':TypeId} (ho:o.op= .binOp .eql T x y T') (hx:ev F x=some (.bool a)) (hy:ev F y=some (.bool b)) (hT:P.underlying T=some .bool) (hr:(a==b)=r):Qt P n o F H (.bool r):=fun ac w ha _=>by
 subst hr;have h1:(Op.equal T (.bool a) (.bool b)).run P w= .ok (a==b) w:=run_equalIn_bool w 9999 T a b hT;simp [execOp,ho,ha.eval hx,ha.eval hy,eqGuard,binOp,h1]
theorem aDN {a b r:Bool} {T':TypeId} (ho:o.op= .binOp .neq T x y T') (hx:ev F x=some (.bool a)) (hy:ev F y=some (.bool b)) (hT:P.underlying T=some .bool) (hr:(a !=b)=r):Qt P n o F H (.bool r):=fun ac w ha _=>by
 subst hr;have h1:(Op.equal T (.bool a) (.bool b)).run P w= .ok (a==b) w:=run_equalIn_bool w 9999 T a b hT;simp [execOp,ho,ha.eval hx,ha.eval hy,eqGuard,binOp,h1,bne]
section ints
variable {k k':IntKind} {i j r:Int} {T':TypeId}
theorem aDO [hs:Knd P S] [hd:JN P T k'] (ho:o.op= .convert S T x) (hx:ev F x=some (.int k i)) (hr:k'.wrap i=r):Qt P n o F H (.int k' r):=fun a w ha _=>by
 subst hr;have hk:P.intKind T=k':=by simp [Program.intKind,hd.h]
 have h1:=run_convert_int (P:=P) w S T k i hs.h (by rw[hk];exact hd.h);simp only[execOp,ho,ha.eval hx,h1,hk,Sem.run_bind,Result.andThen_ok,Sem.run_pure]
theorem pS (h: -9223372036854775808≤i∧i≤9223372036854775807):IntKind.i64.wrap i=i:=IntWalk.i64_in _ h
theorem JV (h:0≤i∧i≤18446744073709551615):IntKind.u64.wrap i=i:=IntWalk.u64_in _ h
theorem JW (h:0≤i∧i≤4294967295):IntKind.u32.wrap i=i:=IntWalk.u32_in _ h
theorem JX (h: -2147483648≤i∧i≤2147483647):IntKind.i32.wrap i=i:=IntWalk.i32_in _ h
theorem QJ (h:0≤i∧i≤255):IntKind.u8.wrap i=i:=IntWalk.u8_in _ h
theorem JY:IntKind.u8.wrap i=i%256:=IntKind.wrap_u8 i
theorem zD:IntKind.u32.wrap i=i%4294967296:=IntKind.wrap_u32 i
theorem zE:IntKind.u64.wrap i=i%18446744073709551616:=IntKind.wrap_u64 i
theorem aqX (ho:o.op= .binOp .add T x y T') (hx:ev F x=some (.int k i)) (hy:ev F y=some (.int k j)) (hr:k.wrap (i+j)=r):Qt P n o F H (.int k r):=hr ▸ axU ho hx hy
theorem aqY (ho:o.op= .binOp .sub T x y T') (hx:ev F x=some (.int k i)) (hy:ev F y=some (.int k j)) (hr:k.wrap (i-j)=r):Qt P n o F H (.int k r):=hr ▸ axV ho hx hy
theorem aqZ (ho:o.op= .binOp .mul T x y T') (hx:ev F x=some (.int k i)) (hy:ev F y=some (.int k j)) (hr:k.wrap (i*j)=r):Qt P n o F H (.int k r):=hr ▸ axW ho hx hy
theorem aFZ (ho:o.op= .binOp .quo T x y T') (hx:ev F x=some (.int .i64 i)) (hy:ev F y=some (.int .i64 j)) (h:0≤i∧i≤9223372036854775807∧1≤j):Qt P n o F H (.int .i64 (i/j)):=fun a w ha _=>by
 have h1:=IntWalk.i64_quo i j h;have h2: ¬ j=0:=by omega
 simp [execOp,ho,ha.eval hx,ha.eval hy,eqGuard,binOp,Op.intDiv,h2,h1]
theorem aGA (ho:o.op= .binOp .rem T x y T') (hx:ev F x=some (.int .i64 i)) (hy:ev F y=some (.int .i64 j)) (h:0≤i∧1≤j):Qt P n o F H (.int .i64 (i%j)):=fun a w ha _=>by
 have h1:=IntWalk.rem_in i j h.1;have h2: ¬ j=0:=by omega
 simp [execOp,ho,ha.eval hx,ha.eval hy,eqGuard,binOp,Op.intDiv,h2,h1]
class Pw (j:Int) (p:outParam Int):Prop where
 h:(2:Int)^j.toNat=p
 lo:0≤j
 hi:j≤64
theorem aCO {p:Int} [hp:Pw j p] (ho:o.op= .binOp .shr T x y T') (hx:ev F x=some (.int k i)) (hy:ev F y=some (.int k' j)) (hb:dv j.toNat k.bits=true):Qt P n o F H (.int k (i/p)):=fun a w ha _=>by
 have h0:=hp.lo;have h1: ¬ j<0:=by omega
 have h2:min j.toNat k.bits=j.toNat:=gi (bu hb);have h3:=hp.h;have h4:i.fdiv p=i/p:=by
  rw[Int.fdiv_eq_ediv_of_nonneg];rw[←h3];exact Int.le_of_lt (Int.pow_pos (by decide))
 simp only[execOp,ho,ha.eval hx,ha.eval hy,eqGuard,gd,if_true,binOp,Op.shift,h1,if_false,h2,h3,h4,Sem.run_bind,Sem.run_pure,Result.andThen_ok]
theorem arA {p:Int} [hp:Pw j p] (ho:o.op= .binOp .shl T x y T') (hx:ev F x=some (.int k i)) (hy:ev F y=some (.int k' j)) (hb:dv j.toNat k.bits=true) (hr:k.wrap (i*p)=r):Qt P n o F H (.int k r):=fun a w ha _=>by
 have h0:=hp.lo;have h1: ¬ j<0:=by omega
 have h2:min j.toNat k.bits=j.toNat:=gi (bu hb);have h3:=hp.h;subst hr;simp only[execOp,ho,ha.eval hx,ha.eval hy,eqGuard,gd,if_true,binOp,Op.shift,h1,if_false,h2,h3,Sem.run_bind,Sem.run_pure,Result.andThen_ok]
def aGB:BinOp→Bool
 | .and| .or| .xor| .andNot=>true
 |_=>false
theorem aDP {op:BinOp} (ho:o.op= .binOp op T x y T') (xB:aGB op=true) (hx:ev F x=some (.int k i)) (hy:ev F y=some (.int k j)) (hr:bits op k i j=r):Qt P n o F H (.int k r):=fun a w ha _=>by
 subst hr;cases op<;>first|(cases xB;done)|(simp [execOp,ho,ha.eval hx,ha.eval hy,eqGuard,binOp];rfl)
end ints
def fY (b:UInt8):List Value:=[.int .u8 (b.toNat:Int)]
theorem UJ (b:UInt8): ∀ u∈fY b,u.oneCell'=true:=by simp [fY,Value.oneCell']
inductive U8s:List Value→List Int→Prop
 |nil:U8s [] []
 |cons {z xs zs}:U8s xs zs→U8s (.int .u8 z::xs) (z::zs)
theorem U8s.eq {xs:List Value} {zs:List Int} (h:U8s xs zs):xs=zs.map (Value.int .u8):=by
 induction h with
 |nil=>rfl
 |cons _ ih=>rw[ih];rfl
theorem XX: ∀ l:List UInt8,U8s (flat fY l) (l.map fun b=>(b.toNat:Int))
 |[]=> .nil
 |b::l=> .cons (XX l)
theorem FB {e m:Nat} {xs:List Value} {zs:List Int} {l:List UInt8} [hs:nH P S e] [he:JN P e .u8] [hd:yV P T] (ho:o.op= .convert S T x) (hx:ev F x=some v) (p:bF (own v e 1 m xs) H R) (hz:U8s xs zs) (hl:(zs.map fun z=>gl z.toNat)=l):Qt P n o F H (.string (str l)):=fun a w ha hw=>by
 subst hl;have hb:w.ownsRow 0 e 1 v m xs:=hw.1 _ p.mem;have hze:=hz.eq;have hlen:zs.length=m:=by
  have:=hb.1;rw[hze] at this;simpa using this
 have key:(convert S T v).run P w= .ok (.string (str (zs.map fun z=>gl z.toNat))) w:=by
  rcases hb.2 with⟨rfl,h0⟩|⟨g,cap,cur,rfl,h0,hg,h1,h2,h3,h4⟩
  ·have:zs=[]:=by
    apply List.eq_nil_of_length_eq_zero;omega
   subst this;rw[run_convert_bytes_nil (P:=P) w S e hs.h he.h 0 0 T hd.h];rfl
  ·rw[run_convert_bytes_arg (P:=P) w S e hs.h he.h g 0 m cap zs hlen ?_ T hd.h]
   ·rfl
   ·intro i hi;rw[cell_of_row _ _ _ _ _ _ hg,Nat.zero_add];have h5:(cur.toList.take (m*1))[i]? =xs[i]? :=by rw[h4]
    rw[bp,if_pos (by omega)] at h5;rw[←Array.getElem?_toList,h5,hze,List.getElem?_map,aj (by omega)];simp [List.getD,aj (show i<zs.length by omega)]
 simp only[execOp,ho,ha.eval hx,key,Sem.run_bind,Result.andThen_ok,Sem.run_pure]
theorem akR {e m:Nat} {l:List UInt8} [hs:nH P S e] [he:JN P e .u8] [hd:yV P T] (ho:o.op= .convert S T x) (hx:ev F x=some v) (p:bF (own v e 1 m (flat fY l)) H R):Qt P n o F H (.string (str l)):=
 FB ho hx p (XX l) (by
  rw[List.map_map]
  conv=>rhs;rw[←List.map_id l]
  apply List.map_congr_left;intro b _;simp)
end
instance:Pw 1 2:=⟨by decide,by decide,by decide⟩
instance:Pw 8 256:=⟨by decide,by decide,by decide⟩
instance:Pw 16 65536:=⟨by decide,by decide,by decide⟩
instance:Pw 24 16777216:=⟨by decide,by decide,by decide⟩
section
variable {P:Program} {ops:Array Oper} {Q:eP} {n:Nat} {Hq:List Ent} {nk:List Nat} {r i m:Nat} {L:Array Bool} {F:dF} {H:List Ent}
def cQ (P:Program) (ops:Array Oper) (Q:eP) (n:Nat) (Hq:List Ent) (nk:List Nat) (r i m:Nat) (L:Array Bool) (F:dF) (H:List Ent):Prop:=eO P ops Q n Hq nk m L F H
theorem XY {id:Nat} {l:List Oper} (hm:P.follows .mixedOrders=true) (hl:l.length=m) (h:cQ P l.toArray Q n H [] 1 0 m (fm m false) F H):dC P Q n (.region id l.toArray true) F H:=by
 subst hl;exact CH H [] hm h
theorem aB {id:Nat} {l:List Oper} {Hq:List Ent} (is nk:List Nat) (hq:oB is H=Hq) (hm:P.follows .mixedOrders=true) (hl:l.length=m) (h:cQ P l.toArray Q n Hq nk 1 0 m (fm m false) F H):dC P Q n (.region id l.toArray true) F H:=by
 subst hl;exact CH Hq nk hm h
theorem arB (hr:Region.ready .any ops L=[]) (h:dG Q .normal n F H):cQ P ops Q n Hq nk r i 0 L F H:=XP hr h
variable {d:Nat} {op:Op} {ty:TypeId} {ps:String} {af:Array Edge} {g:Option (Nat×Bool)} {v:Value}
theorem aU (kd:Nat) (hi:ops[i]? =some ⟨some d,op,ty,ps,af,g⟩) (hk:cZ op=kd) (hg:kR ops F ⟨some d,op,ty,ps,af,g⟩) (hb:eV ops nk L i=true) (hs:HSub H Hq) (hd:bh d n=true) (hq:Qt P n ⟨some d,op,ty,ps,af,g⟩ F Hq v) (h:cQ P ops Q n Hq nk r (i+1) m (L.setIfInBounds i true) ((d,v)::F) H):cQ P ops Q n Hq nk r i (m+1) L F H:=rS i hi hg hb hs hd hq h
theorem arC {j t:Nat} {b:Bool} (hi:ops[i]? =some ⟨some d,op,ty,ps,af,some (j,b)⟩) (hsl:nG ops j=some t) (hv:look F t=some (.bool (!b))) (hb:eV ops nk L i=true) (hs:HSub H Hq) (hd:bh d n=true) (h:cQ P ops Q n Hq nk r (i+1) m (L.setIfInBounds i true) ((d,undef)::F) H):cQ P ops Q n Hq nk r i (m+1) L F H:=QF i hi hsl hv hb hs hd h
theorem akS (hL:L.getD i false=true) (h:cQ P ops Q n Hq nk r (i+1) m L F H):cQ P ops Q n Hq nk r i m L F H:=h
theorem akT (hs:bh i ops.size=true) (h:cQ P ops Q n Hq nk r (i+1) m L F H):cQ P ops Q n Hq nk r i m L F H:=h
theorem akU (hs:bh i ops.size=false) (h:cQ P ops Q n Hq nk r 0 m L F H):cQ P ops Q n Hq nk (r+1) i m L F H:=h
theorem QK {S S':World→Prop} (hS: ∀ w,S' w→S w): ∀ (k:Nat) (L:Array Bool) (a:Act) (w:World),GP P ops Q S' nk k L a w→GP P ops Q S nk k L a w
 |0,_,_,_,h=>h
 |k+1,_,_,_,h=>⟨h.1,fun i hi=>wpOp_mono (fun a' w' h'=>⟨fun hn=>hS w' (h'.1 hn),QK hS k _ a' w' h'.2⟩) (h.2 i hi)⟩
theorem QL (hs:HSub H Hq) (h:cQ P ops Q n H nk r i m L F H):cQ P ops Q n Hq nk r i m L F H:=fun a w ha hw=>QK hs _ _ _ _ (h a w ha hw)
theorem aA (j:Nat) (h:cQ P ops Q n Hq nk r j m L F H):cQ P ops Q n Hq nk r i m L F H:=h
theorem akV (kd:Nat) (hi:ops[i]? =some ⟨some d,op,ty,ps,af,g⟩) (hk:cZ op=kd) (hr:Region.ready .any ops L=[i]) (hg:kR ops F ⟨some d,op,ty,ps,af,g⟩) (hd:bh d n=true) (hq:Qt P n ⟨some d,op,ty,ps,af,g⟩ F H v) (hs:HSub H Hq) (h:cQ P ops Q n Hq nk r (i+1) m (L.setIfInBounds i true) ((d,v)::F) H):cQ P ops Q n Hq nk r i (m+1) L F H:=
 nP i hr (QG i hi hg hd (gV hq) fun u H' ⟨h1,h2⟩=>by subst h1;subst h2;exact⟨fun _=>hs,h⟩)
theorem gW (kd:Nat) {K:Value→List Ent→Prop} (hi:ops[i]? =some ⟨some d,op,ty,ps,af,g⟩) (hk:cZ op=kd) (hr:Region.ready .any ops L=[i]) (hg:kR ops F ⟨some d,op,ty,ps,af,g⟩) (hd:bh d n=true) (h:cJ P n ⟨some d,op,ty,ps,af,g⟩ F H K) (hk: ∀ v H',K v H'→(nk.contains i=false→HSub H' Hq)∧cQ P ops Q n Hq nk r (i+1) m (L.setIfInBounds i true) ((d,v)::F) H'):cQ P ops Q n Hq nk r i (m+1) L F H:=nP i hr (QG i hi hg hd h hk)
theorem CL (kd:Nat) {K:Value→List Ent→Prop} (hi:ops[i]? =some ⟨none,op,ty,ps,af,g⟩) (hk:cZ op=kd) (hr:Region.ready .any ops L=[i]) (hg:kR ops F ⟨none,op,ty,ps,af,g⟩) (h:cJ P n ⟨none,op,ty,ps,af,g⟩ F H K) (hk: ∀ v H',K v H'→(nk.contains i=false→HSub H' Hq)∧cQ P ops Q n Hq nk r (i+1) m (L.setIfInBounds i true) F H'):cQ P ops Q n Hq nk r i (m+1) L F H:=nP i hr (ahJ i hi hg h hk)
theorem cU (j:Nat) (hr:Region.ready .any ops L=[i,j]) (h1:JT P ops Q n Hq nk m L F H i) (h2:JT P ops Q n Hq nk m L F H j):cQ P ops Q n Hq nk r i (m+1) L F H:=ayB i j hr h1 h2
theorem tN (r i:Nat) {K:Value→List Ent→Prop} (hi:ops[i]? =some ⟨some d,op,ty,ps,af,g⟩) (hg:kR ops F ⟨some d,op,ty,ps,af,g⟩) (hd:bh d n=true) (h:cJ P n ⟨some d,op,ty,ps,af,g⟩ F H K) (hk: ∀ v H',K v H'→(nk.contains i=false→HSub H' Hq)∧cQ P ops Q n Hq nk r 0 m (L.setIfInBounds i true) ((d,v)::F) H'):JT P ops Q n Hq nk m L F H i:=QG i hi hg hd h hk
theorem nV {bop:BinOp} {k:IntKind} {p q:Int} {T T':TypeId} {x y:Operand} (hi:ops[i]? =some ⟨some d, .binOp bop T x y T',ty,ps,af,g⟩) (hc:ahB bop=true) (hx:ev F x=some (.int k p)) (hy:ev F y=some (.int k q)) (hg:kR ops F ⟨some d, .binOp bop T x y T',ty,ps,af,g⟩) (hb:eV ops nk L i=true) (hs:HSub H Hq) (hd:bh d n=true) (h1:dS bop p q=true→cQ P ops Q n Hq nk r (i+1) m (L.setIfInBounds i true) ((d, .bool true)::F) H) (h2:dS bop p q=false→cQ P ops Q n Hq nk r (i+1) m (L.setIfInBounds i true) ((d, .bool false)::F) H):cQ P ops Q n Hq nk r i (m+1) L F H:=by
 cases hbb:dS bop p q with
 |true=>exact rS i hi hg hb hs hd (vC rfl hc hx hy hbb) (h1 hbb)
 |false=>exact rS i hi hg hb hs hd (vC rfl hc hx hy hbb) (h2 hbb)
theorem arD {k:IntKind} {p q:Int} {T T':TypeId} {x y:Operand} (hi:ops[i]? =some ⟨some d, .binOp .lss T x y T',ty,ps,af,g⟩) (hx:ev F x=some (.int k p)) (hy:ev F y=some (.int k q)) (hg:kR ops F ⟨some d, .binOp .lss T x y T',ty,ps,af,g⟩) (hb:eV ops nk L i=true) (hs:HSub H Hq) (hd:bh d n=true) (h1:p<q→cQ P ops Q n Hq nk r (i+1) m (L.setIfInBounds i true) ((d, .bool true)::F) H) (h2:q≤p→cQ P ops Q n Hq nk r (i+1) m (L.setIfInBounds i true) ((d, .bool false)::F) H):cQ P ops Q n Hq nk r i (m+1) L F H:=
 nV hi rfl hx hy hg hb hs hd (fun h=>h1 (aqM h)) fun h=>h2 (ahE h)
theorem arE {k:IntKind} {p q:Int} {T T':TypeId} {x y:Operand} (hi:ops[i]? =some ⟨some d, .binOp .leq T x y T',ty,ps,af,g⟩) (hx:ev F x=some (.int k p)) (hy:ev F y=some (.int k q)) (hg:kR ops F ⟨some d, .binOp .leq T x y T',ty,ps,af,g⟩) (hb:eV ops nk L i=true) (hs:HSub H Hq) (hd:bh d n=true) (h1:p≤q→cQ P ops Q n Hq nk r (i+1) m (L.setIfInBounds i true) ((d, .bool true)::F) H) (h2:q<p→cQ P ops Q n Hq nk r (i+1) m (L.setIfInBounds i true) ((d, .bool false)::F) H):cQ P ops Q n Hq nk r i (m+1) L F H:=
 nV hi rfl hx hy hg hb hs hd (fun h=>h1 (aqN h)) fun h=>h2 (ahF h)
theorem arF {k:IntKind} {p q:Int} {T T':TypeId} {x y:Operand} (hi:ops[i]? =some ⟨some d, .binOp .gtr T x y T',ty,ps,af,g⟩) (hx:ev F x=some (.int k p)) (hy:ev F y=some (.int k q)) (hg:kR ops F ⟨some d, .binOp .gtr T x y T',ty,ps,af,g⟩) (hb:eV ops nk L i=true) (hs:HSub H Hq) (hd:bh d n=true) (h1:q<p→cQ P ops Q n Hq nk r (i+1) m (L.setIfInBounds i true) ((d, .bool true)::F) H) (h2:p≤q→cQ P ops Q n Hq nk r (i+1) m (L.setIfInBounds i true) ((d, .bool false)::F) H):cQ P ops Q n Hq nk r i (m+1) L F H:=
 nV hi rfl hx hy hg hb hs hd (fun h=>h1 (aqO h)) fun h=>h2 (ahG h)
theorem arG {k:IntKind} {p q:Int} {T T':TypeId} {x y:Operand} (hi:ops[i]? =some ⟨some d, .binOp .geq T x y T',ty,ps,af,g⟩) (hx:ev F x=some (.int k p)) (hy:ev F y=some (.int k q)) (hg:kR ops F ⟨some d, .binOp .geq T x y T',ty,ps,af,g⟩) (hb:eV ops nk L i=true) (hs:HSub H Hq) (hd:bh d n=true) (h1:q≤p→cQ P ops Q n Hq nk r (i+1) m (L.setIfInBounds i true) ((d, .bool true)::F) H) (h2:p<q→cQ P ops Q n Hq nk r (i+1) m (L.setIfInBounds i true) ((d, .bool false)::F) H):cQ P ops Q n Hq nk r i (m+1) L F H:=
 nV hi rfl hx hy hg hb hs hd (fun h=>h1 (aqP h)) fun h=>h2 (ahH h)
theorem arH {k:IntKind} {p q:Int} {T T':TypeId} {x y:Operand} (hi:ops[i]? =some ⟨some d, .binOp .eql T x y T',ty,ps,af,g⟩) (hx:ev F x=some (.int k p)) (hy:ev F y=some (.int k q)) (hg:kR ops F ⟨some d, .binOp .eql T x y T',ty,ps,af,g⟩) (hb:eV ops nk L i=true) (hs:HSub H Hq) (hd:bh d n=true) (h1:p=q→cQ P ops Q n Hq nk r (i+1) m (L.setIfInBounds i true) ((d, .bool true)::F) H) (h2:p≠q→cQ P ops Q n Hq nk r (i+1) m (L.setIfInBounds i true) ((d, .bool false)::F) H):cQ P ops Q n Hq nk r i (m+1) L F H:=
 nV hi rfl hx hy hg hb hs hd (fun h=>h1 (aqK h)) fun h=>h2 (ahC h)
theorem arI {k:IntKind} {p q:Int} {T T':TypeId} {x y:Operand} (hi:ops[i]? =some ⟨some d, .binOp .neq T x y T',ty,ps,af,g⟩) (hx:ev F x=some (.int k p)) (hy:ev F y=some (.int k q)) (hg:kR ops F ⟨some d, .binOp .neq T x y T',ty,ps,af,g⟩) (hb:eV ops nk L i=true) (hs:HSub H Hq) (hd:bh d n=true) (h1:p≠q→cQ P ops Q n Hq nk r (i+1) m (L.setIfInBounds i true) ((d, .bool true)::F) H) (h2:p=q→cQ P ops Q n Hq nk r (i+1) m (L.setIfInBounds i true) ((d, .bool false)::F) H):cQ P ops Q n Hq nk r i (m+1) L F H:=
 nV hi rfl hx hy hg hb hs hd (fun h=>h1 (aqL h)) fun h=>h2 (ahD h)
end
theorem tO {b:UInt8}:IntKind.i64.wrap (b.toNat:Int)=(b.toNat:Int):=IntWalk.i64_in _ (by have:=b.toNat_lt;omega)
theorem tP {b:UInt8}:IntKind.u64.wrap (b.toNat:Int)=(b.toNat:Int):=IntWalk.u64_in _ (by have:=b.toNat_lt;omega)
theorem tQ {b:UInt8}:IntKind.u32.wrap (b.toNat:Int)=(b.toNat:Int):=IntWalk.u32_in _ (by have:=b.toNat_lt;omega)
theorem qs3 {P:Program} {n:Nat} {o:Oper} {F:dF} {H:List Ent} {v:Value} (h:Qt P n o F H v:=by (first|exact aFY rfl rfl rfl (by (first|rfl|assumption|omega)) (by first|assumption|rfl))):Qt P n o F H v:=h
theorem qs4 {P:Program} {n:Nat} {o:Oper} {F:dF} {H:List Ent} {v:Value} (h:Qt P n o F H v:=by (first|exact aFX rfl rfl rfl (by (first|omega|(simp only[List.length_append,List.length_cons,List.length_nil,List.length_take,List.length_drop,List.length_map];omega)))|exact aqX rfl rfl rfl (by (first|exact tO|exact tP|exact tQ|exact pS (by omega)|exact JV (by omega)|exact QJ (by omega)|exact JW (by omega)|exact JX (by omega)|exact JY|exact zD|exact zE))|exact aqY rfl rfl rfl (by (first|exact tO|exact tP|exact tQ|exact pS (by omega)|exact JV (by omega)|exact QJ (by omega)|exact JW (by omega)|exact JX (by omega)|exact JY|exact zD|exact zE))|exact aqZ rfl rfl rfl (by (first|exact tO|exact tP|exact tQ|exact pS (by omega)|exact JV (by omega)|exact QJ (by omega)|exact JW (by omega)|exact JX (by omega)|exact JY|exact zD|exact zE))|exact aCO rfl rfl rfl (by rfl)|exact arA rfl rfl rfl (by rfl) (by (first|exact tO|exact tP|exact tQ|exact pS (by omega)|exact JV (by omega)|exact QJ (by omega)|exact JW (by omega)|exact JX (by omega)|exact JY|exact zD|exact zE))|exact aFZ rfl rfl rfl (by omega)|exact aGA rfl rfl rfl (by omega)|exact aDP rfl rfl rfl rfl (by first|assumption|rfl)|exact aDI rfl rfl rfl (by assumption)|exact ayM rfl rfl rfl (by assumption)|exact aDM rfl rfl rfl (by kernel_rfl) (by first|assumption|rfl)|exact aDN rfl rfl rfl (by kernel_rfl) (by first|assumption|rfl))):Qt P n o F H v:=h
theorem qs6 {P:Program} {n:Nat} {o:Oper} {F:dF} {H:List Ent} {v:Value} (h:Qt P n o F H v:=by (first|exact aDH rfl rfl)):Qt P n o F H v:=h
theorem aGC {P:Program} {n:Nat} {o:Oper} {F:dF} {H:List Ent} {v:Value} (h:Qt P n o F H v:=by (first|exact aDO rfl rfl (by (first|exact tO|exact tP|exact tQ|exact pS (by omega)|exact JV (by omega)|exact QJ (by omega)|exact JW (by omega)|exact JX (by omega)|exact JY|exact zD|exact zE))|exact akR rfl rfl (by exact aN)|exact FB rfl rfl (by exact aN) (by (repeat (first|exact U8s.nil|apply U8s.cons))) (by first|assumption|rfl))):Qt P n o F H v:=h
theorem aGD {P:Program} {n:Nat} {o:Oper} {F:dF} {H:List Ent} {v:Value} (h:Qt P n o F H v:=by (first|exact aDJ rfl rfl rfl rfl (by (first|rfl|assumption|omega)) (by (first|rfl|assumption|omega)) (by (first|omega|(simp only[List.length_append,List.length_cons,List.length_nil,List.length_take,List.length_drop,List.length_map];omega))) (by (first|omega|(simp only[List.length_append,List.length_cons,List.length_nil,List.length_take,List.length_drop,List.length_map];omega))) (by first|assumption|rfl)|exact aDK rfl rfl rfl (by (first|rfl|assumption|omega)) (by (first|omega|(simp only[List.length_append,List.length_cons,List.length_nil,List.length_take,List.length_drop,List.length_map];omega))) (by first|assumption|rfl)|exact aDL rfl rfl rfl (by (first|rfl|assumption|omega)) (by (first|omega|(simp only[List.length_append,List.length_cons,List.length_nil,List.length_take,List.length_drop,List.length_map];omega))) (by first|assumption|rfl))):Qt P n o F H v:=h
end Go.Proofs.YtbjalbcdbgcgdaaGreat.sl
