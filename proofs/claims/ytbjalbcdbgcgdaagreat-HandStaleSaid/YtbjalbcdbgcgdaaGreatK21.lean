/- Law HandStale: its texts, packed. -/
import Derived.Test.YtbjalbcdbgcgdaaGreatK06
import Derived.Test.YtbjalbcdbgcgdaaGreatK13
import Derived.Test.YtbjalbcdbgcgdaaGreatK11
import Derived.Test.YtbjalbcdbgcgdaaGreatK07
open List renaming Pairwise.nil->ld,append_nil->jc,cons_append->jg,drop_eq_getElem_cons->cu,drop_of_length_le->mc,filter_append->l8,filter_cons->kz,filter_eq_nil_iff->ma,filter_filter->mh,getElem?_eq_getElem->aj,getElem?_eq_some_iff->ah,length_append->ag,length_cons->fb,length_drop->eu,length_nil->lk,length_take->b9,mem_cons->aw,mem_cons_self->bc,mem_filter->l9,mem_singleton->fk,nil_append->fe,not_mem_nil->fj,pairwise_cons->au,take_add_one->ki,take_append_drop->il,take_of_length_le->dc
open Nat renaming le_refl->aq,sub_self->jl
open Int renaming le_of_lt->mi,le_refl->lh
open Bool renaming false_eq_true->mf
set_option linter.unusedVariables false
set_option maxRecDepth 100000
set_option maxHeartbeats 8000000
namespace Go.Proofs.YtbjalbcdbgcgdaaGreat.sl
open Go.RowKit bG
def azQ (P:Program) (ops:Array Oper) (Q:eP) (n m:Nat) (L:Array Bool) (F:dF) (H:List Ent):Prop:= ∀ a w,Ok F n a→aD H w→wpAny P .any ops (calm Q) m L a w
def atQ (ops:Array Oper) (L:Array Bool) (i:Nat):Bool:=Region.noSelect ops&&Region.free .any ops L i&&(Region.ready .any ops L).contains i
section
variable {P:Program} {ops:Array Oper} {Q:eP} {n m:Nat} {L:Array Bool} {F:dF} {H:List Ent}
theorem IM {id:Nat} {l:List Oper} (hm:P.follows .mixedOrders=true) (hl:l.length=m) (h:azQ P l.toArray Q n m (Array.replicate m false) F H):dC P Q n (.region id l.toArray true) F H:=fun a w ha hw=>by
 subst hl;have h2:=h a _ ha hw.drew;refine wp_mono (wp_region_any hm (Q:=calm Q) (by simpa using h2)) ?_;intro e a w hq;cases e<;>first|exact hq|exact hq.elim
theorem amO (w:World):aD [] w:=⟨fun e he=>absurd he fj,ld⟩
theorem aL (i:Nat) {d:Nat} {op:Op} {ty:TypeId} {ps:String} {af:Array Edge} {g:Option (Nat×Bool)} {v:Value} (hi:ops[i]? =some ⟨some d,op,ty,ps,af,g⟩) (hg:kR ops F ⟨some d,op,ty,ps,af,g⟩) (hb:atQ ops L i=true) (hd:Nat.blt d n=true) (hq:Qt P n ⟨some d,op,ty,ps,af,g⟩ F [] v) (h:azQ P ops Q n m (L.setIfInBounds i true) ((d,v)::F) H):azQ P ops Q n (m+1) L F H:=fun a w ha hw=>by
 simp only[atQ,Bool.and_eq_true] at hb;obtain⟨⟨h1,h2⟩,h3⟩:=hb;exact wpAny_take hi h1 h2 h3 (fun c a w h=>h) (.inl ⟨hg.wanted ha,fun w=>hq a w ha (amO w)⟩) (h _ w (ha.put (d:=some d) hd) hw)
theorem IP {Hq:List Ent} {nk:List Nat} {r i:Nat} (h:cQ P ops Q n Hq nk r i m L F H):azQ P ops Q n m L F H:=fun a w ha hw=>GP.any _ _ _ _ (h a w ha hw)
theorem jJ {x y:Operand} {o:Oper} {z':Value} {t e sz i mm cc by' g:Nat} {k:IntKind} {agg:Bool} [ht:nH P t e] [hs:Ty P e agg sz by' z'] (ho:o.op= .indexAddr t x y) (hx:ev F x=some (.slice (some ⟨g,0,none⟩) mm cc)) (hy:ev F y=some (.int k (i:Int))) (hi:i<mm):Qt P n o F H (bC (.slice (some ⟨g,0,none⟩) mm cc) i sz 0):=fun a w ha hw=>by
 simp only[execOp,ho,ha.eval hx,ha.eval hy,Sem.run_bind,Sem.run_pure,Result.andThen_ok,CD (P:=P) (t:=t) hi,bC,pD,Nat.add_zero]
theorem mD {c:Code} {R:List Ent} {q:Option Addr} {e sz mm cp:Nat} {xs:List Value} (p:bF (own (.slice q mm cp) e sz mm xs) H R) (hm:0<mm) (k: ∀ g,q=some ⟨g,0,none⟩→mm≤cp→dC P Q n c F H):dC P Q n c F H:=fun a w ha hw=>by
 have hb:w.ownsRow 0 e sz (.slice q mm cp) mm xs:=(hw.perm p.perm).head;rcases hb.2 with⟨h,h0⟩|⟨g,cap,cur,h,_,_,h2,_⟩
 ·omega
 ·cases h;exact k g rfl h2 a w ha hw
end
end Go.Proofs.YtbjalbcdbgcgdaaGreat.sl
namespace Go.Proofs.YtbjalbcdbgcgdaaGreat.srt
variable {α:Type}
class Key (α:Type) where
 k:α→Int
section
variable [Key α]
def kf (x:α):Int:=Key.k x
def oL (l:List α):Prop:=l.Pairwise fun a b=>kf a≤kf b
def Seq (a b:List α):Prop:= ∀ k:Int,a.filter (fun x=>kf x==k)=b.filter (fun x=>kf x==k)
theorem Seq.refl (a:List α):Seq a a:=fun _=>rfl
theorem Seq.symm {a b:List α} (h:Seq a b):Seq b a:=fun k=>(h k).symm
theorem Seq.trans {a b c:List α} (h:Seq a b) (g:Seq b c):Seq a c:=fun k=>(h k).trans (g k)
theorem Seq.app {a b c d:List α} (h:Seq a b) (g:Seq c d):Seq (a++c) (b++d):=fun k=>by rw[l8,l8,h k,g k]
theorem Seq.mem {a b:List α} (h:Seq a b) {x:α} (hx:x∈a):x∈b:=by
 have h1:x∈a.filter (fun y=>kf y==kf x):=l9.2 ⟨hx,beq_self_eq_true _⟩;rw[h (kf x)] at h1;exact (l9.1 h1).1
theorem Seq.len {a b:List α} (h:Seq a b):a.length=b.length:=by
 have: ∀ (n:Nat) (a b:List α),a.length=n→Seq a b→a.length=b.length:=by
  intro n;induction n using Nat.strongRecOn with
  |_ n ih=>
   intro a b hn h;cases a with
   |nil=>
    cases b with
    |nil=>rfl
    |cons y b=>exact absurd (h.symm.mem bc) fj
   |cons x a=>
    have split: ∀ l:List α,l.length=(l.filter (fun y=>kf y==kf x)).length+(l.filter (fun y=> !(kf y==kf x))).length:=fun l=>by
     induction l with
     |nil=>rfl
     |cons y l ihl=>
      by_cases hy:(kf y==kf x)=true
      ·rw[kz,kz,hy];simp only[Bool.not_true,if_true,mf,if_false,fb];omega
      ·have hy':(kf y==kf x)=false:=by simpa using hy
       rw[kz,kz,hy'];simp only[Bool.not_false,if_true,mf,if_false,fb];omega
    have hS:Seq ((x::a).filter (fun y=> !(kf y==kf x))) (b.filter (fun y=> !(kf y==kf x))):=fun k=>by
     rw[mh,mh];have e: ∀ l:List α,l.filter (fun y=>(kf y==k)&& !(kf y==kf x))=if k=kf x then [] else l.filter (fun y=>kf y==k):=fun l=>by
      split
      ·rename_i hk;rw[ma];intro y _;rw[hk];cases (kf y==kf x)<;>simp
      ·rename_i hk;refine List.filter_congr fun y _=> ?_
       by_cases h1:kf y=k
       ·have: ¬ kf y=kf x:=fun h2=>hk (h1 ▸ h2)
        simp [h1,hk]
       ·simp [h1]
     rw[e,e,h k]
    have hlt:((x::a).filter (fun y=> !(kf y==kf x))).length<n:=by
     have:=split (x::a);have h2:0<((x::a).filter (fun y=>kf y==kf x)).length:=by simp
     omega
    have:=ih _ hlt _ _ rfl hS;rw[split (x::a),split b,h (kf x),this]
 exact this _ a b rfl h
theorem atT: ∀ {a b:List α},oL a→oL b→Seq a b→a=b:=by
 intro a;induction a with
 |nil=>
  intro b _ _ h;have:=h.len;exact (List.eq_nil_of_length_eq_zero this.symm).symm
 |cons x a ih=>
  intro b ha hb h;have ha':=au.1 ha;cases b with
  |nil=>exact absurd (h.mem bc) fj
  |cons y b=>
   have hb':=au.1 hb;have hxy:kf x=kf y:=by
    have h1:kf y≤kf x:=by
     rcases aw.1 (h.mem bc) with e|e
     ·rw[e];exact lh _
     ·exact hb'.1 x e
    have h2:kf x≤kf y:=by
     rcases aw.1 (h.symm.mem bc) with e|e
     ·rw[e];exact lh _
     ·exact ha'.1 y e
    omega
   have hk:=h (kf x);rw[kz,kz,if_pos (beq_self_eq_true _),if_pos (by rw[hxy];exact beq_self_eq_true _)] at hk;simp only[List.cons.injEq] at hk;obtain⟨rfl,hk⟩:=hk;congr 1;refine ih ha'.2 hb'.2 fun k=> ?_
   by_cases e:k=kf x
   ·rw[e];exact hk
   ·have h3:=h k;rw[kz,kz] at h3;have:(kf x==k)=false:=by simpa using fun e2=>e e2.symm
    rw[this] at h3;simpa using h3
def ins (x:α):List α→List α
 |[]=>[x]
 |y::l=>if kf x≤kf y then x::y::l else y::ins x l
def aK:List α→List α
 |[]=>[]
 |x::l=>ins x (aK l)
theorem aiK {x y:α}: ∀ {l:List α},y∈ins x l↔y=x∨y∈l
 |[]=>by simp [ins]
 |z::l=>by
  rw[ins];split
  ·simp
  ·rw[aw,aiK,aw];constructor
   ·rintro (h|h|h)
    ·exact .inr (.inl h)
    ·exact .inl h
    ·exact .inr (.inr h)
   ·rintro (h|h|h)
    ·exact .inr (.inl h)
    ·exact .inl h
    ·exact .inr (.inr h)
theorem aiL {x:α}: ∀ {l:List α},oL l→oL (ins x l)
 |[],_=>by simp [ins,oL]
 |y::l,h=>by
  have h':=au.1 h;rw[ins];split
  ·rename_i hx;refine au.2 ⟨fun z hz=> ?_,h⟩;rcases aw.1 hz with rfl|hz
   ·exact hx
   ·exact Int.le_trans hx (h'.1 z hz)
  ·rename_i hx;refine au.2 ⟨fun z hz=> ?_,aiL h'.2⟩;rcases aiK.1 hz with rfl|hz
   ·omega
   ·exact h'.1 z hz
theorem aiM {x:α}: ∀ {l:List α},Seq (ins x l) (x::l)
 |[]=>Seq.refl _
 |y::l=>by
  rw[ins];split
  ·exact Seq.refl _
  ·rename_i hx;intro k;have h1:=aiM (x:=x) (l:=l) k;simp only[kz] at h1 ⊢;rw[h1];by_cases hxk:(kf x==k)=true
   ·by_cases hyk:(kf y==k)=true
    ·simp only[beq_iff_eq] at hxk hyk;omega
    ·simp [hxk,hyk]
   ·simp [hxk]
theorem iP: ∀ l:List α,oL (aK l)
 |[]=>ld
 |x::l=>aiL (iP l)
theorem iQ: ∀ l:List α,Seq (aK l) l
 |[]=>Seq.refl _
 |x::l=>aiM.trans (Seq.app (Seq.refl [x]) (iQ l))
theorem eC (l:List α):(aK l).length=l.length:=(iQ l).len
theorem kW {l:List α} {x:α}:x∈aK l↔x∈l:=⟨(iQ l).mem,(iQ l).symm.mem⟩
theorem AJ {a l:List α} (h:oL a) (g:Seq a l):a=aK l:=atT h (iP l) (g.trans (iQ l).symm)
theorem cE {l:List α} (h:oL l):aK l=l:=(AJ h (Seq.refl l)).symm
theorem DQ (a b:List α):aK (aK a++aK b)=aK (a++b):=AJ (iP _) ((iQ _).trans (Seq.app (iQ a) (iQ b)))
theorem LX {a b:List α} (h: ∀ x∈a, ∀ y∈b,kf x≠kf y):Seq (a++b) (b++a):=fun k=>by
 rw[l8,l8];by_cases h1:a.filter (fun x=>kf x==k)=[]
 ·rw[h1];simp
 ·have h2:b.filter (fun x=>kf x==k)=[]:=by
   rw[ma];intro y hy hyk;obtain⟨x,hx⟩:=List.exists_mem_of_ne_nil _ h1;obtain⟨hx1,hx2⟩:=l9.1 hx;exact h x hx1 y hy (by simp only[beq_iff_eq] at hx2 hyk;omega)
  rw[h2];simp
theorem nS {a b:List α}:oL (a++b)↔oL a∧oL b∧ ∀ x∈a, ∀ y∈b,kf x≤kf y:=List.pairwise_append
theorem RX {a b:List α} {x:α} (ha:oL (a++b)) (h1: ∀ y∈a,kf y≤kf x) (h2: ∀ y∈b,kf x<kf y):a++x::b=aK (a++b++[x]):=by
 obtain⟨g1,g2,g3⟩:=nS.1 ha;refine AJ (nS.2 ⟨g1,au.2 ⟨fun y hy=>mi (h2 y hy),g2⟩,fun y hy z hz=> ?_⟩) ?_
 ·rcases aw.1 hz with rfl|hz
  ·exact h1 y hy
  ·exact g3 y hy z hz
 ·rw[List.append_assoc];refine Seq.app (Seq.refl a) ?_;have:=LX (a:=[x]) (b:=b) fun y hy z hz=>by
   rw[fk.1 hy];have:=h2 z hz;omega
  exact this
theorem atU {a b:List α} {x:α} (ha:oL (a++b)) (h1: ∀ y∈a,kf y<kf x) (h2: ∀ y∈b,kf x≤kf y):a++x::b=aK (x::(a++b)):=by
 obtain⟨g1,g2,g3⟩:=nS.1 ha;refine AJ (nS.2 ⟨g1,au.2 ⟨h2,g2⟩,fun y hy z hz=> ?_⟩) ?_
 ·rcases aw.1 hz with rfl|hz
  ·exact mi (h1 y hy)
  ·exact g3 y hy z hz
 ·have:=LX (a:=a) (b:=[x]) fun y hy z hz=>by
   rw[fk.1 hz];have:=h1 y hy;omega
  have h3:=Seq.app this (Seq.refl b);simpa using h3
theorem atV {a1 a2 b1 b2:List α} (ha:oL (a1++a2)) (hb:oL (b1++b2)) (h1: ∀ x∈a1, ∀ y∈b2,kf x≤kf y) (h2: ∀ x∈b1, ∀ y∈a2,kf x<kf y):aK (a1++b1)++aK (a2++b2)=aK (a1++a2++(b1++b2)):=by
 obtain⟨_,_,ga⟩:=nS.1 ha;obtain⟨_,_,gb⟩:=nS.1 hb;refine AJ (nS.2 ⟨iP _,iP _,fun x hx y hy=> ?_⟩) ?_
 ·rw[kW,List.mem_append] at hx hy;rcases hx with hx|hx<;>rcases hy with hy|hy
  ·exact ga x hx y hy
  ·exact h1 x hx y hy
  ·exact mi (h2 x hx y hy)
  ·exact gb x hx y hy
 ·refine (Seq.app (iQ _) (iQ _)).trans ?_;have:=Seq.app (Seq.app (Seq.refl a1) (LX (a:=b1) (b:=a2) fun x hx y hy=>by have:=h2 x hx y hy;omega)) (Seq.refl b2);simpa using this
end
end Go.Proofs.YtbjalbcdbgcgdaaGreat.srt
namespace Go.Proofs.YtbjalbcdbgcgdaaGreat.nJ
open Go.RowKit bG sl srt
abbrev CV:=Int×Option Addr×Nat×Nat
def fC (c:CV):List Value:=[.int .i64 c.1, .slice c.2.1 c.2.2.1 c.2.2.2]
instance:Key CV:=⟨fun c=>c.1⟩
theorem AK {α:Type} (u v:List α) (x:α) {i:Nat} (h:u.length=i):(u++x::v)[i]? =some x:=by
 rw[←h,List.getElem?_append_right (aq _),jl];rfl
theorem vO {α:Type} (u v:List α) (x y:α) {i:Nat} (h:u.length=i):(u++x::v).set i y=u++y::v:=by
 rw[←h,List.set_append_right _ _ (aq _),jl];rfl
theorem AL {α:Type} (u v w:List α) (x y:α) {i j:Nat} (hi:u.length=i) (hj:i+1+v.length=j):(u++x::(v++y::w))[i]? =some x∧(u++x::(v++y::w))[j]? =some y∧((u++x::(v++y::w)).set i y)[j]? =some y∧((u++x::(v++y::w)).set i y).set j x=u++y::(v++x::w)∧((u++x::(v++y::w)).set j x)[i]? =some x∧((u++x::(v++y::w)).set j x).set i y=u++y::(v++x::w):=by
 have e: ∀ z t:α,u++z::(v++t::w)=(u++z::v)++t::w:=fun z t=>by simp
 have hl: ∀ z:α,(u++z::v).length=j:=fun z=>by rw[ag,fb];omega
 refine⟨AK _ _ _ hi, ?_, ?_, ?_, ?_, ?_⟩
 ·rw[e];exact AK _ _ _ (hl x)
 ·rw[vO _ _ _ _ hi,e];exact AK _ _ _ (hl y)
 ·rw[vO _ _ _ _ hi,e,vO _ _ _ _ (hl y),e]
 ·rw[e,vO _ _ _ _ (hl x), ←e];exact AK _ _ _ hi
 ·rw[e,vO _ _ _ _ (hl x), ←e,vO _ _ _ _ hi]
def Zs {α:Type} (P X M Y S:List α) (i:Nat):List α:=P++(Y.take i++X.drop i)++M++(X.take i++Y.drop i)++S
theorem azR {α:Type} (P X M Y S:List α):P++X++M++Y++S=Zs P X M Y S 0:=by simp [Zs]
theorem aEJ {α:Type} (P X M Y S:List α) {n:Nat} (hx:X.length=n) (hy:Y.length=n):Zs P X M Y S n=P++Y++M++X++S:=by
 unfold Zs;rw[dc (by omega:Y.length≤n),dc (by omega:X.length≤n),mc (by omega:X.length≤n),mc (by omega:Y.length≤n),jc,jc]
theorem azS {α:Type} (P X M Y S:List α) {n i a b:Nat} {x y:α} (hx:X[i]? =some x) (hy:Y[i]? =some y) (hxl:X.length=n) (hyl:Y.length=n) (ha:P.length=a) (hb:a+n+M.length=b):(Zs P X M Y S i)[a+i]? =some x∧(Zs P X M Y S i)[b+i]? =some y∧((Zs P X M Y S i).set (a+i) y)[b+i]? =some y∧((Zs P X M Y S i).set (a+i) y).set (b+i) x=Zs P X M Y S (i+1):=by
 obtain⟨h1,h2⟩:=ah.1 hx;obtain⟨h3,h4⟩:=ah.1 hy;have ex:X.drop i=x::X.drop (i+1):=by rw[cu h1,h2]
 have ey:Y.drop i=y::Y.drop (i+1):=by rw[cu h3,h4]
 have tx:X.take (i+1)=X.take i++[x]:=by rw[ki,hx];rfl
 have ty:Y.take (i+1)=Y.take i++[y]:=by rw[ki,hy];rfl
 have e:Zs P X M Y S i=(P++Y.take i)++x::((X.drop (i+1)++M++X.take i)++y::(Y.drop (i+1)++S)):=by
  unfold Zs;rw[ex,ey];simp
 have e':Zs P X M Y S (i+1)=(P++Y.take i)++y::((X.drop (i+1)++M++X.take i)++x::(Y.drop (i+1)++S)):=by
  unfold Zs;rw[tx,ty];simp
 have h:=AL (P++Y.take i) (X.drop (i+1)++M++X.take i) (Y.drop (i+1)++S) x y (i:=a+i) (j:=b+i) (by rw[ag,b9];omega) (by rw[ag,ag,b9,eu];omega);rw[e,e'];exact⟨h.1,h.2.1,h.2.2.1,h.2.2.2.1⟩
theorem aEK {α:Type} (P X M Y S:List α) (n i:Nat) (hxl:X.length=n) (hyl:Y.length=n):(Zs P X M Y S i).length=(P++X++M++Y++S).length:=by
 unfold Zs;simp only[ag,b9,eu];omega
attribute [local irreducible] box own sl gH aH bC Qt cJ cG dC dG eO
theorem DR (q:Option Addr) (c:Nat) (cv:Value) (P X M Y S:List CV) (n a b N:Nat) (hx:X.length=n) (hy:Y.length=n) (ha:P.length=a) (hb:a+n+M.length=b) (hN:(P++X++M++Y++S).length=N) (hN0:0<N) (hNb:N≤1000000000):
  Ct Tryz.prog 363 [.slice q N c, .int .i64 (a:Int), .int .i64 (b:Int), .int .i64 (n:Int),cv] [own (.slice q N c) 437 2 N (flat fC (P++X++M++Y++S))]
   fun v H'=>v= .tuple #[]∧H'=[own (.slice q N c) 437 2 N (flat fC (P++Y++M++X++S))]:=by
 have hlen:P.length+X.length+M.length+Y.length+S.length=N:=by rw[←hN];simp only[ag]
 rw[←aEJ P X M Y S hx hy,azR];(refine Ye Tryz.func363 Tryz.ntmps363 ?_;intro Fr);refine mD aN (by omega) ?_;rintro g rfl hc;refine aZ ?_;(refine aC (σ:=Nat) (fun i=>i≤n) (fun i=>[(10, .int .i64 (i:Int))]) (fun i=>[own (.slice (some ⟨g,0,none⟩) N c) 437 2 N (flat fC (Zs P X M Y S i))]) _ (fun i=>n-i) (0) Zp (by exact gA) Zb (fun i hi=> ?_);refine Da ?_);rcases Nat.lt_or_ge i n with hlt|hge
 ·obtain⟨x,hxi⟩: ∃ x,X[i]? =some x:=⟨_,aj (by omega)⟩;obtain⟨y,hyi⟩: ∃ y,Y[i]? =some y:=⟨_,aj (by omega)⟩;obtain⟨z1,z2,z3,z4⟩:=azS P X M Y S hxi hyi hx hy ha hb;have hai:(a:Int)+(i:Int)=((a+i:Nat):Int):=by omega
  have hbi:(b:Int)+(i:Int)=((b+i:Nat):Int):=by omega
  have hA:a+i<N:=by omega
  have hB:b+i<N:=by omega
  have hzl:=aEK P X M Y S n i hx hy;rw[hN] at hzl;generalize Zs P X M Y S i=Z at*;refine dN ?_;refine IM (by kernel_rfl) Za ?_;refine aL 0 rfl wt (by decide +kernel) rfl (cD rfl rfl) ?_;refine aL 1 rfl wt (by decide +kernel) rfl (cD rfl rfl) ?_;refine aL 2 rfl wt (by decide +kernel) rfl (cD rfl rfl) ?_;refine aL 3 rfl wt (by decide +kernel) rfl (ES rfl rfl rfl (by omega)) ?_;refine aL 4 rfl wt (by decide +kernel) rfl (cD rfl rfl) ?_;refine aL 5 rfl wt (by decide +kernel) rfl (cD rfl rfl) ?_;refine aL 6 rfl wt (by decide +kernel) rfl (cD rfl rfl) ?_;refine aL 7 rfl wt (by decide +kernel) rfl (ES rfl rfl rfl (by omega)) ?_;refine aL 8 rfl wt (by decide +kernel) rfl (cD rfl rfl) ?_;refine aL 9 rfl wt (by decide +kernel) rfl (cD rfl rfl) ?_;refine aL 10 rfl wt (by decide +kernel) rfl (cD rfl rfl) ?_;refine aL 11 rfl wt (by decide +kernel) rfl (ES rfl rfl rfl (by omega)) ?_;rw[hbi];refine aL 12 rfl wt (by decide +kernel) rfl (jJ (i:=b+i) rfl rfl rfl hB) ?_;refine aL 14 rfl wt (by decide +kernel) rfl (cD rfl rfl) ?_;refine aL 15 rfl wt (by decide +kernel) rfl (cD rfl rfl) ?_;refine aL 16 rfl wt (by decide +kernel) rfl (cD rfl rfl) ?_;refine aL 17 rfl wt (by decide +kernel) rfl (ES rfl rfl rfl (by omega)) ?_;rw[hai];refine aL 18 rfl wt (by decide +kernel) rfl (jJ (i:=a+i) rfl rfl rfl hA) ?_;refine IP (Hq:=[own (.slice (some ⟨g,0,none⟩) N c) 437 2 N (flat fC Z)]) (nk:=[21,22,23]) (r:=1) (i:=0) ?_;refine gX ?_;(refine aA 21 ?_;refine Ob (l:=by exact (aG (f:=fC) (q':=y) rfl rfl rfl rfl (by exact aN) rfl (by omega) (by intro _;rfl) (by assumption) rfl rfl (by rfl))) (k:= ?_);rintro _ _ ⟨rfl,rfl⟩;refine Te ?_;(try refine Da ?_));(refine aA 22 ?_;refine Oa (l:=by exact (gV (bR (i:=b+i) rfl rfl rfl aN (by omega) (by omega)))) (k:= ?_);rintro _ _ ⟨rfl,rfl⟩;refine Te ?_;(try refine Da ?_));(refine aA 23 ?_;refine Ob (l:=by exact (aG (f:=fC) (q':=x) rfl rfl rfl rfl (by exact aN) rfl (by omega) (by intro _;rfl) (by assumption) rfl rfl (by rfl))) (k:= ?_);rintro _ _ ⟨rfl,rfl⟩;refine Te ?_;(try refine Da ?_));rw[z4];refine pT ?_;refine Ee (i+1) ?_ ?_
  ·exact hlt
  ·omega
 ·have hin:i=n:=by omega
  subst hin;refine aZ ?_;exact Eb (x:=⟨rfl,rfl⟩)
theorem LY (q:Option Addr) (c:Nat) (cv:Value) (P A B S:List CV) (a m b N:Nat) (ha:P.length=a) (hm:a+A.length=m) (hb:m+B.length=b) (hA0:0<A.length) (hB0:0<B.length) (hN:(P++A++B++S).length=N) (hNb:N≤1000000000):
  Ct Tryz.prog 362 [.slice q N c, .int .i64 (a:Int), .int .i64 (m:Int), .int .i64 (b:Int),cv] [own (.slice q N c) 437 2 N (flat fC (P++A++B++S))]
   fun v H'=>v= .tuple #[]∧H'=[own (.slice q N c) 437 2 N (flat fC (P++B++A++S))]:=by
 have hlen:P.length+A.length+B.length+S.length=N:=by rw[←hN];simp only[ag]
 have hN0:0<N:=by omega
 have e1:(m:Int)-(a:Int)=(A.length:Int):=by omega
 have e2:(b:Int)-(m:Int)=(B.length:Int):=by omega
 rw[show P++A++B++S=P++[]++A++B++[]++S by simp];(refine Ye Tryz.func362 Tryz.ntmps362 ?_;intro Fr);refine aZ ?_;rw[e1,e2];(refine aC (σ:=List CV×List CV×List CV×List CV) (fun x=>((0<x.2.1.length∧0<x.2.2.1.length)∧(a+x.1.length+x.2.1.length=m∧m+x.2.2.1.length+x.2.2.2.length=b))∧x.1++x.2.2.1++x.2.1++x.2.2.2=B++A) (fun x=>[(10, .int .i64 (x.2.1.length:Int)),(11, .int .i64 (x.2.2.1.length:Int))]) (fun x=>[own (.slice q N c) 437 2 N (flat fC (P++x.1++x.2.1++x.2.2.1++x.2.2.2++S))]) _ (fun x=>x.2.1.length+x.2.2.1.length) (([],A,B,[])) (by exact⟨⟨⟨hA0,hB0⟩,by dsimp only;simp only[lk];omega⟩,by simp⟩) (by exact gA) Zb (fun⟨D1,X,Y,D2⟩ ⟨⟨⟨hX,hY⟩,hl1,hl2⟩,hE⟩=> ?_);refine Da ?_);dsimp only at hX hY hl1 hl2 hE;have hmi:(m:Int)-(X.length:Int)=((a+D1.length:Nat):Int):=by omega
 rcases Nat.lt_trichotomy X.length Y.length with g|g|g
 ·have hYt:Y=Y.take (Y.length-X.length)++Y.drop (Y.length-X.length):=(il _ _).symm;have hy1:(Y.take (Y.length-X.length)).length=Y.length-X.length:=by rw[b9];omega
  have hy2:(Y.drop (Y.length-X.length)).length=X.length:=by rw[eu];omega
  generalize Y.take (Y.length-X.length)=Y1 at*;generalize Y.drop (Y.length-X.length)=Y2 at*;have hyl:Y.length=Y1.length+X.length:=by omega
  subst hYt;have hmj:(m:Int)+((Y1++Y2).length:Int)-(X.length:Int)=((m+Y1.length:Nat):Int):=by rw[ag];omega
  have hji:((Y1++Y2).length:Int)-(X.length:Int)=(Y1.length:Int):=by rw[ag];omega
  have SW:=DR q c cv (P++D1) X Y1 Y2 (D2++S) X.length (a+D1.length) (m+Y1.length) N rfl hy2 (by rw[ag,ha]) (by omega) (by simp only[ag] at hl2 ⊢;omega) hN0 hNb;rw[show P++D1++X++(Y1++Y2)++D2++S=P++D1++X++Y1++Y2++(D2++S) by simp];refine aZ ?_;rw[hmi,hmj];refine aI wt rfl (aV rfl SW rfl PG) ?_;rintro _ _ ⟨_,⟨rfl,rfl⟩,rfl⟩;dsimp only[jg,fe];refine eU ?_;rw[hji, ←hy2,show P++D1++Y2++Y1++X++(D2++S)=P++D1++Y2++Y1++(X++D2)++S by simp];refine Ee ((D1,Y2,Y1,X++D2)) ?_ ?_
  ·refine⟨⟨⟨by dsimp only;omega,by dsimp only;omega⟩,by dsimp only;omega, ?_⟩, ?_⟩
   ·dsimp only;rw[ag] at hl2 ⊢;omega
   ·rw[←hE];simp
  ·dsimp only;rw[ag];omega
 ·have SW:=DR q c cv (P++D1) X [] Y (D2++S) X.length (a+D1.length) m N rfl g.symm (by rw[ag,ha]) (by simp only[lk];omega) (by simp only[ag,lk];omega) hN0 hNb;rw[show P++D1++X++Y++D2++S=P++D1++X++[]++Y++(D2++S) by simp];refine aZ ?_;rw[hmi];refine aI wt rfl (aV rfl SW rfl PG) ?_;rintro _ _ ⟨_,⟨rfl,rfl⟩,rfl⟩;dsimp only[jg,fe];rw[show P++D1++Y++[]++X++(D2++S)=P++(D1++Y++X++D2)++S by simp,hE,show P++(B++A)++S=P++B++A++S by simp];refine eU ?_;exact Eb (x:=⟨rfl,rfl⟩)
 ·have hXt:X=X.take Y.length++X.drop Y.length:=(il _ _).symm;have hx1:(X.take Y.length).length=Y.length:=by rw[b9];omega
  have hx2:(X.drop Y.length).length=X.length-Y.length:=by rw[eu]
  generalize X.take Y.length=X1 at*;generalize X.drop Y.length=X2 at*;have hxl:X.length=Y.length+X2.length:=by omega
  subst hXt;have hij:((X1++X2).length:Int)-(Y.length:Int)=(X2.length:Int):=by rw[ag];omega
  have SW:=DR q c cv (P++D1) X1 X2 Y (D2++S) Y.length (a+D1.length) m N hx1 rfl (by rw[ag,ha]) (by omega) (by simp only[ag] at hl1 ⊢;omega) hN0 hNb;rw[show P++D1++(X1++X2)++Y++D2++S=P++D1++X1++X2++Y++(D2++S) by simp];refine aZ ?_;rw[hmi];refine aI wt rfl (aV rfl SW rfl PG) ?_;rintro _ _ ⟨_,⟨rfl,rfl⟩,rfl⟩;dsimp only[jg,fe];refine eU ?_;rw[hij, ←hx1,show P++D1++Y++X2++X1++(D2++S)=P++(D1++Y)++X2++X1++D2++S by simp];refine Ee ((D1++Y,X2,X1,D2)) ?_ ?_
  ·refine⟨⟨⟨by dsimp only;omega,by dsimp only;omega⟩, ?_,by dsimp only;omega⟩, ?_⟩
   ·dsimp only;rw[ag] at hl1 ⊢;omega
   ·rw[←hE];simp
  ·dsimp only;rw[ag];omega
end Go.Proofs.YtbjalbcdbgcgdaaGreat.nJ
