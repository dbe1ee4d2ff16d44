/- Law HandStale: its texts, packed. -/
import Derived.Test.YtbjalbcdbgcgdaaGreatK32
import Derived.Lib.Bytealg
import Derived.Test.YtbjalbcdbgcgdaaGreatK07
import Derived.Test.YtbjalbcdbgcgdaaGreatK15
import Derived.Test.YtbjalbcdbgcgdaaGreatK30
open List renaming getD_eq_getElem?_getD->iw,getElem?_eq_getElem->aj,length_append->ag,length_cons->fb,length_drop->eu,length_singleton->df,length_take->b9,mem_cons->aw,mem_cons_of_mem->ax,mem_cons_self->bc,mem_of_getElem?->jm,pairwise_cons->au,take_of_length_le->dc
open Nat renaming add_comm->ij,le_refl->aq,lt_or_ge->iq,zero_le->fg
open UInt8 renaming lt_iff_toNat_lt->oe,ofNat->gl,ofNat_toNat->oo,toNat_inj->iu,toNat_ofNat'->oh
open Bool renaming and_eq_true->fl,or_eq_true->oq
set_option linter.unusedVariables false
set_option maxRecDepth 100000
set_option maxHeartbeats 8000000
namespace Go.Proofs.YtbjalbcdbgcgdaaGreat.yQ
open Go.RowKit bG sl
abbrev blt:List UInt8→List UInt8→Bool:=Op.bytesLess
theorem oS: ∀ a:List UInt8,blt a a=false
 |[]=>rfl
 |x::a=>by
  show (decide (x<x)||(x==x&&blt a a))=false;rw[oS a];simp
theorem vU: ∀ {a b c:List UInt8},blt a b=true→blt b c=true→blt a c=true
 |_,[],_,h,_=>by simp [blt,Op.bytesLess] at h
 |_,_::_,[],_,h=>by simp [blt,Op.bytesLess] at h
 |[],_::_,_::_,_,_=>rfl
 |x::a,y::b,z::c,h1,h2=>by
  change (decide (x<y)||(x==y&&blt a b))=true at h1;change (decide (y<z)||(y==z&&blt b c))=true at h2;show (decide (x<z)||(x==z&&blt a c))=true;simp only[oq,fl,decide_eq_true_eq,beq_iff_eq] at*;rcases h1 with h1|⟨rfl,h1⟩
  ·rcases h2 with h2|⟨rfl,h2⟩
   ·exact .inl (UInt8.lt_trans h1 h2)
   ·exact .inl h1
  ·rcases h2 with h2|⟨rfl,h2⟩
   ·exact .inl h2
   ·exact .inr ⟨rfl,vU h1 h2⟩
theorem ajJ: ∀ a b:List UInt8,blt a b=true∨a=b∨blt b a=true
 |[],[]=> .inr (.inl rfl)
 |[],_::_=> .inl rfl
 |_::_,[]=> .inr (.inr rfl)
 |x::a,y::b=>by
  show (decide (x<y)||(x==y&&blt a b))=true∨_∨(decide (y<x)||(y==x&&blt b a))=true;simp only[oq,fl,decide_eq_true_eq,beq_iff_eq];rcases Nat.lt_trichotomy x.toNat y.toNat with h|h|h
  ·exact .inl (.inl (oe.2 h))
  ·have:x=y:=iu.1 h;subst this;rcases ajJ a b with h|h|h
   ·exact .inl (.inr ⟨rfl,h⟩)
   ·exact .inr (.inl (by rw[h]))
   ·exact .inr (.inr (.inr ⟨rfl,h⟩))
  ·exact .inr (.inr (.inl (oe.2 h)))
theorem avG {a b:List UInt8} (h:blt a b=true):a≠b:=fun e=>by
 subst e;rw[oS] at h;cases h
theorem ajK: ∀ a b:List UInt8,Lib.compareBytes a b=if blt a b then -1 else if a=b then 0 else 1
 |[],[]=>rfl
 |[],_::_=>rfl
 |_::_,[]=>rfl
 |x::a,y::b=>by
  unfold Lib.compareBytes;show _=if (decide (x<y)||(x==y&&blt a b))=true then _ else _
  rw[ajK a b];by_cases h1:x<y
  ·simp [h1]
  ·by_cases h2:y<x
   ·have h3: ¬ x=y:=fun e=>by subst e;exact h1 h2
    simp [h1,h2,h3]
   ·have h3 : x = y := iu.1 (by
     have e1: ¬ x.toNat<y.toNat:=fun h=>h1 (oe.2 h)
     have e2: ¬ y.toNat<x.toNat:=fun h=>h2 (oe.2 h)
     omega)
    subst h3;simp [h1]
section
variable {P:Program} {n:Nat} {F:dF} {H R:List Ent} {o:Oper} {x y z:Operand} {v u z':Value} {T S:TypeId}
theorem avH {a b:List UInt8} {T':TypeId} {r:Bool} (ho:o.op= .binOp .geq T x y T') (hx:ev F x=some (.string (str a))) (hy:ev F y=some (.string (str b))) (hr:(!(blt a b))=r):Qt P n o F H (.bool r):=fun ac w ha _=>by
 have e1: ∀ l,(str l).toList=l:=oC;simp [execOp,ho,ha.eval hx,ha.eval hy,eqGuard,binOp,Op.stringOp,e1, ←hr]
end
end Go.Proofs.YtbjalbcdbgcgdaaGreat.yQ
namespace Go.Proofs.YtbjalbcdbgcgdaaGreat.dir
open Go.RowKit bG sl yQ
abbrev bA:=List UInt8×Int
def fE (p:bA):List Value:=[.string (str p.1), .int .i64 p.2]
theorem xH (p:bA): ∀ u∈fE p,u.oneCell'=true:=by simp [fE,Value.oneCell']
def mE (p:bA):Int:=if ¬ iN p.1 then 11 else if p.2<0∨48≤p.2 then 1 else 0
theorem gE {p:bA} (h:mE p=0):iN p.1∧0≤p.2∧p.2<48:=by
 unfold mE at h;split at h
 ·cases h
 ·split at h
  ·cases h
  ·exact⟨by simpa using ‹¬ ¬ iN p.1›,by omega,by omega⟩
theorem VU {p:bA} (h:iN p.1∧0≤p.2∧p.2<48):mE p=0:=by
 unfold mE;rw[if_neg (by simpa using h.1),if_neg (by omega)]
def okP:Option (List UInt8)→List UInt8→Bool
 |none,_=>true
 |some p,x=>blt p x
def chk (prev:Option (List UInt8)):List bA→Int
 |[]=>0
 |x::l=>if mE x≠0 then mE x else if okP prev x.1=false then 4 else chk (some x.1) l
def oT (l:List bA) (k:Nat):Option (List UInt8):=if k=0 then none else (l[k-1]?).map (·.1)
def bL (l:List bA):Int:=if 24<l.length then 2 else chk none l
theorem mW {l:List bA}: ∀ {prev},chk prev l=0→(∀ x∈l,mE x=0)∧(∀ p,prev=some p→ ∀ x∈l,blt p x.1=true)∧l.Pairwise fun a b=>blt a.1 b.1=true:=by
 induction l with
 |nil=>exact fun _=>⟨by simp,by simp,List.Pairwise.nil⟩
 |cons x l ih=>
  intro prev h;unfold chk at h;split at h
  ·exact absurd h ‹_›
  ·rename_i h1;have h1:mE x=0:=by simpa using h1
   split at h
   ·cases h
   ·rename_i h2;obtain⟨a1,a2,a3⟩:=ih h;have a4:=a2 x.1 rfl;refine⟨fun y hy=> ?_,fun p hp y hy=> ?_,au.2 ⟨a4,a3⟩⟩
    ·rcases aw.1 hy with rfl|hy
     ·exact h1
     ·exact a1 y hy
    ·subst hp;have h3:blt p x.1=true:=by simpa [okP] using h2
     rcases aw.1 hy with rfl|hy
     ·exact h3
     ·exact vU h3 (a4 y hy)
theorem aEU {l:List bA}: ∀ {prev},(∀ x∈l,mE x=0)→(∀ p,prev=some p→ ∀ x∈l,blt p x.1=true)→(l.Pairwise fun a b=>blt a.1 b.1=true)→chk prev l=0:=by
 induction l with
 |nil=>exact fun _ _ _=>rfl
 |cons x l ih=>
  intro prev h1 h2 h3;have h4:=au.1 h3;unfold chk;rw[if_neg (by simpa using h1 x bc),if_neg]
  ·exact ih (fun y hy=>h1 y (ax _ hy)) (fun p hp y hy=>by cases hp;exact h4.1 y hy) h4.2
  ·cases prev with
   |none=>simp [okP]
   |some p=>simp [okP,h2 p rfl x bc]
def kZ (l:List bA):Prop:=l.length≤24∧(∀ x∈l,mE x=0)∧l.Pairwise fun a b=>blt a.1 b.1=true
theorem cW (l:List bA):bL l=0↔kZ l:=by
 unfold bL kZ;constructor
 ·intro h;split at h
  ·cases h
  ·obtain⟨a1,_,a3⟩:=mW h;exact⟨by omega,a1,a3⟩
 ·rintro⟨h1,h2,h3⟩;rw[if_neg (by omega)];exact aEU h2 (by simp) h3
theorem avJ {l:List bA} {k:Nat} {x:bA} (h:l[k]? =some x):chk (oT l k) (l.drop k)=if mE x≠0 then mE x else if okP (oT l k) x.1=false then 4 else chk (oT l (k+1)) (l.drop (k+1)):=by
 obtain⟨hlt,he⟩:=List.getElem?_eq_some_iff.1 h;have e:l.drop k=x::l.drop (k+1):=by rw[List.drop_eq_getElem_cons hlt,he]
 rw[e];have e2:oT l (k+1)=some x.1:=by unfold oT;rw[if_neg (by omega),Nat.add_sub_cancel,h];rfl
 rw[e2];rfl
attribute [local irreducible] box own sl gH aH bC Qt cJ cG dC dG eO
theorem zM (p:bA) (hs:p.1.length≤9223372036854775807):Ct Tryz.prog 211 [.agg #[.string (str p.1), .int .i64 p.2]] [] fun v H'=>v= .int .i64 (mE p)∧H'=[]:=by
 have G0:=BD p.1 hs;by_cases h1:iN p.1
 ·have e:lP p.1=0:=by unfold lP;rw[if_pos h1]
  rw[e] at G0;by_cases h2:p.2<0
  ·have e2:mE p=1:=by unfold mE;rw[if_neg (by simpa using h1),if_pos (.inl h2)]
   rw[e2];(refine Ye Tryz.func211 Tryz.ntmps211 ?_;intro Fr);(repeat' (first|refine Wa ?_|refine We ?_|(refine Wb ?_;intro b)|refine Wc (G0 ..) ?_|fail));exact Ea (x:=⟨rfl,rfl⟩)
  ·by_cases h3:48≤p.2
   ·have e2:mE p=1:=by unfold mE;rw[if_neg (by simpa using h1),if_pos (.inr h3)]
    rw[e2];(refine Ye Tryz.func211 Tryz.ntmps211 ?_;intro Fr);(repeat' (first|refine Wa ?_|refine We ?_|(refine Wb ?_;intro b)|refine Wc (G0 ..) ?_|fail));exact Ea (x:=⟨rfl,rfl⟩)
   ·have e2:mE p=0:=VU ⟨h1,by omega,by omega⟩;rw[e2];(refine Ye Tryz.func211 Tryz.ntmps211 ?_;intro Fr);(repeat' (first|refine Wa ?_|refine We ?_|(refine Wb ?_;intro b)|refine Wc (G0 ..) ?_|fail));exact Ea (x:=⟨rfl,rfl⟩)
 ·have e:lP p.1=11:=by unfold lP;rw[if_neg h1]
  rw[e] at G0;have e2:mE p=11:=by unfold mE;rw[if_pos h1]
  rw[e2];(refine Ye Tryz.func211 Tryz.ntmps211 ?_;intro Fr);(repeat' (first|refine Wa ?_|refine We ?_|(refine Wb ?_;intro b)|refine Wc (G0 ..) ?_|fail));exact Ea (x:=⟨rfl,rfl⟩)
theorem bH (q:Option Addr) (c:Nat) (l:List bA) (hn:l.length≤1000000000000000000) (hs: ∀ p∈l,p.1.length≤9223372036854775807):
  Ct Tryz.prog 204 [.slice q l.length c] [sl 2 (.slice q l.length c) (l.map fE)] fun v H'=>v= .int .i64 (bL l)∧H'=[]:=by
 by_cases h0:24<l.length
 ·have e:bL l=2:=by unfold bL;rw[if_pos h0]
  rw[e];(refine Ye Tryz.func204 Tryz.ntmps204 ?_;intro Fr);refine aZ ?_;exact Ea (x:=⟨rfl,rfl⟩)
 ·have e:bL l=chk (oT l 0) (l.drop 0):=by unfold bL;rw[if_neg h0];rfl
  rw[e];obtain⟨r,hr⟩: ∃ r,chk (oT l 0) (l.drop 0)=r:=⟨_,rfl⟩;rw[hr];(refine Ye Tryz.func204 Tryz.ntmps204 ?_;intro Fr);refine aZ ?_;(refine cK (σ:=Nat) (fun k=>k≤l.length∧chk (oT l k) (l.drop k)=r) (fun k=>[(11, .int .i64 (k:Int))]) (fun k=>l.length-k) (0) (by exact⟨fg _,hr⟩) (by exact gA) (fun k ⟨hk,hd⟩=> ?_);refine Da ?_);rcases iq k l.length with hlt|hge
  ·obtain⟨p,hpk⟩: ∃ p,l[k]? =some p:=⟨_,aj hlt⟩;have F0:=zM p (hs p (jm hpk));rw[avJ hpk] at hd;by_cases h1:mE p=0
   ·rw[if_neg (by simpa using h1)] at hd;rw[h1] at F0;rcases Nat.eq_zero_or_pos k with h2|h2
    ·subst h2;rw[if_neg (by unfold oT;rw[if_pos rfl];simp [okP])] at hd;(repeat' (first|refine Wa ?_|refine Wk ?_|refine We ?_|(refine Wb ?_;intro b)|refine Wc (F0 ..) ?_|fail));refine Ee (0+1) ?_ ?_
     ·exact⟨by omega,hd⟩
     ·show l.length-(0+1)<l.length-0;omega
    ·obtain⟨o,hok⟩: ∃ o,l[k-1]? =some o:=⟨_,aj (by omega)⟩;have e3:oT l k=some o.1:=by unfold oT;rw[if_neg (by omega),hok];rfl
     rw[e3] at hd;have hk1:(k:Int)-1=((k-1:Nat):Int):=by omega
     cases hb:blt o.1 p.1 with
     |true=>
      rw[show okP (some o.1) p.1=true from hb,if_neg (by simp)] at hd;(repeat' (first|refine Wa ?_|refine Wk ?_|refine We ?_|(refine Wb ?_;intro b)|refine Wc (F0 ..) ?_|refine Wz ?_|fail));(refine aA 6 ?_;refine aU _ rfl rfl wt (by decide +kernel) iS rfl (jF (i:=k-1) rfl rfl rfl aN hk1 Zu) ?_);refine gX ?_;(refine aA 11 ?_;refine aU _ rfl rfl wt (by decide +kernel) iS rfl (avH rfl rfl rfl (r:=false) (by rw[hb];rfl)) ?_);refine pT ?_;refine Ee (k+1) ?_ ?_
      ·exact⟨by omega,hd⟩
      ·show l.length-(k+1)<l.length-k;omega
     |false=>
      rw[show okP (some o.1) p.1=false from hb,if_pos rfl] at hd;subst hd;(repeat' (first|refine Wa ?_|refine Wk ?_|refine We ?_|(refine Wb ?_;intro b)|refine Wc (F0 ..) ?_|refine Wz ?_|fail));(refine aA 6 ?_;refine aU _ rfl rfl wt (by decide +kernel) iS rfl (jF (i:=k-1) rfl rfl rfl aN hk1 Zu) ?_);refine gX ?_;(refine aA 11 ?_;refine aU _ rfl rfl wt (by decide +kernel) iS rfl (avH rfl rfl rfl (r:=true) (by rw[hb];rfl)) ?_);refine KA ?_;exact Ea (x:=⟨rfl,rfl⟩)
   ·rw[if_pos (by simpa using h1)] at hd;subst hd;generalize mE p=e at*;(repeat' (first|refine Wa ?_|refine We ?_|(refine Wb ?_;intro b)|refine Wc (F0 ..) ?_|fail));exact Ea (x:=⟨rfl,rfl⟩)
  ·rw[List.drop_eq_nil_of_le hge] at hd;have:r=0:=hd.symm;subst this;refine aZ ?_;exact Ea (x:=⟨rfl,rfl⟩)
end Go.Proofs.YtbjalbcdbgcgdaaGreat.dir
namespace Go.Proofs.YtbjalbcdbgcgdaaGreat.dir
open Go.RowKit bG sl yQ bld
def BE (p:bA):List UInt8:=gl p.1.length::(p.1++[gl p.2.toNat])
def gT:List bA→List UInt8
 |[]=>[]
 |p::l=>BE p++gT l
theorem avK (a b:List bA):gT (a++b)=gT a++gT b:=by
 induction a with
 |nil=>rfl
 |cons p a ih=>show BE p++gT (a++b)=_;rw[ih];show _=(BE p++gT a)++gT b;rw[List.append_assoc]
theorem avL (p:bA):(BE p).length=p.1.length+2:=by simp [BE]
theorem abB {l:List bA} (h: ∀ p∈l,p.1.length≤12):(gT l).length≤14*l.length:=by
 induction l with
 |nil=>simp [gT]
 |cons p l ih=>
  have h1:=ih fun q hq=>h q (ax _ hq)
  have h2:=h p bc;show (BE p++gT l).length≤_;rw[ag,avL,fb];omega
def wrD (l:List bA):List UInt8:=if bL l=0 then gT l else []
def NG:Nat→List UInt8→Option (List bA)
 |_,[]=>some []
 |0,_::_=>none
 |f+1,n::r=>if r.length<n.toNat+1 then none else (NG f (r.drop (n.toNat+1))).map fun l=>(r.take n.toNat,((r.getD n.toNat 0).toNat:Int))::l
theorem GB: ∀ {f g:Nat} {s:List UInt8},s.length≤f→s.length≤g→NG f s=NG g s
 |f,g,[],_,_=>by cases f<;>cases g<;>rfl
 |0,_,_::_,h,_=>by simp at h
 |_+1,0,_::_,_,h=>by simp at h
 |f+1,g+1,n::r,h1,h2=>by
  rw[fb] at h1 h2;unfold NG;split
  ·rfl
  ·rw[GB (f:=f) (g:=g) Zk Zk]
def parse (s:List UInt8):Option (List bA):=NG s.length s
theorem aoA:parse []=some []:=rfl
theorem yC {r:List UInt8} {n:UInt8} (h:r[0]? =some n):parse r=if r.length<n.toNat+2 then none else (parse (r.drop (n.toNat+2))).map fun l=>((r.drop 1).take n.toNat,((r.getD (1+n.toNat) 0).toNat:Int))::l:=by
 match r,h with
 |m::r,h=>
  cases h;unfold parse;rw[fb];show (if r.length<n.toNat+1 then none else _)=_;by_cases h1:r.length<n.toNat+1
  ·rw[if_pos h1,if_pos (by omega)]
  ·rw[if_neg h1,if_neg (by omega)];have e:(n::r).drop (n.toNat+2)=r.drop (n.toNat+1):=rfl;rw[e,GB (f:=r.length) (g:=(r.drop (n.toNat+1)).length) Zk (aq _)];have e2:(n::r).getD (1+n.toNat) 0=r.getD n.toNat 0:=by rw[ij];rfl
   rw[e2];rfl
theorem aoB {p:bA} {r:List UInt8} (h1:p.1.length≤12) (h2:0≤p.2) (h3:p.2<48):parse (BE p++r)=(parse r).map fun l=>p::l:=by
 have hn:(gl p.1.length).toNat=p.1.length:=by rw[oh];omega
 have hi:((gl p.2.toNat).toNat:Int)=p.2:=by rw[oh];omega
 have hs:BE p++r=gl p.1.length::(p.1++(gl p.2.toNat::r)):=by simp [BE]
 rw[hs,yC (n:=gl p.1.length) rfl,hn,if_neg (by simp)];have e1:(gl p.1.length::(p.1++(gl p.2.toNat::r))).drop (p.1.length+2)=r:=by
  show (p.1++(gl p.2.toNat::r)).drop (p.1.length+1)=r;rw[List.drop_append];simp
 have e2:((gl p.1.length::(p.1++(gl p.2.toNat::r))).drop 1).take p.1.length=p.1:=by
  show (p.1++(gl p.2.toNat::r)).take p.1.length=p.1;exact List.take_left' rfl
 have e3:(gl p.1.length::(p.1++(gl p.2.toNat::r))).getD (1+p.1.length) 0=gl p.2.toNat:=by
  rw[ij];show (p.1++(gl p.2.toNat::r)).getD p.1.length 0=_;simp [iw]
 rw[e1,e2,e3,hi]
theorem NH: ∀ {l:List bA},(∀ p∈l,mE p=0)→parse (gT l)=some l
 |[],_=>rfl
 |p::l,h=>by
  obtain⟨h1,h2,h3⟩:=gE (h p bc);show parse (BE p++gT l)=_;rw[aoB h1.2.2.2.1 h2 h3,NH fun q hq=>h q (ax _ hq)];rfl
theorem afL: ∀ (f:Nat) {s:List UInt8} {l:List bA},s.length≤f→parse s=some l→gT l=s:=by
 intro f;induction f with
 |zero=>
  intro s l hf h;have:s=[]:=List.eq_nil_of_length_eq_zero (by omega);subst this;cases h;rfl
 |succ f ih=>
  intro s l hf h
  match s with
  |[]=>cases h;rfl
  |n::r=>
   rw[yC (n:=n) rfl] at h;split at h
   ·cases h
   ·rename_i hl;rw[fb] at hl hf;obtain⟨l',hl',rfl⟩:=Option.map_eq_some_iff.1 h;have e1:(n::r).drop (n.toNat+2)=r.drop (n.toNat+1):=rfl;have e2:(n::r).getD (1+n.toNat) 0=r.getD n.toNat 0:=by rw[ij];rfl
    rw[e1] at hl';have h1:=ih Zk hl';show BE _++gT l'=_;rw[h1,e2];show gl (r.take n.toNat).length::((r.take n.toNat)++[gl ((r.getD n.toNat 0).toNat:Int).toNat])++_=_;rw[b9,Nat.min_eq_left (by omega),Int.toNat_natCast,oo,oo];have hlt:n.toNat<r.length:=by omega
    have e3:r.getD n.toNat 0=r[n.toNat]:=by rw[iw,aj hlt];rfl
    rw[e3];simp
theorem aoC {s:List UInt8} {l:List bA} (h:parse s=some l):gT l=s:=afL s.length (aq _) h
def jN (s:List UInt8):Option (List bA):=(parse s).bind fun l=>if bL l=0 then some l else none
theorem jH {l:List bA} (h:bL l=0):jN (wrD l)=some l:=by
 unfold jN wrD;rw[if_pos h,NH ((cW l).1 h).2.1];show (if bL l=0 then some l else none)=_;rw[if_pos h]
theorem xK {s:List UInt8} {l:List bA} (h:jN s=some l):bL l=0∧wrD l=s:=by
 unfold jN at h;obtain⟨l',h1,h2⟩:=Option.bind_eq_some_iff.1 h;split at h2
 ·cases h2;exact⟨‹_›,by unfold wrD;rw[if_pos ‹_›];exact aoC h1⟩
 ·cases h2
attribute [local irreducible] box own sl gH aH bC Qt cJ cG dC dG eO
theorem jR (q:Option Addr) (c:Nat) (l:List bA) (hn:l.length≤1000000000000000000) (hs: ∀ p∈l,p.1.length≤9223372036854775807):
  Ct Tryz.prog 214 [.slice q l.length c] [sl 2 (.slice q l.length c) (l.map fE)] fun v H'=>v= .tuple #[.string (str (wrD l)), .int .i64 (bL l)]∧H'=[]:=by
 have C0:=bH q c l hn hs;by_cases h0:bL l=0
 ·have hw:wrD l=gT l:=by unfold wrD;rw[if_pos h0]
  rw[h0] at C0 ⊢;rw[hw];obtain⟨g1,g2,_⟩:=(cW l).1 h0;clear hw h0;(refine Ye Tryz.func214 Tryz.ntmps214 ?_;intro Fr);(repeat' (first|refine Wa ?_|refine We ?_|(refine Wb ?_;intro b)|refine Wc (C0 ..) ?_|fail));refine aT (aY _ 5 1) ?_;(refine aC (σ:=Nat×Value×Option Addr×Nat×List UInt8) (fun s=>s.1≤l.length∧s.2.2.2.2=gT (l.take s.1)∧(s.2.1= .pointer none∨s.2.1=me b)∧(s.1=0→s.2.2.1=none∧s.2.2.2.1=0)) (fun s=>[(15, .int .i64 (s.1:Int))]) (fun s=>[own (.slice s.2.2.1 s.2.2.2.2.length s.2.2.2.1) 5 1 s.2.2.2.2.length (flat fY s.2.2.2.2),box b [s.2.1, .slice s.2.2.1 s.2.2.2.2.length s.2.2.2.1] 313]) _ (fun s=>l.length-s.1) ((0, .pointer none,none,0,[])) (by exact⟨fg _,rfl, .inl rfl,fun _=>⟨rfl,rfl⟩⟩) (by exact gA) Zb (fun⟨k,pv,qx,cx,bs⟩ ⟨hk,hb,hp,h0⟩=> ?_);refine Da ?_);dsimp only at hk hb hp h0;rcases iq k l.length with hlt|hge
  ·obtain⟨p,hpk⟩: ∃ p,l[k]? =some p:=⟨_,aj hlt⟩;obtain⟨f1,f2,f3⟩:=gE (g2 p (jm hpk));have f4:=f1.2.2.2.1;have hst:gT (l.take (k+1))=bs++[gl p.1.length]++p.1++[gl p.2.toNat]:=by
    rw[take_one hpk,avK, ←hb];show bs++(BE p++[])=_;simp [BE]
   have hbl:bs.length≤1000:=by
    have:=abB (l:=l.take k) fun q hq=>(gE (g2 q (List.mem_of_mem_take hq))).1.2.2.2.1
    rw[←hb,b9] at this;omega
   obtain⟨x,hx⟩: ∃ x,x=gl p.1.length:=⟨_,rfl⟩;obtain⟨y,hy⟩: ∃ y,y=gl p.2.toNat:=⟨_,rfl⟩;rw[←hx, ←hy] at hst;have hxn:(x.toNat:Int)=(p.1.length:Int):=by rw[hx,oh];omega
   have hyn:(y.toNat:Int)=p.2:=by rw[hy,oh];omega
   have W1:=NC b pv hp qx cx bs x (by omega);rw[hxn] at W1;have W2:=fun q c=>yB b (me b) (.inr rfl) q c (bs++[x]) p.1 (by simp;omega)
   have W3:=fun q c=>NC b (me b) (.inr rfl) q c (bs++[x]++p.1) y (by simp;omega)
   rw[hyn] at W3;clear hx hy hxn hyn f1;(repeat' (first|refine Wa ?_|refine We ?_|(refine Wb ?_;intro b)|fail));(refine Ca (W1) ?_;rintro _ _ ⟨_,⟨q1,c1,rfl,rfl⟩,rfl⟩;refine Da ?_);refine aZ ?_;(refine Ca (W2 _ _) ?_;rintro _ _ ⟨_,⟨q2,c2,rfl,rfl⟩,rfl⟩;refine Da ?_);refine eU ?_;(refine Ca (W3 _ _) ?_;rintro _ _ ⟨_,⟨q3,c3,rfl,rfl⟩,rfl⟩;refine Da ?_);refine eU ?_;refine Ee ((k+1,_,q3,c3,bs++[x]++p.1++[y])) ?_ ?_
   ·exact⟨hlt,hst.symm, .inr rfl,fun h=>absurd h (by omega)⟩
   ·show l.length-(k+1)<l.length-k;omega
  ·rw [dc hge] at hb;have S0 := ND b cx qx pv bs fun h => h0 (by
    rw[hb] at h
    match l,h with
    |[],_=>simpa using hk
    | p :: l, h => simp [gT, BE] at h)
   rw[←hb];clear hb;(repeat' (first|refine Wa ?_|refine We ?_|refine Wc (S0 ..) ?_|fail));exact Ea (x:=⟨rfl,rfl⟩)
 ·have hw:wrD l=[]:=by unfold wrD;rw[if_neg h0]
  rw[hw];generalize bL l=e at*;(refine Ye Tryz.func214 Tryz.ntmps214 ?_;intro Fr);(repeat' (first|refine Wa ?_|refine We ?_|refine Wc (C0 ..) ?_|fail));exact Ea (x:=⟨rfl,rfl⟩)
def aAX (s:List UInt8) (v:Value) (H':List Ent):Prop:=
 (∃ zs q c,jN s=some zs∧v= .tuple #[.slice q zs.length c, .int .i64 0]∧H'=[own (.slice q zs.length c) 204 2 zs.length (flat fE zs)])∨
 (jN s=none∧v= .tuple #[.slice none 0 0, .int .i64 4]∧H'=[])
theorem oG (s:List UInt8) (hs:s.length≤1000000000000):
  Ct Tryz.prog 215 [.string (str s)] [] (aAX s):=by
 have ofE:=xH;(refine Ye Tryz.func215 Tryz.ntmps215 ?_;intro Fr);refine aZ ?_;refine aT (aY _ 204 2) ?_;(refine aC (σ:=List UInt8×List bA×Option Addr×Nat) (fun x=>x.1.length+2*x.2.1.length≤s.length∧parse s=(parse x.1).map (x.2.1++ ·)∧ ∀ p∈x.2.1,p.1.length≤255) (fun x=>[(0, .string (str x.1)),(4, .slice x.2.2.1 x.2.1.length x.2.2.2)]) (fun x=>[own (.slice x.2.2.1 x.2.1.length x.2.2.2) 204 2 x.2.1.length (flat fE x.2.1)]) _ (fun x=>x.1.length) ((s,[],none,0)) (by exact⟨by simp,by cases parse s<;>rfl,by simp⟩) (by exact gA) Zb (fun⟨r,zs,qx,cx⟩ ⟨hl,hp,hz⟩=> ?_);refine Da ?_);dsimp only at hl hp hz;by_cases hr:r=[]
 ·have e1:(r==[])=true:=by rw[hr];rfl
  have hps:parse s=some zs:=by rw[hp,hr,aoA];simp
  have C0:=fun q c=>bH q c zs (by omega) fun p h=>Nat.le_trans (hz p h) (by omega)
  by_cases hc:bL zs=0
  ·rw[hc] at C0;have hd:jN s=some zs:=by unfold jN;rw[hps];show (if _ then _ else _)=_;rw[if_pos hc]
   (repeat' (first|refine Wa ?_|refine We ?_|refine Wc (C0 ..) ?_|fail));exact Ea (x:= .inl ⟨zs,_,_,hd,rfl,rfl⟩)
  ·have hd:jN s=none:=by unfold jN;rw[hps];show (if _ then _ else _)=_;rw[if_neg hc]
   generalize bL zs=e at*;(repeat' (first|refine Wa ?_|refine We ?_|refine Wc (C0 ..) ?_|fail));exact Ea (x:= .inr ⟨hd,rfl,rfl⟩)
 ·have e1:(r==[])=false:=by simpa using hr
  obtain⟨n,hn⟩: ∃ n,r[0]? =some n:=⟨_,aj (List.length_pos_iff.2 hr)⟩;have hst:=yC hn;have hn8:=UInt8.toNat_lt n;by_cases h2:r.length<n.toNat+2
  ·rw[if_pos h2] at hst;have hd:jN s=none:=by unfold jN;rw[hp,hst];rfl
   refine aZ ?_;exact Ea (x:= .inr ⟨hd,rfl,rfl⟩)
  ·rw[if_neg h2] at hst;obtain⟨y,hy⟩: ∃ y,r[1+n.toNat]? =some y:=⟨_,aj (by omega)⟩;have hyd:r.getD (1+n.toNat) 0=y:=by rw[iw,hy];rfl
   rw[hyd] at hst;obtain⟨nm,hnm⟩: ∃ nm,(r.drop 1).take (1+n.toNat-1)=nm:=⟨_,rfl⟩;have hnm2:(r.drop 1).take n.toNat=nm:=by rw[←hnm,Nat.add_sub_cancel_left]
   rw[hnm2] at hst;have hc1:(1:Int)+(n.toNat:Int)=((1+n.toNat:Nat):Int):=by omega
   have hc2:(n.toNat:Int)+2=((n.toNat+2:Nat):Int):=by omega
   have hnml:nm.length≤255:=by rw[←hnm2,b9];omega
   clear hnm2 hyd;refine dN ?_;(refine aB (Hq:=[]) [] [] rfl (by kernel_rfl) Za ?_);refine gX ?_;(refine aA 11 ?_;refine Oa (l:=by exact aM rfl rfl rfl (by exact lE) rfl rfl (by decide) rfl) (k:= ?_);rintro _ _ ⟨q3,rfl,rfl⟩;refine Te ?_;(try refine Da ?_));(refine aA 12 ?_;refine Oa (l:=by exact (by first|exact Ma (fE) [(nm,(y.toNat:Int))] rfl|exact Mb (fE) [(nm,(y.toNat:Int))] rfl)) (k:= ?_);rintro _ _ ⟨q2,c2,rfl,rfl⟩;refine Te ?_;(try refine Da ?_));refine pT ?_;refine Ee ((r.drop (n.toNat+2),zs++[(nm,(y.toNat:Int))],q2,c2)) ?_ ?_
   ·refine⟨by dsimp only;rw[eu,ag,df];omega, ?_,fun p h=> ?_⟩
    ·dsimp only;rw[hp,hst];cases parse (r.drop (n.toNat+2)) with
     |none=>rfl
     |some l=>simp
    ·rcases List.mem_append.1 h with h|h
     ·exact hz p h
     ·rw[List.mem_singleton.1 h];exact hnml
   ·show (r.drop (n.toNat+2)).length<r.length;rw[eu];omega
end Go.Proofs.YtbjalbcdbgcgdaaGreat.dir
namespace Go.Proofs.YtbjalbcdbgcgdaaGreat.fs
open Go.RowKit bG sl aX fV dE dO use file
def NI (d:FD) (n z k:Nat) (p:Int×Int) (s:List UInt8):Prop:=
 p.1=0∧s=[]∨p.1≠0∧s.length=bZ z k∧ ∃ t,gZ d.cs d.ps (n:Int) (k:Int) p=(t,0)∧kG.pY s t
def afM (d:FD) (n z:Nat) (pl:List (Int×Int)) (ps:List (List UInt8)):Prop:=
 pl.length=aJ z∧ps.length=pl.length∧ ∀ k p s,pl[k]? =some p→ps[k]? =some s→NI d n z k p s
attribute [local irreducible] box own sl gH aH bC Qt cJ cG dC dG eO
theorem VV (b:Nat) (d:FD) (s t f o:Value) (n z:Nat) (kd gn:Int) (q:Option Addr) (c:Nat) (pl:List (Int×Int)) (ps:List (List UInt8)) (hg:aX.Good d.cs d.ps) (hz:z≤4096) (hD:afM d n z pl ps):
  Ct Tryz.prog 72 [aH b 0, .int .i64 (n:Int), .agg #[.int .i64 kd, .int .i64 gn, .int .i64 (z:Int), .slice q pl.length c]] (bE b d s t f o::sl 2 (.slice q pl.length c) (pl.map jW)::bB d) fun v H'=> ∃ q' c',v= .tuple #[.agg #[.int .i64 (z:Int), .slice q' ps.length c'], .int .i64 0]∧H'=[bE b d s t f o,own (.slice q' ps.length c') 9 1 ps.length (flat fT ps)]:=by
 obtain⟨hl,hpl,hD⟩:=hD;have PT:=fun k p=>YU d.a d.w d.ca d.cw d.cs d.ps (n:Int) k p hg
 obtain⟨a,ca,cs,w,cw,wl,m,cm,at',qg,cg,aE⟩:=d;have h8:pl.length≤8:=by unfold aJ at hl;omega
 have hkz: ∀ k,k<pl.length→512*k<z:=fun k hk=>uM (by omega)
 unfold bE bB;dsimp only at PT ⊢;(refine Ye Tryz.func72 Tryz.ntmps72 ?_;intro Fr);(repeat' (first|refine Wa ?_|refine Wk ?_|refine We ?_|(refine Wb ?_;intro b)|(refine Wq ?_;intro q)|(refine Ws ?_ ?_<;>intro h)|refine Wz ?_|fail));rename_i b6 b7;refine aT (aY _ 9 1) ?_;(refine aC (σ:=Nat×List (List UInt8)×Option Addr×Nat) (fun x=>x.1≤pl.length∧x.2.1=ps.take x.1∧x.2.1.length=x.1) (fun x=>[(20, .int .i64 (x.1:Int))]) (fun x=>[own (.slice x.2.2.1 x.2.1.length x.2.2.2) 9 1 x.2.1.length (flat fT x.2.1),box b [.int .i64 (z:Int), .slice x.2.2.1 x.2.1.length x.2.2.2] 67]) _ (fun x=>pl.length-x.1) ((0,[],none,0)) (by exact⟨fg _,rfl,rfl⟩) (by exact gA) Zb (fun⟨k,out,q2,c2⟩ ⟨hk,ho,hol⟩=> ?_);refine Da ?_);dsimp only at hk ho hol ⊢;rcases iJ pl k with⟨p,hp,hlt⟩|hge
 ·obtain⟨x,hx⟩: ∃ x,ps[k]? =some x:=⟨_,aj (by omega)⟩;have hpart:=hD k p x hp hx;have hto:ps.take (k+1)=out++[x]:=by rw[List.take_add_one,hx,ho];rfl
  have hz512:=hkz k hlt;rcases hpart with⟨h0,rfl⟩|⟨h0,hxl,tt,hpf,hpr⟩
  ·clear hD hkz ho;(repeat' (first|refine Wa ?_|refine Wk ?_|refine We ?_|(refine Wb ?_;intro b)|(refine Wq ?_;intro q)|(refine Ws ?_ ?_<;>intro h)|refine Wz ?_|fail));refine aI wt rfl (by first|exact Ma (fT) [([]:List UInt8)] rfl|exact Mb (fT) [([]:List UInt8)] rfl) ?_;rintro _ _ ⟨q5,c5,rfl,rfl⟩;(repeat' (first|refine Wa ?_|refine Wk ?_|refine We ?_|(refine Wb ?_;intro b)|(refine Wq ?_;intro q)|(refine Ws ?_ ?_<;>intro h)|refine Wz ?_|fail));refine Ee ((k+1,out++[[]],q5,c5)) ?_ ?_
   ·exact⟨hlt,hto.symm,by dsimp only;rw[ag,df,hol]⟩
   ·dsimp only;omega
  ·have P0:=PT (k:Int) p;dsimp only at hpf;rw[hpf] at P0;dsimp only at P0;have hx5:x.length≤512:=by rw[hxl];exact kK z k
   have O0:=kG.KE hx5 hpr;unfold bZ at hxl;clear hD hkz ho hpf hpr PT;(repeat' (first|refine Wa ?_|refine Wk ?_|refine We ?_|(refine Wb ?_;intro b)|(refine Wq ?_;intro q)|refine Wc (P0 ..) ?_|refine Wc (O0 ..) ?_|(refine Ws ?_ ?_<;>intro h)|refine Wz ?_|fail));refine aI wt rfl (by first|exact Ma (fT) [x] rfl|exact Mb (fT) [x] rfl) ?_;rintro _ _ ⟨q5,c5,rfl,rfl⟩;(repeat' (first|refine Wa ?_|refine Wk ?_|refine We ?_|(refine Wb ?_;intro b)|(refine Wq ?_;intro q)|(refine Ws ?_ ?_<;>intro h)|refine Wz ?_|fail));refine Ee ((k+1,out++[x],q5,c5)) ?_ ?_
   ·exact⟨hlt,hto.symm,by dsimp only;rw[ag,df,hol]⟩
   ·dsimp only;omega
 ·have hkl:k=pl.length:=by omega
  rw[dc (by omega)] at ho;subst ho;clear hD hkz;(repeat' (first|refine Wa ?_|refine Wk ?_|refine We ?_|(refine Wb ?_;intro b)|(refine Wq ?_;intro q)|(refine Ws ?_ ?_<;>intro h)|refine Wz ?_|fail));exact Ea (x:=⟨q2,c2,rfl,rfl⟩)
end Go.Proofs.YtbjalbcdbgcgdaaGreat.fs
