/- Law HandStale: its texts, packed. -/
import Derived.Test.YtbjalbcdbgcgdaaGreatK11
import Derived.Test.YtbjalbcdbgcgdaaGreatK07
import Derived.Test.YtbjalbcdbgcgdaaGreatK15
import Derived.Test.YtbjalbcdbgcgdaaGreatK12
import Derived.Test.YtbjalbcdbgcgdaaGreatK09
import Derived.Test.YtbjalbcdbgcgdaaGreatK10
open List renaming append_assoc->ep,append_nil->jc,cons_append->jg,drop_eq_getElem_cons->cu,find?->pc,getElem?_append_right->j7,getElem?_eq_some_iff->ah,mem_of_getElem?->jm,nil_append->fe,reverse_cons->o9
open Int renaming toNat_natCast->fq
open Option renaming some.inj->bf
open Prod renaming mk.injEq->cr
open UInt8 renaming ofNat->gl
set_option linter.unusedVariables false
set_option maxRecDepth 100000
set_option maxHeartbeats 8000000
namespace Go.Proofs.YtbjalbcdbgcgdaaGreat.aX
open Go.RowKit bG sl
attribute [local irreducible] box own sl gH aH bC Qt cJ cG dC dG eO
def avR:Value:= .agg #[.slice none 0 0, .slice none 0 0]
def aBB (cs:List ByteArray) (ps:List (Int×ByteArray)) (v:Value) (H':List Ent):Prop:=
 ∃ qa ca qw cw,v= .tuple #[.agg #[.slice qa cs.length ca, .slice qw ps.length cw], .int .i64 0]∧H'=[own (.slice qa cs.length ca) 9 1 cs.length (flat fS cs),own (.slice qw ps.length cw) 130 2 ps.length (flat fP ps)]
def aEX (e:Int) (cs:List ByteArray) (ps:List (Int×ByteArray)) (v:Value) (H':List Ent):Prop:=
 (e≠0∧v= .tuple #[avR, .int .i64 e]∧H'=[])∨(e=0∧aBB cs ps v H')
def bK (cs:List ByteArray) (ps:List (Int×ByteArray)) (at':Int) (text:ByteArray):Int:=
 if bL cs ps≠0 then bL cs ps else if jY cs.length at' text≠0 then jY cs.length at' text else if ps.length=400 then 9 else 0
theorem jR (a w:Option Addr) (ca cw:Nat) (cs:List ByteArray) (ps:List (Int×ByteArray)) (at':Int) (text:ByteArray) (hc:cs.length≤maxLen) (hp:ps.length≤maxLen):
  Ct Tryz.prog 101 [.agg #[.slice a cs.length ca, .slice w ps.length cw], .int .i64 at', .string text] [sl 1 (.slice a cs.length ca) (cs.map fS),sl 2 (.slice w ps.length cw) (ps.map fP)] (aEX (bK cs ps at' text) cs (ps++[(at',text)])):=by
 have CK:=bH a w ca cw cs ps hc hp;by_cases h0:bL cs ps=0
 ·have hg:=II h0;have hn:=hg.n1;have hl:=hg.wait;rw[h0] at CK;by_cases h1:jY cs.length at' text=0
  ·have PT:=mM cs.length at' text;rw[h1] at PT;have LK:=zQ a w ca cw cs ps (by omega) (by omega);(refine Ye Tryz.func101 Tryz.ntmps101 ?_;intro Fr);(repeat' (first|refine Wo ?_|refine aF ?_|(refine Wb ?_;intro b)|(refine Wq ?_;intro q)|refine Wc (CK ..) ?_|refine Wc (PT ..) ?_|(refine Ws ?_ ?_<;>intro h)|fail))
   ·exact Ea (x:= .inl ⟨by unfold bK;rw[if_neg (by simp [h0]),if_neg (by simp [h1]),if_pos (by omega)];simp,by unfold bK;rw[if_neg (by simp [h0]),if_neg (by simp [h1]),if_pos (by omega)];rfl,rfl⟩)
   refine Cb (LK) ?_;rintro _ _ ⟨_,⟨qa,ca',qw,cw',rfl,rfl⟩,rfl⟩;refine Da ?_;(repeat' (first|refine Wo ?_|refine aF ?_|(refine Wb ?_;intro b)|(refine Wq ?_;intro q)|(refine Ws ?_ ?_<;>intro h)|fail));(refine aI wt (by rfl) (by first|exact Ma (fP) [(at',text)] rfl|exact Mb (fP) [(at',text)] rfl) ?_;rintro _ _ ⟨q2,c2,rfl,rfl⟩);(repeat' (first|refine Wo ?_|refine aF ?_|(refine Wb ?_;intro b)|(refine Wq ?_;intro q)|(refine Ws ?_ ?_<;>intro h)|fail));exact Ea (x:= .inr ⟨by unfold bK;rw[if_neg (by simp [h0]),if_neg (by simp [h1]),if_neg (by omega)],_,_,_,_,rfl,rfl⟩)
  ·(refine Ye Tryz.func101 Tryz.ntmps101 ?_;intro Fr);(repeat' (first|refine Wo ?_|refine aF ?_|(refine Wb ?_;intro b)|(refine Wq ?_;intro q)|refine Wc (CK ..) ?_|refine Wc (mM ..) ?_|(refine Ws ?_ ?_<;>intro h)|fail));exact Ea (x:= .inl ⟨by unfold bK;rw[if_neg (by simp [h0]),if_pos h1];exact h1,by unfold bK;rw[if_neg (by simp [h0]),if_pos h1];rfl,rfl⟩)
 ·(refine Ye Tryz.func101 Tryz.ntmps101 ?_;intro Fr);(repeat' (first|refine Wo ?_|refine aF ?_|(refine Wb ?_;intro b)|(refine Wq ?_;intro q)|refine Wc (CK ..) ?_|(refine Ws ?_ ?_<;>intro h)|fail));exact Ea (x:= .inl ⟨by unfold bK;rw[if_pos h0];exact h0,by unfold bK;rw[if_pos h0];rfl,rfl⟩)
def land (K:Nat→Bool):Nat→List ByteArray→List (Int×ByteArray)→List ByteArray
 |_,cs,[]=>cs
 |i,cs,p::ps=>land K (i+1) (if K i then cs.set p.1.toNat p.2 else cs) ps
theorem oV (K:Nat→Bool) (ps:List (Int×ByteArray)): ∀ i cs,(land K i cs ps).length=cs.length:=by
 induction ps with
 |nil=>intro i cs;rfl
 |cons p ps ih=>intro i cs;simp only[land];rw[ih];split<;>simp
theorem aoK (K:Nat→Bool) {ps:List (Int×ByteArray)} {k:Nat} {p:Int×ByteArray} (hp:ps[k]? =some p): ∀ i cs,land K i cs (ps.take (k+1))=if K (i+k) then (land K i cs (ps.take k)).set p.1.toNat p.2 else land K i cs (ps.take k):=by
 induction ps generalizing k with
 |nil=>simp at hp
 |cons q ps ih=>
  intro i cs;cases k with
  |zero=>
   simp at hp;subst hp;simp [land]
  |succ k=>
   simp only[List.take_succ_cons,land];rw[ih (by simpa using hp),show i+1+k=i+(k+1) from by omega]
theorem avS (K:Nat→Bool) {ps:List (Int×ByteArray)} {k:Nat} (hk:ps.length≤k) (i:Nat) (cs:List ByteArray):land K i cs (ps.take k)=land K i cs ps:=by rw[List.take_of_length_le hk]
theorem afR (a w:Option Addr) (ca cw:Nat) (cs:List ByteArray) (ps:List (Int×ByteArray)) (f:FuncId) (cap:List Value) (C:List Ent) (K:Nat→Bool) (hc:cs.length≤1000000) (hp:ps.length≤1000000) (hin: ∀ p∈ps,0≤p.1∧p.1<cs.length)
  [hf:bX Tryz.prog f] (hK: ∀ i:Nat,i<ps.length→Ct Tryz.prog f ([.int .i64 (i:Int)]++cap) C fun v H'=>v= .bool (K i)∧H'=C):
  Ct Tryz.prog 79 [.agg #[.slice a cs.length ca, .slice w ps.length cw], .func (.func f) #[] cap.toArray] ([sl 1 (.slice a cs.length ca) (cs.map fS),sl 2 (.slice w ps.length cw) (ps.map fP)]++C) fun v H'=> ∃ qa ca,v= .agg #[.slice qa cs.length ca, .slice none 0 0]∧H'=own (.slice qa cs.length ca) 9 1 cs.length (flat fS (land K 0 cs ps))::C:=by
 (refine Ye Tryz.func79 Tryz.ntmps79 ?_;intro Fr);(repeat' (first|refine Wo ?_|refine aF ?_|(refine Wb ?_;intro b)|(refine Wq ?_;intro q)|(refine Ws ?_ ?_<;>intro h)|fail));(refine aI wt (by rfl) Zd ?_;rintro _ _ ⟨q1,c1,rfl,rfl⟩);(repeat' (first|refine Wo ?_|refine aF ?_|(refine Wb ?_;intro b)|(refine Wq ?_;intro q)|(refine Ws ?_ ?_<;>intro h)|fail));(refine aC (σ:=Nat) (fun k=>k≤ps.length) (fun k=>[(15, .int .i64 (k:Int))]) (fun k=>[own (.slice q1 cs.length c1) 9 1 cs.length (flat fS (land K 0 cs (ps.take k)))]) _ (fun k=>ps.length-k) (0) (by simp) (by exact gA) Zb (fun k hk=> ?_);refine Da ?_);rcases iJ ps k with⟨p,hpk,hlt⟩|hge
 ·obtain⟨i,hi⟩: ∃ i:Nat,p.1=(i:Int):=⟨p.1.toNat,by have:=(hin p (jm hpk)).1;omega⟩;have hi2:i<cs.length:=by have:=(hin p (jm hpk)).2;omega
  obtain⟨p1,t⟩:=p;simp only at hi;subst hi;have hlt2:=aoK K hpk 0 cs;rw[Nat.zero_add] at hlt2;dsimp only[fq] at hlt2;have hll:=oV K (ps.take k) 0 cs;obtain⟨s0,hs0⟩: ∃ s0,(land K 0 cs (ps.take k))[i]? =some s0:=⟨_,List.getElem?_eq_getElem (by omega)⟩;by_cases hKk:K k=true
  ·rw[if_pos hKk] at hlt2;have hKc:=hK k hlt;rw[hKk] at hKc;(repeat' (first|refine Wo ?_|refine aF ?_|(refine Wb ?_;intro b)|(refine Wq ?_;intro q)|(refine Ws ?_ ?_<;>intro h)|fail));(refine aI wt rfl (tK rfl rfl rfl (hKc) (by repeat (first|exact QH _|apply tail_cons))) ?_;rintro _ _ ⟨rfl,rfl⟩);(repeat' (first|refine Wo ?_|refine aF ?_|(refine Wb ?_;intro b)|(refine Wq ?_;intro q)|(refine Ws ?_ ?_<;>intro h)|fail));(refine cM wt (aG (f:=fS) (q':=t) rfl rfl rfl rfl (by exact aN) rfl (by omega) (by intro _;rfl) (by assumption) rfl rfl (by rfl)) ?_;rintro _ _ ⟨rfl,rfl⟩);rw[←hlt2];(repeat' (first|refine Wo ?_|refine aF ?_|(refine Wb ?_;intro b)|(refine Wq ?_;intro q)|(refine Ws ?_ ?_<;>intro h)|fail));refine Ee (k+1) ?_ ?_
   ·show k+1≤ps.length;omega
   ·show ps.length-(k+1)<ps.length-k;omega
  ·rw[if_neg hKk] at hlt2;have hKc:=hK k hlt;rw[Bool.eq_false_iff.2 hKk] at hKc;(repeat' (first|refine Wo ?_|refine aF ?_|(refine Wb ?_;intro b)|(refine Wq ?_;intro q)|(refine Ws ?_ ?_<;>intro h)|fail));(refine aI wt rfl (tK rfl rfl rfl (hKc) (by repeat (first|exact QH _|apply tail_cons))) ?_;rintro _ _ ⟨rfl,rfl⟩);rw[←hlt2];(repeat' (first|refine Wo ?_|refine aF ?_|(refine Wb ?_;intro b)|(refine Wq ?_;intro q)|(refine Ws ?_ ?_<;>intro h)|fail));refine Ee (k+1) ?_ ?_
   ·show k+1≤ps.length;omega
   ·show ps.length-(k+1)<ps.length-k;omega
 ·rw[avS K hge];(repeat' (first|refine Wo ?_|refine aF ?_|(refine Wb ?_;intro b)|(refine Wq ?_;intro q)|(refine Ws ?_ ?_<;>intro h)|fail));exact Ea (x:=⟨_,_,rfl,rfl⟩)
def avT (e:Int) (cs':List ByteArray) (v:Value) (H':List Ent):Prop:=
 (e≠0∧v= .tuple #[avR, .int .i64 e]∧H'=[])∨(e=0∧ ∃ qa ca,v= .tuple #[.agg #[.slice qa cs'.length ca, .slice none 0 0], .int .i64 0]∧H'=[own (.slice qa cs'.length ca) 9 1 cs'.length (flat fS cs')])
theorem ajN {cs:List ByteArray} {ps:List (Int×ByteArray)} (hg:Good cs ps): ∀ p∈ps,0≤p.1∧p.1<cs.length:=fun p hp=>by
 have:=uB.1 (hg.adQ p hp);exact⟨this.1,this.2.1⟩
theorem aBC (i:Int):Ct Tryz.prog 174 [.int .i64 i] [] fun v H'=>v= .bool true∧H'=[]:=by
 (refine Ye Tryz.func174 Tryz.ntmps174 ?_;intro Fr);(repeat' (first|refine Wo ?_|refine aF ?_|(refine Wb ?_;intro b)|(refine Wq ?_;intro q)|(refine Ws ?_ ?_<;>intro h)|fail));exact Ea (x:=⟨rfl,rfl⟩)
theorem avU (a w:Option Addr) (ca cw:Nat) (cs:List ByteArray) (ps:List (Int×ByteArray)) (hc:cs.length≤maxLen) (hp:ps.length≤maxLen):
  Ct Tryz.prog 102 [.agg #[.slice a cs.length ca, .slice w ps.length cw]] [sl 1 (.slice a cs.length ca) (cs.map fS),sl 2 (.slice w ps.length cw) (ps.map fP)] (avT (bL cs ps) (land (fun _=>true) 0 cs ps)):=by
 have CK:=bH a w ca cw cs ps hc hp;have hll:=oV (fun _=>true) ps 0 cs;by_cases h0:bL cs ps=0
 ·have hg:=II h0;have hn:=hg.n1;have hl:=hg.wait;rw[h0] at CK;have LD:=afR a w ca cw cs ps 174 [] [] (fun _=>true) (by omega) (by omega) (ajN hg) fun i _=>aBC i
  (refine Ye Tryz.func102 Tryz.ntmps102 ?_;intro Fr);(repeat' (first|refine Wo ?_|refine aF ?_|(refine Wb ?_;intro b)|(refine Wq ?_;intro q)|refine Wc (CK ..) ?_|(refine Ws ?_ ?_<;>intro h)|fail));refine Cb (LD) ?_;rintro _ _ ⟨_,⟨qa,ca',rfl,rfl⟩,rfl⟩;refine Da ?_;(repeat' (first|refine Wo ?_|refine aF ?_|(refine Wb ?_;intro b)|(refine Wq ?_;intro q)|(refine Ws ?_ ?_<;>intro h)|fail));rw[←hll];exact Ea (x:= .inr ⟨h0,_,_,rfl,rfl⟩)
 ·(refine Ye Tryz.func102 Tryz.ntmps102 ?_;intro Fr);(repeat' (first|refine Wo ?_|refine aF ?_|(refine Wb ?_;intro b)|(refine Wq ?_;intro q)|refine Wc (CK ..) ?_|(refine Ws ?_ ?_<;>intro h)|fail));exact Ea (x:= .inl ⟨h0,rfl,rfl⟩)
theorem avV {cs:List ByteArray} {ps:List (Int×ByteArray)} {p:Int×ByteArray} {k:Nat} (h0:0≤p.1) (h1:p.1<cs.length):oH cs (p::ps) k=oH (cs.set p.1.toNat p.2) ps k:=by
 obtain⟨i,hi⟩: ∃ i:Nat,p.1=(i:Int):=⟨p.1.toNat,by omega⟩;obtain⟨a,t⟩:=p;simp only at hi h0 h1;subst hi;unfold oH;simp only[o9,List.find?_append,fq];cases ps.reverse.find? (fun p=>p.1==(k:Int)) with
 |some q=>simp
 |none=>
  simp only[Option.none_or];by_cases e:i=k
  ·subst e;have:i<cs.length:=by omega
   simp [pc,this]
  ·have e2:((i:Int)==(k:Int))=false:=by simp;omega
   simp [pc,e2,e]
theorem abH {ps:List (Int×ByteArray)} {k:Nat}: ∀ (i:Nat) (cs:List ByteArray),(∀ p∈ps,0≤p.1∧p.1<cs.length)→oH (land (fun _=>true) i cs ps) [] k=oH cs ps k:=by
 induction ps with
 |nil=>intro i cs _;rfl
 |cons p ps ih=>
  intro i cs h;have hp:=h p List.mem_cons_self;rw[avV hp.1 hp.2];simp only[land,if_true];exact ih (i+1) _ fun q hq=>by rw[List.length_set];exact h q (List.mem_cons_of_mem _ hq)
theorem VZ {cs:List ByteArray} {ps:List (Int×ByteArray)} {a b:Int} {t:ByteArray}:oH cs (ps++[(a,t)]) b=if a=b then t else oH cs ps b:=by
 unfold oH;simp only[List.reverse_append,o9,List.reverse_nil,fe,jg,List.find?_cons];by_cases e:a=b
 ·simp [e]
 ·have e2:(a==b)=false:=by simp [e]
  simp [e,e2]
end Go.Proofs.YtbjalbcdbgcgdaaGreat.aX
namespace Go.Proofs.YtbjalbcdbgcgdaaGreat.fs
open Go.RowKit bG sl aX use
abbrev OpT:=Int×Int×ByteArray
def WC (x:OpT):List Value:=[.int .i64 x.1, .int .i64 x.2.1, .string x.2.2]
theorem ajO (x:OpT): ∀ u∈WC x,u.oneCell'=true:=by simp [WC,Value.oneCell']
def BH (b:Nat) (d:FD) (s t f:Value) (cs:List ByteArray) (ps:List (Int×ByteArray)) (l:List OpT) (v:Value) (H':List Ent):Prop:=
 ∃ a ca w cw q c,v= .tuple #[]∧H'=bE b ⟨a,ca,cs,w,cw,ps,d.m,d.cm,d.at',d.g,d.cg,d.aE⟩ s t f (.slice q l.length c)::(bB ⟨a,ca,cs,w,cw,ps,d.m,d.cm,d.at',d.g,d.cg,d.aE⟩++[own (.slice q l.length c) 87 3 l.length (flat WC l)])
theorem aGW {a w:Option Addr} {ca cw:Nat} {cs:List ByteArray} {ps:List (Int×ByteArray)} {at':Int} {text:ByteArray} (hc:cs.length≤maxLen) (hp:ps.length≤maxLen) (h:aX.bK cs ps at' text=0):Ct Tryz.prog 101 [.agg #[.slice a cs.length ca, .slice w ps.length cw], .int .i64 at', .string text] [sl 1 (.slice a cs.length ca) (cs.map fS),sl 2 (.slice w ps.length cw) (ps.map fP)] fun v H'=> ∃ qa ca qw cw,v= .tuple #[.agg #[.slice qa cs.length ca, .slice qw (ps++[(at',text)]).length cw], .int .i64 0]∧H'=[own (.slice qa cs.length ca) 9 1 cs.length (flat fS cs),own (.slice qw (ps++[(at',text)]).length cw) 130 2 (ps++[(at',text)]).length (flat fP (ps++[(at',text)]))]:=
 eW (aX.jR a w ca cw cs ps at' text hc hp) fun v H' h2=>by
  rcases h2 with⟨h3,_⟩|⟨_,qa,ca,qw,cw,h3,h4⟩
  ·exact absurd h h3
  ·exact⟨qa,ca,qw,cw,h3,h4⟩
attribute [local irreducible] box own sl gH aH bC Qt cJ cG dC dG eO
theorem NQ (b:Nat) (d:FD) (s t f:Value) (l:List OpT) (q0:Option Addr) (c0:Nat) (at':Int) (text:ByteArray) (hc:d.cs.length≤1000000) (hp:d.ps.length≤1000000) (hl:l.length≤1000000) (h:aX.bK d.cs d.ps at' text=0):
  Ct Tryz.prog 128 [aH b 0, .agg #[.int .i64 1, .int .i64 at', .string text]] (bE b d s t f (.slice q0 l.length c0)::(bB d++[own (.slice q0 l.length c0) 87 3 l.length (flat WC l)])) (BH b d s t f d.cs (d.ps++[(at',text)]) (l++[(1,at',text)])):=by
 have W0:=aGW (a:=d.a) (w:=d.w) (ca:=d.ca) (cw:=d.cw) Zh Zh h;obtain⟨a,ca,cs,w,cw,wl,m,cm,at1,qg,cg,aE⟩:=d;have hone: ∀ y, ∀ u∈WC y,u.oneCell'=true:=ajO;unfold BH bE bB;dsimp only[jg,fe] at W0 hc hp h ⊢;(refine Ye Tryz.func128 Tryz.ntmps128 ?_;intro Fr);(repeat' (first|refine Wa ?_|refine aF ?_|(refine Wb ?_;intro b)|fail));(refine aB (Hq:=[_]) [0] [] rfl (by kernel_rfl) Za ?_);refine gX ?_;(refine Cc 9 (W0) ?_;rintro _ _ ⟨_,⟨q1,c1,q2,c2,rfl,rfl⟩,rfl⟩;refine Te ?_;(try refine Da ?_));(repeat' (first|refine Wa ?_|(apply cod_seq_nd;(focus rfl))|refine Wk ?_|fail));refine aT (bI (v:= .slice q1 cs.length c1) (e:=9) (m:=cs.length) (f:=fS) (ys:=cs) aN (fun _=>rfl) rfl) ?_;refine aT (bI (v:= .slice q2 (wl++[(at',text)]).length c2) (e:=130) (m:=(wl++[(at',text)]).length) (f:=fP) (ys:=wl++[(at',text)]) aN (fun _=>rfl) rfl) ?_;(refine aB (Hq:=[_,_]) [2,3] [10] rfl (by kernel_rfl) Za ?_);refine gX ?_;(refine aA 6 ?_;refine Oa (l:=by exact aM rfl rfl rfl (by exact lE) rfl rfl (by decide) rfl) (k:= ?_);rintro _ _ ⟨q9,rfl,rfl⟩;refine Te ?_;(try refine Da ?_));(refine aA 7 ?_;refine Oa (l:=by exact (by first|exact Ma (WC) [(1,at',text)] rfl|exact Mb (WC) [(1,at',text)] rfl)) (k:= ?_);rintro _ _ ⟨q3,c3,rfl,rfl⟩;refine Te ?_;(try refine Da ?_));refine Yw8 ?_;exact Eb (x:=⟨q1,c1,q2,c2,q3,c3,rfl,rfl⟩)
theorem aGX {a w:Option Addr} {ca cw:Nat} {cs:List ByteArray} {ps:List (Int×ByteArray)} (hc:cs.length≤maxLen) (hp:ps.length≤maxLen) (h:aX.bL cs ps=0):Ct Tryz.prog 102 [.agg #[.slice a cs.length ca, .slice w ps.length cw]] [sl 1 (.slice a cs.length ca) (cs.map fS),sl 2 (.slice w ps.length cw) (ps.map fP)] fun v H'=> ∃ qa ca,v= .tuple #[.agg #[.slice qa (aX.land (fun _=>true) 0 cs ps).length ca, .slice none 0 0], .int .i64 0]∧H'=[own (.slice qa (aX.land (fun _=>true) 0 cs ps).length ca) 9 1 (aX.land (fun _=>true) 0 cs ps).length (flat fS (aX.land (fun _=>true) 0 cs ps))]:=
 eW (aX.avU a w ca cw cs ps hc hp) fun v H' h2=>by
  rcases h2 with⟨h3,_⟩|⟨_,qa,ca,h3,h4⟩
  ·exact absurd h h3
  ·exact⟨qa,ca,h3,h4⟩
theorem ajP (b:Nat) (d:FD) (s t f:Value) (l:List OpT) (q0:Option Addr) (c0:Nat) (hc:d.cs.length≤1000000) (hp:d.ps.length≤1000000) (hl:l.length≤1000000) (h:aX.bL d.cs d.ps=0):
  Ct Tryz.prog 128 [aH b 0, .agg #[.int .i64 2, .int .i64 0, .string .empty]] (bE b d s t f (.slice q0 l.length c0)::(bB d++[own (.slice q0 l.length c0) 87 3 l.length (flat WC l)])) (BH b d s t f (aX.land (fun _=>true) 0 d.cs d.ps) [] (l++[(2,0, .empty)])):=by
 have W0:=aGX (a:=d.a) (w:=d.w) (ca:=d.ca) (cw:=d.cw) Zh Zh h;obtain⟨a,ca,cs,w,cw,wl,m,cm,at1,qg,cg,aE⟩:=d;have hone: ∀ y, ∀ u∈WC y,u.oneCell'=true:=ajO;unfold BH bE bB;dsimp only[jg,fe] at W0 hc hp h ⊢;generalize aX.land (fun _=>true) 0 cs wl=cs' at W0 ⊢;(refine Ye Tryz.func128 Tryz.ntmps128 ?_;intro Fr);(repeat' (first|refine Wa ?_|refine aF ?_|(refine Wb ?_;intro b)|fail));(refine Ca (W0) ?_;rintro _ _ ⟨_,⟨q1,c1,rfl,rfl⟩,rfl⟩;refine Da ?_);(repeat' (first|refine Wa ?_|(apply cod_seq_nd;(focus rfl))|fail));refine aT (bI (v:= .slice q1 cs'.length c1) (e:=9) (m:=cs'.length) (f:=fS) (ys:=cs') aN (fun _=>rfl) rfl) ?_;refine aT (aY _ 130 2) ?_;refine aT (bI (v:= .slice none 0 0) (e:=130) (m:=0) (f:=fP) (ys:=[]) aN (fun _=>rfl) rfl) ?_;(refine aB (Hq:=[_,_]) [2,3] [10] rfl (by kernel_rfl) Za ?_);refine gX ?_;(refine aA 6 ?_;refine Oa (l:=by exact aM rfl rfl rfl (by exact lE) rfl rfl (by decide) rfl) (k:= ?_);rintro _ _ ⟨q9,rfl,rfl⟩;refine Te ?_;(try refine Da ?_));(refine aA 7 ?_;refine Oa (l:=by exact (by first|exact Ma (WC) [(2,0, .empty)] rfl|exact Mb (WC) [(2,0, .empty)] rfl)) (k:= ?_);rintro _ _ ⟨q3,c3,rfl,rfl⟩;refine Te ?_;(try refine Da ?_));refine Yw8 ?_;exact Eb (x:=⟨q1,c1,none,0,q3,c3,rfl,rfl⟩)
end Go.Proofs.YtbjalbcdbgcgdaaGreat.fs
namespace Go.Proofs.YtbjalbcdbgcgdaaGreat.dO
open Go.RowKit bG fix PH put get
def yE (z:(Int×Int)×Int):List UInt8:=cA z.2.toNat++dM z.1.1.toNat 1++dM z.1.2.toNat 1
def eG (zs:List ((Int×Int)×Int)):List UInt8:=zs.flatMap yE
theorem yF (a b:List ((Int×Int)×Int)):eG (a++b)=eG a++eG b:=by simp [eG]
theorem abI (z:(Int×Int)×Int):3≤(yE z).length∧(yE z).length≤13:=by
 have:=tW 10 z.2.toNat;simp [yE,bQ,cA];omega
def wW (zs:List ((Int×Int)×Int)):Prop:=zs.length=48∧ ∀ z∈zs,fH z.1∧0≤z.2∧z.2≤2147483647
theorem avW {ps:List (Int×Int)} {gs:List Int} (h:dP ps gs):wW (ps.zip gs):=by
 obtain⟨h1,h2,h3⟩:=h;refine⟨by simp [h1,h2],fun z hz=> ?_⟩;obtain⟨i,hi⟩:=List.getElem?_of_mem hz;rw[List.getElem?_zip_eq_some] at hi;have hl:=(ah.1 hi.1).1;exact h3 i (by omega) _ _ hi.1 hi.2
theorem qV {zs:List ((Int×Int)×Int)} (h:wW zs):dP (zs.map (·.1)) (zs.map (·.2)):=by
 obtain⟨h1,h2⟩:=h;refine⟨by simp [h1],by simp [h1],fun i hi p g hp hg=> ?_⟩;rw[List.getElem?_map] at hp hg;obtain⟨z,hz,rfl⟩:=Option.map_eq_some_iff.1 hp;rw[hz] at hg;have:=bf hg;subst this;exact h2 z (jm hz)
theorem abJ (zs:List ((Int×Int)×Int)):(zs.map (·.1)).zip (zs.map (·.2))=zs:=by
 induction zs with
 |nil=>rfl
 |cons z zs ih=>simp only[List.map_cons,List.zip_cons_cons,ih]
def Inv (L:List UInt8) (zs:List ((Int×Int)×Int)) (rest:List UInt8):Prop:=
 L=eG zs++rest∧ ∀ zs0,wW zs0→L=eG zs0→ ∃ more,zs0=zs++more
theorem aoL (L:List UInt8):Inv L [] L:=⟨rfl,fun zs0 _ _=>⟨zs0,rfl⟩⟩
theorem abK {z:(Int×Int)×Int} (h:fH z.1∧0≤z.2∧z.2≤2147483647) (more:List UInt8):eD (yE z++more)=(z.2.toNat,(cA z.2.toNat).length,0)∧(cA z.2.toNat).length+2≤(yE z++more).length∧(yE z++more)[(cA z.2.toNat).length]? =some (gl z.1.1.toNat)∧(yE z++more)[(cA z.2.toNat).length+1]? =some (gl z.1.2.toNat):=by
 obtain⟨⟨h1,h2,h3,h4,_,_⟩,h5,h6⟩:=h;have e:yE z++more=cA z.2.toNat++(gl z.1.1.toNat::gl z.1.2.toNat::more):=by
  unfold yE;rw[pL _ (by omega),pL _ (by omega)];simp
 rw[e];refine⟨zP _ _ (by omega),by simp, ?_, ?_⟩
 ·rw[j7 (Nat.le_refl _)];simp
 ·rw[j7 (by omega)];simp
theorem abL {L rest:List UInt8} {zs zs0:List ((Int×Int)×Int)} (h:Inv L zs rest) (hl:zs.length<48) (h0:wW zs0) (hw:L=eG zs0): ∃ z more,zs0=zs++z::more∧rest=yE z++eG more∧fH z.1∧0≤z.2∧z.2≤2147483647:=by
 obtain⟨h1,h2⟩:=h;obtain⟨more,hm⟩:=h2 zs0 h0 hw;cases more with
 |nil=>
  have:=h0.1;rw[hm] at this;simp at this;omega
 |cons z more=>
  refine⟨z,more,hm, ?_,h0.2 z (by rw[hm];simp)⟩;rw[hw,hm,yF] at h1;exact (List.append_cancel_left h1).symm
theorem avX {L rest:List UInt8} {zs:List ((Int×Int)×Int)} {n k:Nat} {b1 b2:UInt8} (h:Inv L zs rest) (hl:zs.length<48) (hg:eD rest=(n,k,0)) (hn:n≤2147483647) (h1:rest[k]? =some b1) (h2:rest[k+1]? =some b2):Inv L (zs++[(((b1.toNat:Int),(b2.toNat:Int)),(n:Int))]) (rest.drop (k+2)):=by
 constructor
 ·obtain⟨m,e1,e2⟩: ∃ m,cA n=rest.take k∧m=k:=by
   rcases oF rest with⟨k2,m2,e1,e2,e3,e4,e5⟩|e|e
   ·rw[hg] at e1;simp only[cr] at e1;obtain⟨rfl,rfl,_⟩:=e1;exact⟨_,e5,rfl⟩
   ·rw[hg] at e;simp at e
   ·rw[hg] at e;simp at e
  rw[yF,ep,h.1];congr 1;have hk2:=(ah.1 h2).1;have hk1:=(ah.1 h1);have hk3:=(ah.1 h2);obtain⟨l1,l2⟩:=hk1;obtain⟨l3,l4⟩:=hk3;simp only[eG,yE,List.flatMap_cons,List.flatMap_nil,jc,fq,arV,e1]
  conv=>lhs;rw[←List.take_append_drop k rest]
  rw[ep,ep];congr 1;rw[cu l1,cu l3,l2,l4];rfl
 ·intro zs0 h0 hw;obtain⟨z,more,e1,e2,e3⟩:=abL h hl h0 hw;obtain⟨r1,r2,r3,r4⟩:=abK e3 (eG more);rw[←e2] at r1 r2 r3 r4;rw[hg] at r1;simp only[cr] at r1;obtain⟨a1,a2,_⟩:=r1;rw[←a2] at r3 r4;rw[h1] at r3;rw[h2] at r4;obtain⟨⟨h1,h2,h3,h4,_,_⟩,h5,h6⟩:=e3;have b1:=bf r3;have b2:=bf r4;refine⟨more, ?_⟩;rw[e1,b1,b2,a1];obtain⟨⟨z1,z2⟩,z3⟩:=z;simp only at h1 h2 h3 h4 h5 h6 ⊢;have c1:((gl z1.toNat).toNat:Int)=z1:=by simp;omega
  have c2:((gl z2.toNat).toNat:Int)=z2:=by simp;omega
  have c3:(z3.toNat:Int)=z3:=by omega
  rw[c1,c2,c3];simp
theorem aBD {L rest:List UInt8} {zs:List ((Int×Int)×Int)} (h:Inv L zs rest) (hl:zs.length<48) (hb: ∀ n k,eD rest=(n,k,0)→n≤2147483647→ ¬ k+2≤rest.length): ¬ ∃ zs0,wW zs0∧L=eG zs0:=by
 rintro⟨zs0,h0,hw⟩;obtain⟨z,more,e1,e2,e3⟩:=abL h hl h0 hw;obtain⟨r1,r2,r3,r4⟩:=abK e3 (eG more);rw[←e2] at r1 r2;exact hb _ _ r1 (by have:=e3.2;omega) r2
theorem ajQ {L rest:List UInt8} {zs zs0:List ((Int×Int)×Int)} (h:Inv L zs rest) (hl:zs.length=48) (h0:wW zs0) (hw:L=eG zs0):zs0=zs∧rest=[]:=by
 obtain⟨h1,h2⟩:=h;obtain⟨more,hm⟩:=h2 zs0 h0 hw;have hmn:more=[]:=by
  have:=h0.1;rw[hm] at this;simp at this;exact List.eq_nil_of_length_eq_zero (by omega)
 subst hmn;rw[jc] at hm;subst hm;rw[hw] at h1;refine⟨rfl, ?_⟩;have:=congrArg List.length h1;simp at this;exact this
end Go.Proofs.YtbjalbcdbgcgdaaGreat.dO
