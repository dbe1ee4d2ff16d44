/- Law HandStale: its texts, packed. -/
import Derived.Test.YtbjalbcdbgcgdaaGreatK07
import Derived.Test.YtbjalbcdbgcgdaaGreatK09
import Derived.Test.YtbjalbcdbgcgdaaGreatK10
import Derived.Test.YtbjalbcdbgcgdaaGreatK06
import Derived.Lib.SliceRun
import Derived.Test.YtbjalbcdbgcgdaaGreatRows
import Derived.Test.YtbjalbcdbgcgdaaGreatK00
open List renaming find?_eq_none->ja,getD_eq_getElem?_getD->iw,getElem?_eq_getElem->aj,getElem?_eq_some_iff->ah,getElem_cons_drop->iz,mem_cons->aw,mem_reverse->ix,take_succ_cons->im
open Nat renaming le_refl->aq,zero_le->fg
open Int renaming eq_ofNat_of_zero_le->iy,toNat_natCast->fq
open Option renaming map_some->fv
set_option linter.unusedVariables false
set_option maxRecDepth 100000
set_option maxHeartbeats 8000000
namespace Go.Proofs.YtbjalbcdbgcgdaaGreat.aX
open Go.RowKit bG sl
attribute [local irreducible] box own sl gH aH bC Qt cJ cG dC dG eO
def jY (cells:Nat) (at':Int) (text:ByteArray):Int:=if at'<0∨(cells:Int)≤at' then 1 else if 1024<text.size then 2 else 0
theorem mM (cells:Nat) (at':Int) (text:ByteArray):
  Ct Tryz.prog 157 [.int .i64 cells, .int .i64 at', .string text] [] fun v H'=>v= .int .i64 (jY cells at' text)∧H'=[]:=by
 (refine Ye Tryz.func157 Tryz.ntmps157 ?_;intro Fr);(repeat' (first|refine Wo ?_|refine aF ?_|(refine Wb ?_;intro b)|(refine Wq ?_;intro q)|(refine Ws ?_ ?_<;>intro h)|fail));all_goals
  refine gU rfl qK [] ?_ yP;refine⟨?_,rfl⟩;unfold jY;(repeat' split)<;>first|rfl|omega
theorem zQ (a w:Option Addr) (ca cw:Nat) (cs:List ByteArray) (ps:List (Int×ByteArray)) (hc:cs.length≤1000000) (hp:ps.length≤1000000):
  Ct Tryz.prog 173 [.agg #[.slice a cs.length ca, .slice w ps.length cw]] [sl 1 (.slice a cs.length ca) (cs.map fS),sl 2 (.slice w ps.length cw) (ps.map fP)] fun v H'=> ∃ qa ca qw cw,v= .agg #[.slice qa cs.length ca, .slice qw ps.length cw]∧H'=[own (.slice qa cs.length ca) 9 1 cs.length (flat fS cs),own (.slice qw ps.length cw) 130 2 ps.length (flat fP ps)]:=by
 (refine Ye Tryz.func173 Tryz.ntmps173 ?_;intro Fr);(repeat' (first|refine Wo ?_|refine aF ?_|(refine Wb ?_;intro b)|(refine Wq ?_;intro q)|(refine Ws ?_ ?_<;>intro h)|fail));refine PF (Hq:=[_,_,_]) [1,2,3] [7] rfl (by kernel_rfl) ?_;(refine JU [0,1,3,4] ?_;(repeat (first|(apply QI;(focus rfl);(focus exact wt);(focus kernel_rfl);(focus exact iS);(focus rfl);(focus exact qta))|(apply XV;(focus rfl);(focus rfl);(focus rfl);(focus kernel_rfl);(focus exact iS);(focus rfl))));refine XU ?_);(first|refine nP 2 (by kernel_rfl) (QG 2 (by rfl) wt (by rfl) Zd ?_)|refine nP 2 (by kernel_rfl) (ahJ 2 (by rfl) wt Zd ?_));rintro _ _ ⟨qa',ca',rfl,rfl⟩;refine⟨Zo, ?_⟩;(first|refine nP 5 (by kernel_rfl) (QG 5 (by rfl) wt (by rfl) Zd ?_)|refine nP 5 (by kernel_rfl) (ahJ 5 (by rfl) wt Zd ?_));rintro _ _ ⟨qb',cb',rfl,rfl⟩;refine⟨Zo, ?_⟩;(refine JU [6] ?_;(repeat (first|(apply QI;(focus rfl);(focus exact wt);(focus kernel_rfl);(focus exact iS);(focus rfl);(focus exact qta))|(apply XV;(focus rfl);(focus rfl);(focus rfl);(focus kernel_rfl);(focus exact iS);(focus rfl))));refine XU ?_);(first|refine nP 7 (by kernel_rfl) (QG 7 (by rfl) wt (by rfl) (by exact Zf) ?_)|refine nP 7 (by kernel_rfl) (ahJ 7 (by rfl) wt (by exact Zf) ?_));rintro _ _ ⟨rfl,rfl⟩;refine⟨Zo, ?_⟩;refine XP (by kernel_rfl) ?_;(repeat' (first|refine Wo ?_|refine aF ?_|(refine Wb ?_;intro b)|(refine Wq ?_;intro q)|(refine Ws ?_ ?_<;>intro h)|fail));exact Ea (x:=⟨_,_,_,_,rfl,rfl⟩)
def cI (n:Nat):List (Int×ByteArray)→Int
 |[]=>0
 |p::ps=>if jY n p.1 p.2≠0 then jY n p.1 p.2 else cI n ps
def mN (s:ByteArray):Bool:=decide (1024<s.size)
def bL (cs:List ByteArray) (ps:List (Int×ByteArray)):Int:=
 if cs.length<1∨128<cs.length then 1 else if cs.any mN=true then 2 else if cI cs.length ps≠0 then cI cs.length ps else if 400<ps.length then 2 else 0
theorem YM {n k:Nat} {ps:List (Int×ByteArray)} {p:Int×ByteArray} (hp:ps[k]? =some p) (h:cI n (ps.take k)=0):cI n (ps.take (k+1))=jY n p.1 p.2∧(jY n p.1 p.2≠0→cI n ps=jY n p.1 p.2):=by
 induction ps generalizing k with
 |nil=>simp at hp
 |cons q ps ih=>
  cases k with
  |zero=>
   simp at hp;subst hp;simp only[im,List.take_zero,cI];by_cases h0:jY n q.1 q.2=0<;>simp [h0]
  |succ k=>
   simp only[im,cI] at h ⊢;split at h
   ·rename_i h1;exact absurd h h1
   ·rename_i h1;rw[if_neg h1,if_neg h1];exact ih (by simpa using hp) h
theorem adP {n k:Nat} {ps:List (Int×ByteArray)} (hk:ps.length≤k) (h:cI n (ps.take k)=0):cI n ps=0:=by
 rw[List.take_of_length_le hk] at h;exact h
theorem bH (a w:Option Addr) (ca cw:Nat) (cs:List ByteArray) (ps:List (Int×ByteArray)) (hc:cs.length≤maxLen) (hp:ps.length≤maxLen):
  Ct Tryz.prog 78 [.agg #[.slice a cs.length ca, .slice w ps.length cw]] [sl 1 (.slice a cs.length ca) (cs.map fS),sl 2 (.slice w ps.length cw) (ps.map fP)] fun v H'=>v= .int .i64 (bL cs ps)∧H'=[]:=by
 unfold maxLen at hc hp;(refine Ye Tryz.func78 Tryz.ntmps78 ?_;intro Fr);(repeat' (first|refine Wo ?_|refine aF ?_|(refine Wb ?_;intro b)|(refine Wq ?_;intro q)|(refine Ws ?_ ?_<;>intro h)|fail))
 ·exact Ea (x:=⟨by unfold bL;rw[if_pos (by omega)],rfl⟩)
 ·exact Ea (x:=⟨by unfold bL;rw[if_pos (by omega)],rfl⟩)
 (refine cK (σ:=Nat) (fun k=>k≤cs.length∧(cs.take k).any mN=false) (fun k=>[(21, .int .i64 (k:Int))]) (fun k=>cs.length-k) (0) (by simp) (by exact gA) (fun k ⟨hk,hb⟩=> ?_);refine Da ?_);rcases iJ cs k with⟨s,hs,hlt⟩|hge
 ·(repeat' (first|refine Wo ?_|refine aF ?_|(refine Wb ?_;intro b)|(refine Wq ?_;intro q)|(refine Ws ?_ ?_<;>intro h)|fail))
  ·have hbs:mN s=true:=by simp only[mN,decide_eq_true_eq];omega
   exact Ea (x:=⟨by unfold bL;rw[if_neg (by omega),if_pos (aDF hs hbs)],rfl⟩)
  ·refine Ee (k+1) ?_ ?_
   ·exact⟨by omega,aqV hs hb (by simp only[mN,decide_eq_false_iff_not];omega)⟩
   ·show cs.length-(k+1)<cs.length-k;omega
 ·have hall:=ayI hge hb;clear hb;(repeat' (first|refine Wo ?_|refine aF ?_|(refine Wb ?_;intro b)|(refine Wq ?_;intro q)|(refine Ws ?_ ?_<;>intro h)|fail));(refine cK (σ:=Nat) (fun k=>k≤ps.length∧cI cs.length (ps.take k)=0) (fun k=>[(32, .int .i64 (k:Int))]) (fun k=>ps.length-k) (0) (by simp [cI]) (by exact gA) (fun k2 ⟨hk2,hb⟩=> ?_);refine Da ?_);rcases iJ ps k2 with⟨p,hs,hlt⟩|hge2
  ·obtain⟨f1,f2⟩:=YM hs hb;(repeat' (first|refine Wo ?_|refine aF ?_|(refine Wb ?_;intro b)|(refine Wq ?_;intro q)|refine Wc (mM ..) ?_|(refine Ws ?_ ?_<;>intro h)|fail))
   ·exact Ea (x:=⟨by unfold bL;rw[if_neg (by omega),if_neg (by rw[hall];simp),f2 ‹_›,if_pos ‹_›],rfl⟩)
   ·refine Ee (k2+1) ?_ ?_
    ·exact⟨by omega,by rw[f1];assumption⟩
    ·show ps.length-(k2+1)<ps.length-k2;omega
  ·have h0:=adP hge2 hb;clear hb;(repeat' (first|refine Wo ?_|refine aF ?_|(refine Wb ?_;intro b)|(refine Wq ?_;intro q)|(refine Ws ?_ ?_<;>intro h)|fail))
   ·exact Ea (x:=⟨by unfold bL;rw[if_neg (by omega),if_neg (by rw[hall];simp),if_neg (by rw[h0];simp),if_pos (by omega)],rfl⟩)
   ·exact Ea (x:=⟨by unfold bL;rw[if_neg (by omega),if_neg (by rw[hall];simp),if_neg (by rw[h0];simp),if_neg (by omega)],rfl⟩)
theorem YN {n:Nat} {ps:List (Int×ByteArray)} (h:cI n ps=0): ∀ p∈ps,jY n p.1 p.2=0:=by
 induction ps with
 |nil=>intro p hp;cases hp
 |cons q ps ih=>
  simp only[cI] at h;split at h
  ·rename_i h1;exact absurd h h1
  ·rename_i h1;intro p hp;rcases aw.1 hp with rfl|hp
   ·simpa using h1
   ·exact ih h p hp
theorem jG {n:Nat} {ps:List (Int×ByteArray)} (h: ∀ p∈ps,jY n p.1 p.2=0):cI n ps=0:=by
 induction ps with
 |nil=>rfl
 |cons q ps ih=>
  simp only[cI];rw[if_neg (by simp [h q List.mem_cons_self])];exact ih fun p hp=>h p (List.mem_cons_of_mem _ hp)
structure Good (cs:List ByteArray) (ps:List (Int×ByteArray)):Prop where
 n0:1≤cs.length
 n1:cs.length≤128
 cells: ∀ s∈cs,s.size≤1024
 adQ: ∀ p∈ps,jY cs.length p.1 p.2=0
 wait:ps.length≤400
theorem uB {n:Nat} {a:Int} {t:ByteArray}:jY n a t=0↔0≤a∧a<n∧t.size≤1024:=by
 unfold jY;(repeat' split)<;>constructor<;>intro h<;>first|omega|rfl
theorem II {cs:List ByteArray} {ps:List (Int×ByteArray)} (h:bL cs ps=0):Good cs ps:=by
 unfold bL at h;split at h
 ·cases h
 ·rename_i h1;split at h
  ·cases h
  ·rename_i h2;split at h
   ·rename_i h3;exact absurd h h3
   ·rename_i h3;split at h
    ·cases h
    ·rename_i h4;refine⟨by omega,by omega,fun s hs=> ?_,YN (by simpa using h3),by omega⟩;have h5: ¬ ∃ x∈cs,mN x=true:=by simpa using h2
     have h6:mN s=false:=by
      cases hb:mN s with
      |false=>rfl
      |true=>exact absurd ⟨s,hs,hb⟩ h5
     simp only[mN,decide_eq_false_iff_not] at h6;omega
theorem IJ {cs:List ByteArray} {ps:List (Int×ByteArray)} (h:Good cs ps):bL cs ps=0:=by
 unfold bL;rw[if_neg (by have:=h.n0;have:=h.n1;omega),if_neg ?_,if_neg (by rw[jG h.adQ];simp),if_neg (by have:=h.wait;omega)];simp only[List.any_eq_true,not_exists,not_and];intro s hs hb;have:=h.cells s hs;simp only[mN,decide_eq_true_eq] at hb;omega
end Go.Proofs.YtbjalbcdbgcgdaaGreat.aX
namespace Go.Proofs.YtbjalbcdbgcgdaaGreat.aX
open Go.RowKit bG sl
attribute [local irreducible] box own sl gH aH bC Qt cJ cG dC dG eO
def oH (cs:List ByteArray) (ps:List (Int×ByteArray)) (at':Int):ByteArray:=
 match ps.reverse.find? fun p=>p.1==at' with
 |some p=>p.2
 |none=>cs.getD at'.toNat ⟨#[]⟩
theorem ayS {cs:List ByteArray} {ps:List (Int×ByteArray)} {at':Int} {j:Nat} {p:Int×ByteArray} (hp:ps[j]? =some p) (hd: ∀ q∈ps.drop (j+1),q.1≠at') (he:p.1=at'):oH cs ps at'=p.2:=by
 have e:ps=ps.take j++p::ps.drop (j+1):=by
  have h1:=ah.1 hp;obtain⟨hl,hx⟩:=h1;rw[←hx,iz,List.take_append_drop]
 unfold oH;rw[e];simp only[List.reverse_append,List.reverse_cons,List.append_assoc,List.find?_append];have h0:(ps.drop (j+1)).reverse.find? (fun p=>p.1==at')=none:=by
  rw[ja];intro q hq;have:=hd q (ix.1 hq);simpa using this
 rw[h0];simp [he]
theorem asC {cs:List ByteArray} {ps:List (Int×ByteArray)} {at':Int} (hd: ∀ q∈ps,q.1≠at') {k:Nat} {s:ByteArray} (hk:at'=(k:Int)) (hs:cs[k]? =some s):oH cs ps at'=s:=by
 unfold oH;have h0:ps.reverse.find? (fun p=>p.1==at')=none:=by
  rw[ja];intro q hq;have:=hd q (ix.1 hq);simpa using this
 rw[h0];subst hk;simp [List.getD,hs]
theorem asD {α:Type} {xs:List α} {j:Nat} {x:α} (hx:xs[j]? =some x) {P:α→Prop} (h: ∀ q∈xs.drop (j+1),P q) (hp:P x): ∀ q∈xs.drop j,P q:=by
 intro q hq;obtain⟨hl,he⟩:=ah.1 hx;rw[←iz (h:=hl),he] at hq;rcases aw.1 hq with rfl|hq
 ·exact hp
 ·exact h q hq
theorem ayT (a w:Option Addr) (ca cw:Nat) (cs:List ByteArray) (ps:List (Int×ByteArray)) (k:Nat) (hk:k<cs.length) (hp:ps.length≤1000000):
  Ct Tryz.prog 159 [.agg #[.slice a cs.length ca, .slice w ps.length cw], .int .i64 (k:Int)] [sl 1 (.slice a cs.length ca) (cs.map fS),sl 2 (.slice w ps.length cw) (ps.map fP)] fun v H'=>v= .string (oH cs ps k)∧H'=[]:=by
 obtain⟨s,hs⟩: ∃ s,cs[k]? =some s:=⟨_,aj hk⟩;(refine Ye Tryz.func159 Tryz.ntmps159 ?_;intro Fr);(repeat' (first|refine Wo ?_|refine aF ?_|(refine Wb ?_;intro b)|(refine Wq ?_;intro q)|(refine Ws ?_ ?_<;>intro h)|fail));(refine cK (σ:=Nat) (fun m=>m≤ps.length∧ ∀ q∈ps.drop m,q.1≠(k:Int)) (fun m=>[(5, .int .i64 ((m:Int)-1))]) (fun m=>m) (ps.length) (by simp) (by exact gA) (fun m ⟨hm,hd⟩=> ?_);refine Da ?_);cases m with
 |zero=>
  (repeat' (first|refine Wo ?_|refine aF ?_|(refine Wb ?_;intro b)|(refine Wq ?_;intro q)|(refine Ws ?_ ?_<;>intro h)|fail));exact Ea (x:=⟨by rw[asC (by simpa using hd) rfl hs],rfl⟩)
 |succ j=>
  have e:((j+1:Nat):Int)-1=(j:Int):=by omega
  rw[e];obtain⟨p,hpj⟩: ∃ p,ps[j]? =some p:=⟨_,aj (by omega)⟩;(repeat' (first|refine Wo ?_|refine aF ?_|(refine Wb ?_;intro b)|(refine Wq ?_;intro q)|(refine Ws ?_ ?_<;>intro h)|fail))
  ·exact Ea (x:=⟨by rw[ayS hpj hd ‹_›],rfl⟩)
  ·refine Ee (j) ?_ ?_
   ·exact⟨by omega,asD hpj hd ‹_›⟩
   ·exact Nat.lt_succ_self j
end Go.Proofs.YtbjalbcdbgcgdaaGreat.aX
namespace Go.Proofs.YtbjalbcdbgcgdaaGreat.use
open Go.RowKit bG sl jX aX fV
abbrev Cells:=List ByteArray
abbrev dK:=List (Int×ByteArray)
theorem aDV {cs:Cells} {ps:dK} (h:aX.Good cs ps) (k:Int):(oH cs ps k).size≤1024:=by
 unfold oH;cases hf:ps.reverse.find? (fun p=>p.1==k) with
 |some p=>
  have hm:=List.mem_of_find?_eq_some hf;have:=h.adQ p (ix.1 hm);exact (uB.1 this).2.2
 |none=>
  show (cs.getD k.toNat ⟨#[]⟩).size≤1024;rw[iw];cases hg:cs[k.toNat]? with
  |some s=>exact h.cells s (List.mem_of_getElem? hg)
  |none=>exact fg _
def KL (cs:Cells) (ps:dK) (k:Nat):List UInt8:=(oH cs ps k).data.toList
theorem ayU (cs:Cells) (ps:dK) (k:Nat):oH cs ps k=str (KL cs ps k):=rfl
def pV (cs:Cells) (ps:dK) (k:Nat):Option (Int×List bD×Bool):=
 if lH (KL cs ps k)=0∧tX (KL cs ps k)=1 then (kE (lI (KL cs ps k))).map fun zs=>(sV (KL cs ps k),zs,((lI (KL cs ps k)).getD 0 0).toNat==1) else none
def YO (cs:Cells) (ps:dK) (k:Nat) (v:Value) (H':List Ent):Prop:=
 (∃ n zs b q c,pV cs ps k=some (n,zs,b)∧v= .tuple #[.int .i64 n, .slice q zs.length c, .bool b, .bool true]∧H'=[own (.slice q zs.length c) 175 4 zs.length (flat xJ zs)])∨
 (pV cs ps k=none∧ ∃ n,v= .tuple #[.int .i64 n, .slice none 0 0, .bool false, .bool false]∧H'=[])
theorem eW {P:Program} {f:FuncId} {args:List Value} {H:List Ent} {R R':Value→List Ent→Prop} (h:Ct P f args H R) (k: ∀ v H',R v H'→R' v H'):Ct P f args H R':=⟨fun Fr w hw=>(h.go Fr w hw).mono fun e w' ⟨v,H',h1,h2,h3⟩=>⟨v,H',h1,k v H' h2,h3⟩⟩
theorem alF {L:List UInt8} {zs:List bD} (hL:L.length≤1000000000000000) (h:kE L=some zs):Ct Tryz.prog 196 [.string (str L)] [] fun v H'=> ∃ q c,v= .tuple #[.slice q zs.length c, .bool ((L.getD 0 0).toNat==1), .int .i64 0]∧H'=[own (.slice q zs.length c) 175 4 zs.length (flat xJ zs)]:=
 eW (oG L hL) fun v H' h2=>by
  rcases h2 with⟨zs',q,c,e,h3,h4⟩|⟨e,_⟩
  ·rw[h] at e;cases e;exact⟨q,c,h3,h4⟩
  ·rw[h] at e;cases e
theorem CZ {L:List UInt8} (hL:L.length≤1000000000000000) (h:kE L=none):Ct Tryz.prog 196 [.string (str L)] [] fun v H'=>v= .tuple #[.slice none 0 0, .bool false, .int .i64 4]∧H'=[]:=
 eW (oG L hL) fun v H' h2=>by
  rcases h2 with⟨zs',q,c,e,_⟩|⟨_,h3⟩
  ·rw[h] at e;cases e
  ·exact h3
attribute [local irreducible] box own sl gH aH bC Qt cJ cG dC dG eO
theorem YP (a w:Option Addr) (ca cw:Nat) (cs:Cells) (ps:dK) (k:Nat) (hk:k<cs.length) (hg:aX.Good cs ps):
  Ct Tryz.prog 130 [.agg #[.slice a cs.length ca, .slice w ps.length cw], .int .i64 (k:Int)] [sl 1 (.slice a cs.length ca) (cs.map fS),sl 2 (.slice w ps.length cw) (ps.map fP)] (YO cs ps k):=by
 have hw:=hg.wait;have N0:=ayT a w ca cw cs ps k hk (by omega);have hb:=aDV hg (k:Int);rw[ayU] at N0 hb;rw[bP] at hb;obtain⟨l,hl⟩: ∃ l,KL cs ps k=l:=⟨_,rfl⟩;rw[hl] at N0 hb;have O0:=KE l (by omega);have hob:(lI l).length≤1024:=by unfold lI dU;rw[List.length_take,List.length_drop];omega
 by_cases hE:lH l=0
 ·rw[arX hE] at O0;by_cases hK:tX l=1
  ·cases hr:kE (lI l) with
   |some zs=>
    have R0:=alF (by omega) hr;have hlog:pV cs ps k=some (sV l,zs,((lI l).getD 0 0).toNat==1):=by unfold pV;rw[hl,if_pos ⟨hE,hK⟩,hr];rfl
    rw[hK] at O0;unfold YO;rw[hlog];generalize (((lI l).getD 0 0).toNat==1)=bb at*;generalize sV l=nn at*;generalize lI l=bl at*;clear hE hK;(refine Ye Tryz.func130 Tryz.ntmps130 ?_;intro Fr);(repeat' (first|refine Wa ?_|refine We ?_|(refine Wb ?_;intro b)|refine Wc (N0 ..) ?_|refine Wc (O0 ..) ?_|fail));(refine Ca (R0) ?_;rintro _ _ ⟨_,⟨q,c,rfl,rfl⟩,rfl⟩;refine Da ?_);refine aZ ?_;exact Ea (x:= .inl ⟨_,_,_,q,c,rfl,rfl,rfl⟩)
   |none=>
    have R0:=CZ (by omega) hr;have hlog:pV cs ps k=none:=by unfold pV;rw[hl,if_pos ⟨hE,hK⟩,hr];rfl
    rw[hK] at O0;unfold YO;rw[hlog];generalize sV l=nn at*;generalize lI l=bl at*;clear hE hK;(refine Ye Tryz.func130 Tryz.ntmps130 ?_;intro Fr);(repeat' (first|refine Wa ?_|refine We ?_|(refine Wb ?_;intro b)|refine Wc (N0 ..) ?_|refine Wc (O0 ..) ?_|refine Wc (R0 ..) ?_|fail));exact Ea (x:= .inr ⟨rfl,_,rfl,rfl⟩)
  ·have hlog:pV cs ps k=none:=by unfold pV;rw[hl,if_neg (fun h=>hK h.2)]
   unfold YO;rw[hlog];generalize sV l=nn at*;generalize lI l=bl at*;generalize tX l=kk at*;clear hE;(refine Ye Tryz.func130 Tryz.ntmps130 ?_;intro Fr);(repeat' (first|refine Wa ?_|refine We ?_|(refine Wb ?_;intro b)|refine Wc (N0 ..) ?_|refine Wc (O0 ..) ?_|fail));exact Ea (x:= .inr ⟨rfl,_,rfl,rfl⟩)
 ·rw[arY hE] at O0;have hlog:pV cs ps k=none:=by unfold pV;rw[hl,if_neg (fun h=>hE h.1)]
  unfold YO;rw[hlog];generalize lH l=ee at*;(refine Ye Tryz.func130 Tryz.ntmps130 ?_;intro Fr);(repeat' (first|refine Wa ?_|refine We ?_|(refine Wb ?_;intro b)|refine Wc (N0 ..) ?_|refine Wc (O0 ..) ?_|fail));exact Ea (x:= .inr ⟨rfl,_,rfl,rfl⟩)
theorem QW {cs:Cells} {ps:dK} {k:Nat} {n:Int} {zs:List bD} {b:Bool} (h:pV cs ps k=some (n,zs,b)):zs.length≤40∧ ∀ p∈zs,dA p=0:=by
 unfold pV at h;split at h
 ·cases hr:kE (lI (KL cs ps k)) with
  |none=>rw[hr] at h;cases h
  |some y=>
   rw[hr] at h;simp only[fv,Option.some.injEq,Prod.mk.injEq] at h;obtain⟨_,rfl,_⟩:=h;have hw:=mS (xK hr).1;exact⟨hw.1,hw.2.1⟩
 ·cases h
def zBl:bD:=(0,0,0,[])
def bS (cs:Cells) (ps:dK) (p:Int×Int):bD×Int:=
 if p.1<2∨(cs.length:Int)≤p.1∨p.2<0 then (zBl,12) else
 match pV cs ps p.1.toNat with
 |none=>(zBl,18)
 |some r=>if (r.2.1.length:Int)≤p.2 then (zBl,12) else (r.2.1.getD p.2.toNat zBl,0)
theorem alG {a w:Option Addr} {ca cw:Nat} {cs:Cells} {ps:dK} {k:Nat} {n:Int} {zs:List bD} {b:Bool} (hk:k<cs.length) (hg:aX.Good cs ps) (h:pV cs ps k=some (n,zs,b)):Ct Tryz.prog 130 [.agg #[.slice a cs.length ca, .slice w ps.length cw], .int .i64 (k:Int)] [sl 1 (.slice a cs.length ca) (cs.map fS),sl 2 (.slice w ps.length cw) (ps.map fP)] fun v H'=> ∃ q c,v= .tuple #[.int .i64 n, .slice q zs.length c, .bool b, .bool true]∧H'=[own (.slice q zs.length c) 175 4 zs.length (flat xJ zs)]:=
 eW (YP a w ca cw cs ps k hk hg) fun v H' h2=>by
  rcases h2 with⟨n',zs',b',q,c,e,h3,h4⟩|⟨e,_⟩
  ·rw[h] at e;cases e;exact⟨q,c,h3,h4⟩
  ·rw[h] at e;cases e
theorem alH {a w:Option Addr} {ca cw:Nat} {cs:Cells} {ps:dK} {k:Nat} (hk:k<cs.length) (hg:aX.Good cs ps) (h:pV cs ps k=none):Ct Tryz.prog 130 [.agg #[.slice a cs.length ca, .slice w ps.length cw], .int .i64 (k:Int)] [sl 1 (.slice a cs.length ca) (cs.map fS),sl 2 (.slice w ps.length cw) (ps.map fP)] fun v H'=> ∃ n,v= .tuple #[.int .i64 n, .slice none 0 0, .bool false, .bool false]∧H'=[]:=
 eW (YP a w ca cw cs ps k hk hg) fun v H' h2=>by
  rcases h2 with⟨n',zs',b',q,c,e,_⟩|⟨_,n,h3,h4⟩
  ·rw[h] at e;cases e
  ·exact⟨n,h3,h4⟩
theorem YQ (a w:Option Addr) (ca cw:Nat) (cs:Cells) (ps:dK) (p:Int×Int) (hg:aX.Good cs ps):
  Ct Tryz.prog 179 [.agg #[.slice a cs.length ca, .slice w ps.length cw], .agg #[.int .i64 p.1, .int .i64 p.2]] [sl 1 (.slice a cs.length ca) (cs.map fS),sl 2 (.slice w ps.length cw) (ps.map fP)] fun v H'=>v= .tuple #[.agg #[.int .i64 (bS cs ps p).1.1, .int .i64 (bS cs ps p).1.2.1, .int .i64 (bS cs ps p).1.2.2.1, .string (str (bS cs ps p).1.2.2.2)], .int .i64 (bS cs ps p).2]∧H'=[]:=by
 obtain⟨x,y⟩:=p;have hn1:=hg.n1;by_cases h1:x<2∨(cs.length:Int)≤x∨y<0
 ·have e:bS cs ps (x,y)=(zBl,12):=by unfold bS;rw[if_pos h1]
  rw[e];unfold zBl;dsimp only;(refine Ye Tryz.func179 Tryz.ntmps179 ?_;intro Fr);(repeat' (first|refine Wa ?_|refine We ?_|(refine Wb ?_;intro b)|(refine Ws ?_ ?_<;>intro h)|fail));all_goals first|(exfalso;omega)|exact Ea (x:=⟨rfl,rfl⟩)
 ·obtain⟨k,rfl⟩:=iy (by omega:0≤x);obtain⟨j,rfl⟩:=iy (by omega:0≤y);have hk:k<cs.length:=by omega
  cases hlog:pV cs ps k with
  |none=>
   have C0:=alH (a:=a) (w:=w) (ca:=ca) (cw:=cw) hk hg hlog;have e:bS cs ps ((k:Int),(j:Int))=(zBl,18):=by unfold bS;rw[if_neg h1];dsimp only;rw[fq,hlog]
   rw[e];unfold zBl;dsimp only;(refine Ye Tryz.func179 Tryz.ntmps179 ?_;intro Fr);(repeat' (first|refine Wa ?_|refine We ?_|(refine Wb ?_;intro b)|fail));(refine Ca (C0) ?_;rintro _ _ ⟨_,⟨n,rfl,rfl⟩,rfl⟩;refine Da ?_);refine aZ ?_;exact Ea (x:=⟨rfl,rfl⟩)
  |some r=>
   obtain⟨n,zs,b⟩:=r;have C0:=alG (a:=a) (w:=w) (ca:=ca) (cw:=cw) hk hg hlog;have hz40:=(QW hlog).1;by_cases h2:zs.length≤j
   ·have e:bS cs ps ((k:Int),(j:Int))=(zBl,12):=by unfold bS;rw[if_neg h1];dsimp only;rw[fq,hlog];dsimp only;rw[if_pos (by omega)]
    rw[e];unfold zBl;dsimp only;(refine Ye Tryz.func179 Tryz.ntmps179 ?_;intro Fr);(repeat' (first|refine Wa ?_|refine We ?_|(refine Wb ?_;intro b)|fail));(refine Ca (C0) ?_;rintro _ _ ⟨_,⟨q,c,rfl,rfl⟩,rfl⟩;refine Da ?_);refine aZ ?_;exact Ea (x:=⟨rfl,rfl⟩)
   ·obtain⟨z,hz⟩: ∃ z,zs[j]? =some z:=⟨_,aj (by omega)⟩;have e:bS cs ps ((k:Int),(j:Int))=(z,0):=by unfold bS;rw[if_neg h1];dsimp only;rw[fq,hlog];dsimp only;rw[if_neg (by omega),fq,iw,hz];rfl
    rw[e];dsimp only;(refine Ye Tryz.func179 Tryz.ntmps179 ?_;intro Fr);(repeat' (first|refine Wa ?_|refine We ?_|(refine Wb ?_;intro b)|fail));(refine Ca (C0) ?_;rintro _ _ ⟨_,⟨q,c,rfl,rfl⟩,rfl⟩;refine Da ?_);refine aZ ?_;exact Ea (x:=⟨rfl,rfl⟩)
end Go.Proofs.YtbjalbcdbgcgdaaGreat.use
namespace Go.Proofs.YtbjalbcdbgcgdaaGreat.sl
open Go.RowKit bG
section
variable {P:Program} {n:Nat} {F:dF} {H R:List Ent} {o:Oper} {x y z:Operand} {v u z':Value} {T S:TypeId}
theorem View.front {S R:List Ent} {e sz c:Nat} {q:Option Addr} {α:Type} {f:α→List Value} {xs ts:List α} (p:bF (sl.own (Value.slice q c c) e sz c (flat f (xs++ts))) S R) (hf: ∀ y,(f y).length=sz) (hc:c=(xs++ts).length):View S (sl sz (.slice q xs.length c) (xs.map f)):=by
 have h0 := View.own p hf hc;refine ⟨rfl, fun w hw => ?_, fun b hb => ⟨_, p.mem, by
  have h2 := hb.2;cases q <;> exact h2⟩⟩
 have h1:=ahK (h0.holds w hw) (m:=xs.length) (by simp);rwa [List.take_left' rfl] at h1
theorem nW {α:Type} (f:α→List Value) (xs ys:List α):flat f (xs++ys)=flat f xs++flat f ys:=by simp [flat]
theorem tT {t e sz by' N c m:Nat} {agg:Bool} {q:Option Addr} {k:IntKind} {j:Int} [ht:nH P t e] [hs:Ty P e agg sz by' z'] (ho:o.op= .slice t x none (some y) none) (hx:ev F x=some (.slice q N c)) (hy:ev F y=some (.int k j)) (hj:j=(m:Int)) (hm:m≤c):Qt P n o F H (.slice q m c):=fun a w ha hw=>by
 subst hj;have he:P.elem t=e:=by simp [Program.elem,ht.h]
 have hu:P.underlying t=some (.slice (P.elem t)):=by rw[he];exact ht.h
 have h1:=run_slice_h (P:=P) w t q N c hu k (m:Int) (by omega) (by omega);rw[he,cV hs] at h1;have hv:sliced q 0 ((m:Int)).toNat c sz= .slice q m c:=by
  simp [sliced,Addr.add]
 simp only[Result.andThen_ok,hv] at h1;simp only[execOp,ho,fv,Option.map_none,ha.eval hx,ha.eval hy,Sem.run_bind,Sem.run_pure,run_sliceAt_slice w t _ _ _ _ hu,h1,Result.andThen_ok]
theorem wP {t e m c m' c':Nat} {q:Option Addr} {T':TypeId} [ht:nH P t e] (ho:o.op= .binOp .eql t x y T') (hx:ev F x=some (.slice q m c)) (hy:ev F y=some (.slice none m' c')):Qt P n o F H (.bool q.isNone):=fun a w ha hw=>by
 have h:=Lib.run_eql_slice_nil (P:=P) w t e q m c m' c' ht.h;simp [execOp,ho,ha.eval hx,ha.eval hy,eqGuard,h]
def YR (P:Program) (s:TypeId) (f:Nat):Option Nat:=
 match P.underlying s with
 |some (.struct fs)=>match fs[f]? with
  |some d=>match P.underlying d.type with
   |some e=>if adC e=true then none else some d.offset
   |none=>none
  |none=>none
 |_=>none
theorem mT {f off:Nat} {us:List Value} (ho:o.op= .field T x f) (hf:YR P T f=some off) (hx:ev F x=some (.agg us.toArray)) (hu:us[off]? =some v):Qt P n o F H v:=fun a w ha hw=>by
 unfold YR at hf;split at hf
 ·rename_i fs hs;split at hf
  ·rename_i d hd;split at hf
   ·rename_i e he;split at hf
    ·cases hf
    ·rename_i hag;have hoff:d.offset=off:=by cases hf;rfl
     subst hoff;have hisa:(isAgg d.type).run P w= .ok false w:=by
      simp only[isAgg,Sem.run_bind,run_underlying he,Result.andThen_ok];cases e<;>first|rfl|exact absurd rfl hag
     simp only[execOp,ho,ha.eval hx,Instr.field,Sem.run_bind,run_underlying hs,Result.andThen_ok,hd,asAgg,Sem.run_pure,part,hisa];simp [hu]
   ·cases hf
  ·cases hf
 ·cases hf
theorem alI {t e sz by':Nat} {agg:Bool} [ht:nH P t e] [hs:Ty P e agg sz by' z'] (ho:o.op= .buildSlice t 0 #[]):cJ P n o F H fun u H'=> ∃ g,u= .slice (some ⟨g,0,none⟩) 0 0∧H'=own (.slice (some ⟨g,0,none⟩) 0 0) e sz 0 []::H:=fun Q a w next ha hw hn=>by
 have hrun:(Instr.buildSlice t 0 ((#[]:Array (Nat×Operand)).map fun (i,x)=>(i,a.eval x))).run P w= .ok (.slice (some ⟨w.heap.size,0,none⟩) 0 0) (w.alloc (.cells #[] e)):=by
  have e0: ∀ g:Nat→Value,Instr.fill (fun i=>some (i*sz,sz)) (Array.map g (Array.range 0)) []=some #[]:=fun g=>by simp [Instr.fill]
  simp [Instr.buildSlice,Sem.run_bind,run_underlying ht.h,Result.andThen_ok,cV hs];rw[e0];rfl
 unfold Oper.wp;simp only[execOp,ho,Sem.run_bind,hrun,Result.andThen_ok,Sem.run_pure,Oper.upon];refine hn _ _ _ ⟨w.heap.size,rfl,rfl⟩ (aD.new hw (fD w (.cells #[] e)) ⟨by simp, .inr ⟨w.heap.size,0, #[],rfl,fg _,heap_alloc_new _ _,aq _,fg _,by simp,by simp⟩⟩ fun b hb=> ?_);have:w.heap.size=b:=Option.some.inj hb;omega
theorem alJ {f:FuncId} {args:List Value} {H:List Ent} {Rs:Value→List Ent→Prop} {sz m c:Nat} {q:Option Addr} {rows:List (List Value)} (k0:q=none→c=0→rows=[]→Ct P f args (sl sz (.slice q m c) rows::H) Rs) (k1:(∃ ad,q=some ad)→Ct P f args (sl sz (.slice q m c) rows::H) Rs):Ct P f args (sl sz (.slice q m c) rows::H) Rs:=
 ⟨fun Fr w hw => by
  cases q with
  |some ad=>exact (k1 ⟨ad,rfl⟩).go Fr w hw
  |none=>
   have h:bM w sz (.slice none m c) rows:=hw.head;rcases h with⟨h0,h1|⟨a,cap,h1⟩⟩|⟨b,off,cap,h1,_⟩
   ·cases h1;exact (k0 rfl rfl h0).go Fr w hw
   ·cases h1
   ·cases h1⟩
end
end Go.Proofs.YtbjalbcdbgcgdaaGreat.sl
namespace Go.Proofs.YtbjalbcdbgcgdaaGreat.dO
open Go.RowKit bG
def alK (p:Int×Int):List Value:=[.int .i64 p.1, .int .i64 p.2]
def fH (p:Int×Int):Prop:=0≤p.1∧p.1<128∧0≤p.2∧p.2<40∧(p.1≠0∨p.2=0)∧p.1≠1
instance (p:Int×Int):Decidable (fH p):=by unfold fH;infer_instance
theorem QX (c n:Int) (W:World):
  Calls Tryz.prog 178 #[.agg #[.int .i64 c, .int .i64 n]] W fun e w'=>e= .returned (.bool (decide (fH (c,n))))∧Below W.heap.size W w':=by
 obtain⟨r,hr⟩: ∃ r,r=decide (fH (c,n)):=⟨_,rfl⟩;rw[←hr];have hb:=(Below.refl W.heap.size W).alloc (aq _) (Obj.cells #[Value.int .i64 c,Value.int .i64 n] 77);by_cases h1:0≤c
 ·by_cases h2:c<128
  ·by_cases h3:0≤n
   ·by_cases h4:n<40
    ·by_cases h5:c=0
     ·by_cases h6:n=0
      ·have:r=true:=by rw[hr,decide_eq_true_iff];unfold fH;simp only;omega
       subst this;subst h5 h6;clear hr
       go_enter Tryz.func178,Tryz.ntmps178
       go_wp2_with (fail)
       go_ret
       exact⟨rfl,hb⟩
      ·have:r=false:=by rw[hr,decide_eq_false_iff_not];unfold fH;simp only;omega
       subst this;have hnb:(n==0)=false:=by simpa using h6
       subst h5;clear hr
       go_enter Tryz.func178,Tryz.ntmps178
       go_wp2_with (fail)
       go_ret
       exact⟨rfl,hb⟩
     ·have hcb:(c !=0)=true:=by simpa using h5
      by_cases h6:c=1
      ·have:r=false:=by rw[hr,decide_eq_false_iff_not];unfold fH;simp only;omega
       subst this;subst h6;clear hr
       go_enter Tryz.func178,Tryz.ntmps178
       go_wp2_with (fail)
       go_ret
       exact⟨rfl,hb⟩
      ·have:r=true:=by rw[hr,decide_eq_true_iff];unfold fH;simp only;omega
       subst this;have hcb1:(c !=1)=true:=by simpa using h6
       clear hr
       go_enter Tryz.func178,Tryz.ntmps178
       go_wp2_with (fail)
       go_ret
       exact⟨rfl,hb⟩
    ·have:r=false:=by rw[hr,decide_eq_false_iff_not];unfold fH;simp only;omega
     subst this;clear hr
     go_enter Tryz.func178,Tryz.ntmps178
     go_wp2_with (fail)
     go_ret
     exact⟨rfl,hb⟩
   ·have:r=false:=by rw[hr,decide_eq_false_iff_not];unfold fH;simp only;omega
    subst this;clear hr
    go_enter Tryz.func178,Tryz.ntmps178
    go_wp2_with (fail)
    go_ret
    exact⟨rfl,hb⟩
  ·have:r=false:=by rw[hr,decide_eq_false_iff_not];unfold fH;simp only;omega
   subst this;clear hr
   go_enter Tryz.func178,Tryz.ntmps178
   go_wp2_with (fail)
   go_ret
   exact⟨rfl,hb⟩
 ·have:r=false:=by rw[hr,decide_eq_false_iff_not];unfold fH;simp only;omega
  subst this;clear hr
  go_enter Tryz.func178,Tryz.ntmps178
  go_wp2_with (fail)
  go_ret
  exact⟨rfl,hb⟩
end Go.Proofs.YtbjalbcdbgcgdaaGreat.dO
