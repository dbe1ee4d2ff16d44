/- FsOps, packed. -/
import Derived.Test.YtbjalbcdbgcgdaaGreatOQ
import Derived.Test.YtbjalbcdbgcgdaaGreatO04
import Derived.Test.YtbjalbcdbgcgdaaGreatO00
import Derived.Test.YtbjalbcdbgcgdaaGreatO03
import Derived.Test.YtbjalbcdbgcgdaaGreatO01
import Derived.Test.YtbjalbcdbgcgdaaGreatO02
open Go.Proofs.Tryz renaming prog->lk
open List renaming IsPrefix.trans->adj,Pairwise.nil->ft,append_assoc->fu,append_nil->ke,cons_append->dw,drop->adq,drop_eq_getElem_cons->bh,drop_length->abc,ext_getElem?->ep,find?->adp,getD_eq_getElem?_getD->my,getElem?_append_left->lu,getElem?_append_right->gz,getElem?_eq_getElem->ak,getElem?_eq_none->je,getElem?_eq_some_iff->aj,getElem?_set->ic,getElem?_take->au,length_append->ae,length_cons->dv,length_map->gp,length_set->n5,length_singleton->gk,length_take->ar,mem_append->ei,mem_append_left->jh,mem_append_right->lp,mem_cons->al,mem_cons_of_mem->a8,mem_cons_self->bu,mem_of_getElem?->jg,mem_singleton->eh,nil_append->dz,not_mem_nil->ck,pairwise_cons->an,prefix_append->adk,prefix_refl->adm,reverse_cons->adl,take_add_one->ib,take_length->mz,take_of_length_le->bd
open Nat renaming add_zero->fl,eq_zero_or_pos->jo,le_refl->df,le_trans->gm,lt_or_ge->ig,not_lt_zero->mh,sub_self->ku,zero_le->fe
open Int renaming eq_ofNat_of_zero_le->adg,mul_le_mul->ado,mul_nonneg->adn,toNat_natCast->dc
open Option renaming some.inj->a7
open Prod renaming snd->adr
open UInt8 renaming ofNat->ky
open Decidable renaming not_not->aab
open Array renaming getElem?_eq_some_iff->dn
open Go.Value renaming ownBlock->aai,slice->jw
open Go.IntKind renaming bits->jm,max->jv,min->ju,signed->iz
open Go.Lit renaming int->kg
set_option linter.unusedVariables false
set_option maxRecDepth 100000
set_option maxHeartbeats 8000000
namespace Go.Proofs.YtbjalbcdbgcgdaaGreat
open Go.RowKit bO
namespace bA
open sl
attribute [local irreducible] box own sl bL aH bJ Qt cN cM dG dL eQ
def aCT:Value:= .agg #[.slice none 0 0, .slice none 0 0]
def aKP (cs:List ByteArray) (ps:List (Int×ByteArray)) (v:Value) (H':List Ent):Prop:=
 ∃ qa ca qw cw,v= .tuple #[.agg #[.slice qa cs.length ca, .slice qw ps.length cw], .int .i64 0]∧H'=[own (.slice qa cs.length ca) 9 1 cs.length (flat fS cs),own (.slice qw ps.length cw) 130 2 ps.length (flat fP ps)]
def aQQ (e:Int) (cs:List ByteArray) (ps:List (Int×ByteArray)) (v:Value) (H':List Ent):Prop:=
 (e≠0∧v= .tuple #[aCT, .int .i64 e]∧H'=[])∨(e=0∧aKP cs ps v H')
def bR (cs:List ByteArray) (ps:List (Int×ByteArray)) (at':Int) (text:ByteArray):Int:=
 if bZ cs ps≠0 then bZ cs ps else if lU cs.length at' text≠0 then lU cs.length at' text else if ps.length=400 then 9 else 0
theorem kJ (a w:Option Addr) (ca cw:Nat) (cs:List ByteArray) (ps:List (Int×ByteArray)) (at':Int) (text:ByteArray) (hc:cs.length≤maxLen) (hp:ps.length≤maxLen):
  Ct lk 101 [.agg #[.slice a cs.length ca, .slice w ps.length cw], .int .i64 at', .string text] [sl 1 (.slice a cs.length ca) (cs.map fS),sl 2 (.slice w ps.length cw) (ps.map fP)] (aQQ (bR cs ps at' text) cs (ps++[(at',text)])):=by
 have CK:=bP a w ca cw cs ps hc hp;by_cases h0:bZ cs ps=0
 ·have hg:=OZ h0;have hn:=hg.n1;have hl:=hg.wait;rw[h0] at CK;by_cases h1:lU cs.length at' text=0
  ·have PT:=oX cs.length at' text;rw[h1] at PT;have LK:=FF a w ca cw cs ps Z8 Z8;(refine Ye Tryz.func101 Tryz.ntmps101 ?_;intro Fr);(repeat' (first|refine Y5 ?_|(refine Wb ?_;intro b)|(refine Wq ?_;intro q)|refine Wc (CK ..) ?_|refine Wc (PT ..) ?_|(refine Ws ?_ ?_<;>intro h)|fail))
   ·exact Ea (x:= .inl ⟨by unfold bR;rw[Jf Z3,Jf (by simp [h1]),Jg Z8];simp,by unfold bR;rw[Jf Z3,Jf (by simp [h1]),Jg Z8];rfl,rfl⟩)
   refine Cb (LK) ?_;rintro _ _ ⟨_,⟨qa,ca',qw,cw',rfl,rfl⟩,rfl⟩;refine Da ?_;(repeat' (first|refine Y5 ?_|(refine Wb ?_;intro b)|(refine Wq ?_;intro q)|(refine Ws ?_ ?_<;>intro h)|fail));(refine aL wt Jb (by first|exact Ma (fP) [(at',text)] rfl|exact Mb (fP) [(at',text)] rfl) ?_;rintro _ _ ⟨q2,c2,rfl,rfl⟩);refine dE ?_;exact Ea (x:= .inr ⟨by unfold bR;rw[Jf Z3,Jf (by simp [h1]),Jf Z8],_,_,_,_,rfl,rfl⟩)
  ·(refine Ye Tryz.func101 Tryz.ntmps101 ?_;intro Fr);(repeat' (first|refine Y5 ?_|(refine Wb ?_;intro b)|(refine Wq ?_;intro q)|refine Wc (CK ..) ?_|refine Wc (oX ..) ?_|(refine Ws ?_ ?_<;>intro h)|fail));exact Ea (x:= .inl ⟨by unfold bR;rw[Jf Z3,Jg h1];exact h1,by unfold bR;rw[Jf Z3,Jg h1];rfl,rfl⟩)
 ·(refine Ye Tryz.func101 Tryz.ntmps101 ?_;intro Fr);(repeat' (first|refine Y5 ?_|(refine Wb ?_;intro b)|(refine Wq ?_;intro q)|refine Wc (CK ..) ?_|(refine Ws ?_ ?_<;>intro h)|fail));exact Ea (x:= .inl ⟨by unfold bR;rw[Jg h0];exact h0,by unfold bR;rw[Jg h0];rfl,rfl⟩)
def land (K:Nat→Bool):Nat→List ByteArray→List (Int×ByteArray)→List ByteArray
 |_,cs,[]=>cs
 |i,cs,p::ps=>land K (i+1) (if K i then cs.set p.1.toNat p.2 else cs) ps
theorem rL (K:Nat→Bool) (ps:List (Int×ByteArray)): ∀ i cs,(land K i cs ps).length=cs.length:=by
 induction ps with
 |nil=>intro i cs;rfl
 |cons p ps ih=>intro i cs;simp only[land];rw[ih];split<;>simp
theorem avB (K:Nat→Bool) {ps:List (Int×ByteArray)} {k:Nat} {p:Int×ByteArray} (hp:ps[k]? =some p): ∀ i cs,land K i cs (ps.take (k+1))=if K (i+k) then (land K i cs (ps.take k)).set p.1.toNat p.2 else land K i cs (ps.take k):=by
 induction ps generalizing k with
 |nil=>simp at hp
 |cons q ps ih=>
  intro i cs;cases k with
  |zero=>
   simp at hp;subst hp;simp [land]
  |succ k=>
   simp only[List.take_succ_cons,land];rw[ih ZK,show i+1+k=i+(k+1) from by omega]
theorem aCU (K:Nat→Bool) {ps:List (Int×ByteArray)} {k:Nat} (hk:ps.length≤k) (i:Nat) (cs:List ByteArray):land K i cs (ps.take k)=land K i cs ps:=by rw[bd hk]
theorem amL (a w:Option Addr) (ca cw:Nat) (cs:List ByteArray) (ps:List (Int×ByteArray)) (f:FuncId) (cap:List Value) (C:List Ent) (K:Nat→Bool) (hc:cs.length≤1000000) (hp:ps.length≤1000000) (zu: ∀ p∈ps,0≤p.1∧p.1<cs.length)
  [hf:cG lk f] (hK: ∀ i:Nat,i<ps.length→Ct lk f ([.int .i64 (i:Int)]++cap) C fun v H'=>v= .bool (K i)∧H'=C):
  Ct lk 79 [.agg #[.slice a cs.length ca, .slice w ps.length cw], .func (.func f) #[] cap.toArray] ([sl 1 (.slice a cs.length ca) (cs.map fS),sl 2 (.slice w ps.length cw) (ps.map fP)]++C) fun v H'=> ∃ qa ca,v= .agg #[.slice qa cs.length ca, .slice none 0 0]∧H'=own (.slice qa cs.length ca) 9 1 cs.length (flat fS (land K 0 cs ps))::C:=by
 (refine Ye Tryz.func79 Tryz.ntmps79 ?_;intro Fr);(repeat' (first|refine Y5 ?_|(refine Wb ?_;intro b)|(refine Wq ?_;intro q)|(refine Ws ?_ ?_<;>intro h)|fail));(refine aL wt Jb Zd ?_;rintro _ _ ⟨q1,c1,rfl,rfl⟩);(refine yW ?_;intro b);(refine aC (σ:=Nat) (fun k=>k≤ps.length) (fun k=>[(15, .int .i64 (k:Int))]) (fun k=>[own (.slice q1 cs.length c1) 9 1 cs.length (flat fS (land K 0 cs (ps.take k)))]) _ (fun k=>ps.length-k) (0) Ja Ze Zb (fun k hk=> ?_);refine Da ?_);rcases dW ps k with⟨p,zv,hlt⟩|zt
 ·obtain⟨i,hi⟩: ∃ i:Nat,p.1=(i:Int):=⟨p.1.toNat,by have:=(zu p (jg zv)).1;omega⟩;have hi2:i<cs.length:=by have:=(zu p (jg zv)).2;omega
  obtain⟨p1,t⟩:=p;simp only at hi;subst hi;have zy:=avB K zv 0 cs;rw[Nat.zero_add] at zy;dsimp only[dc] at zy;have hll:=rL K (ps.take k) 0 cs;obtain⟨s0,hs0⟩: ∃ s0,(land K 0 cs (ps.take k))[i]? =some s0:=⟨_,ak Z8⟩;by_cases zw:K k=true
  ·rw[Jg zw] at zy;have zx:=hK k hlt;rw[zw] at zx;(refine yW ?_;intro b);(refine aL wt rfl (wV rfl rfl rfl (zx) (by repeat (first|exact YE _|apply tail_cons))) ?_;rintro _ _ ⟨rfl,rfl⟩);refine dE ?_;(refine dC wt (aI (f:=fS) (q':=t) rfl rfl rfl rfl Zk rfl Z8 Zg Jc rfl rfl Jb) ?_;rintro _ _ ⟨rfl,rfl⟩);rw[←zy];refine dE ?_;refine Ee (k+1) ?_ ?_
   ·show k+1≤ps.length;omega
   ·show ps.length-(k+1)<ps.length-k;omega
  ·rw[Jf zw] at zy;have zx:=hK k hlt;rw[Bool.eq_false_iff.2 zw] at zx;(refine yW ?_;intro b);(refine aL wt rfl (wV rfl rfl rfl (zx) (by repeat (first|exact YE _|apply tail_cons))) ?_;rintro _ _ ⟨rfl,rfl⟩);rw[←zy];refine dE ?_;refine Ee (k+1) ?_ ?_
   ·show k+1≤ps.length;omega
   ·show ps.length-(k+1)<ps.length-k;omega
 ·rw[aCU K zt];refine dE ?_;exact Ea (x:=⟨_,_,rfl,rfl⟩)
def aCV (e:Int) (cs':List ByteArray) (v:Value) (H':List Ent):Prop:=
 (e≠0∧v= .tuple #[aCT, .int .i64 e]∧H'=[])∨(e=0∧ ∃ qa ca,v= .tuple #[.agg #[.slice qa cs'.length ca, .slice none 0 0], .int .i64 0]∧H'=[own (.slice qa cs'.length ca) 9 1 cs'.length (flat fS cs')])
theorem aqU {cs:List ByteArray} {ps:List (Int×ByteArray)} (hg:Good cs ps): ∀ p∈ps,0≤p.1∧p.1<cs.length:=fun p hp=>by
 have:=xL.1 (hg.agT p hp);exact⟨this.1,this.2.1⟩
theorem aKQ (i:Int):Ct lk 174 [.int .i64 i] [] fun v H'=>v= .bool true∧H'=[]:=by
 (refine Ye Tryz.func174 Tryz.ntmps174 ?_;intro Fr);refine dE ?_;exact Ea (x:=⟨rfl,rfl⟩)
theorem ahE (a w:Option Addr) (ca cw:Nat) (cs:List ByteArray) (ps:List (Int×ByteArray)) (hc:cs.length≤maxLen) (hp:ps.length≤maxLen):
  Ct lk 102 [.agg #[.slice a cs.length ca, .slice w ps.length cw]] [sl 1 (.slice a cs.length ca) (cs.map fS),sl 2 (.slice w ps.length cw) (ps.map fP)] (aCV (bZ cs ps) (land (fun _=>true) 0 cs ps)):=by
 have CK:=bP a w ca cw cs ps hc hp;have zy:=rL (fun _=>true) ps 0 cs;by_cases h0:bZ cs ps=0
 ·have hg:=OZ h0;have hn:=hg.n1;have hl:=hg.wait;rw[h0] at CK;have LD:=amL a w ca cw cs ps 174 [] [] (fun _=>true) Z8 Z8 (aqU hg) fun i _=>aKQ i
  (refine Ye Tryz.func102 Tryz.ntmps102 ?_;intro Fr);(repeat' (first|refine Y5 ?_|(refine Wb ?_;intro b)|(refine Wq ?_;intro q)|refine Wc (CK ..) ?_|(refine Ws ?_ ?_<;>intro h)|fail));refine Cb (LD) ?_;rintro _ _ ⟨_,⟨qa,ca',rfl,rfl⟩,rfl⟩;refine Da ?_;refine dE ?_;rw[←zy];exact Ea (x:= .inr ⟨h0,_,_,rfl,rfl⟩)
 ·(refine Ye Tryz.func102 Tryz.ntmps102 ?_;intro Fr);(repeat' (first|refine Y5 ?_|(refine Wb ?_;intro b)|(refine Wq ?_;intro q)|refine Wc (CK ..) ?_|(refine Ws ?_ ?_<;>intro h)|fail));exact Ea (x:= .inl ⟨h0,rfl,rfl⟩)
theorem aCW {cs:List ByteArray} {ps:List (Int×ByteArray)} {p:Int×ByteArray} {k:Nat} (h0:0≤p.1) (h1:p.1<cs.length):rJ cs (p::ps) k=rJ (cs.set p.1.toNat p.2) ps k:=by
 obtain⟨i,hi⟩: ∃ i:Nat,p.1=(i:Int):=⟨p.1.toNat,Z8⟩;obtain⟨a,t⟩:=p;simp only at hi h0 h1;subst hi;unfold rJ;simp only[adl,List.find?_append,dc];cases ps.reverse.find? (fun p=>p.1==(k:Int)) with
 |some q=>simp
 |none=>
  simp only[Option.none_or];by_cases e:i=k
  ·subst e;have:i<cs.length:=Z8
   simp [adp,this]
  ·have e2:((i:Int)==(k:Int))=false:=by simp;omega
   simp [adp,e2,e]
theorem ahF {ps:List (Int×ByteArray)} {k:Nat}: ∀ (i:Nat) (cs:List ByteArray),(∀ p∈ps,0≤p.1∧p.1<cs.length)→rJ (land (fun _=>true) i cs ps) [] k=rJ cs ps k:=by
 induction ps with
 |nil=>intro i cs _;rfl
 |cons p ps ih=>
  intro i cs h;have hp:=h p bu;rw[aCW hp.1 hp.2];simp only[land,if_true];exact ih (i+1) _ fun q hq=>by rw[n5];exact h q (a8 _ hq)
theorem adB {cs:List ByteArray} {ps:List (Int×ByteArray)} {a b:Int} {t:ByteArray}:rJ cs (ps++[(a,t)]) b=if a=b then t else rJ cs ps b:=by
 unfold rJ;simp only[List.reverse_append,adl,List.reverse_nil,dz,dw,List.find?_cons];by_cases e:a=b
 ·simp [e]
 ·have e2:(a==b)=false:=by simp [e]
  simp [e,e2]
end bA
namespace cK
open sl
attribute [local irreducible] box own sl bL aH bJ Qt cN cM dG dL eQ
theorem FF (a g:Option Addr) (ca cg:Nat) (ps:List (Int×Int)) (gs:List Int) (h1:ps.length=48) (h2:gs.length=48):
  Ct lk 229 [.agg #[.slice a ps.length ca, .slice g gs.length cg]] [sl 2 (.slice a ps.length ca) (ps.map jP),sl 1 (.slice g gs.length cg) (gs.map fI)] fun v H'=> ∃ qa ca qg cg,v= .agg #[.slice qa ps.length ca, .slice qg gs.length cg]∧H'=[own (.slice qa ps.length ca) 77 2 ps.length (flat jP ps),own (.slice qg gs.length cg) 3 1 gs.length (flat fI gs)]:=by
 (refine Ye Tryz.func229 Tryz.ntmps229 ?_;intro Fr);(repeat' (first|refine Y2 ?_|(refine Wb ?_;intro b)|(refine Wq ?_;intro q)|(refine Ws ?_ ?_<;>intro h)|refine Wz ?_|fail));(refine aD (Hq:=[_]) [1] [7] rfl Jd Za ?_);refine aF ?_;(refine aB 2 ?_;refine Oa (l:=by exact dV rfl rfl rfl Zk Zg Zc rfl Z8 Zi) (k:= ?_);rintro _ _ ⟨qa,ca1,rfl,rfl⟩;refine Te ?_;(try refine Da ?_));refine aF ?_;(refine aB 5 ?_;refine Oa (l:=by exact dV rfl rfl rfl Zk Zg Zc rfl Z8 Zi) (k:= ?_);rintro _ _ ⟨qg,cg1,rfl,rfl⟩;refine Te ?_;(try refine Da ?_));refine aF ?_;exact Ea (x:=⟨_,_,_,_,rfl,rfl⟩)
theorem aQT (a g:Option Addr) (ca cg:Nat) {ps:List (Int×Int)} {gs:List Int} {k:Nat} {p:Int×Int} (hw:WfM ps gs) (h:eT ps gs) (hk:k<48) (ho:gT p) (hp:p.1≠0):
  Ct lk 160 [.agg #[.slice a ps.length ca, .slice g gs.length cg], .int .i64 (k:Int), .agg #[.int .i64 p.1, .int .i64 p.2]] [sl 2 (.slice a ps.length ca) (ps.map jP),sl 1 (.slice g gs.length cg) (gs.map fI)] fun v H'=> ∃ qa ca qg cg,v= .tuple #[.agg #[.slice qa (ps.set k p).length ca, .slice qg gs.length cg], .int .i64 0]∧H'=[own (.slice qa (ps.set k p).length ca) 77 2 (ps.set k p).length (flat jP (ps.set k p)),own (.slice qg gs.length cg) 3 1 gs.length (flat fI gs)]:=by
 have CK:=oL (.slice a ps.length ca) (.slice g gs.length cg) hw h;obtain⟨h1,h2,h3⟩:=h;clear h3 hw;have LK:=FF a g ca cg ps gs h1 h2;have RT:=RN p;rw[decide_eq_true ho] at RT;clear ho;obtain⟨p0,hp0⟩: ∃ p0,ps[k]? =some p0:=⟨_,ak Z8⟩;have zy:(ps.set k p).length=ps.length:=n5;(refine Ye Tryz.func160 Tryz.ntmps160 ?_;intro Fr);(repeat' (first|refine Y1 ?_|(refine Wb ?_;intro b)|(refine Wq ?_;intro q)|refine Wc (CK ..) ?_|refine Wc (RT ..) ?_|(refine Ws ?_ ?_<;>intro h)|refine Wz ?_|fail));(refine Ca (LK) ?_;rintro _ _ ⟨_,⟨q1,c1,q2,c2,rfl,rfl⟩,rfl⟩;refine Da ?_);(refine fH ?_;intro b);(refine dC wt (aI (f:=jP) (q':=p) rfl rfl rfl rfl Zk rfl Z8 Zg Jc rfl rfl Jb) ?_;rintro _ _ ⟨rfl,rfl⟩);rw[←zy];refine aF ?_;exact Ea (x:=⟨_,_,_,_,rfl,rfl⟩)
theorem xQ (a g:Option Addr) (ca cg:Nat) {ps:List (Int×Int)} {gs:List Int} {k:Nat} {p0:Int×Int} {g0:Int} (hw:WfM ps gs) (h:eT ps gs) (hk:k<48) (zy:ps[k]? =some p0) (zx:gs[k]? =some g0) (hp:p0.1≠0) (hg:g0<2147483647):
  Ct lk 161 [.agg #[.slice a ps.length ca, .slice g gs.length cg], .int .i64 (k:Int)] [sl 2 (.slice a ps.length ca) (ps.map jP),sl 1 (.slice g gs.length cg) (gs.map fI)] fun v H'=> ∃ qa ca qg cg,v= .tuple #[.agg #[.slice qa (ps.set k (0,0)).length ca, .slice qg (gs.set k (g0+1)).length cg], .int .i64 0]∧H'=[own (.slice qa (ps.set k (0,0)).length ca) 77 2 (ps.set k (0,0)).length (flat jP (ps.set k (0,0))),own (.slice qg (gs.set k (g0+1)).length cg) 3 1 (gs.set k (g0+1)).length (flat fI (gs.set k (g0+1)))]:=by
 have CK:=oL (.slice a ps.length ca) (.slice g gs.length cg) hw h;obtain⟨h1,h2,h3⟩:=h;have LK:=FF a g ca cg ps gs h1 h2;obtain⟨_,hb1,hb2⟩:=h3 k Z8 p0 g0 zy zx;clear h3 hw;have zw:(ps.set k (0,0)).length=ps.length:=n5;have zv:(gs.set k (g0+1)).length=gs.length:=n5;(refine Ye Tryz.func161 Tryz.ntmps161 ?_;intro Fr);(repeat' (first|refine Y1 ?_|(refine Wb ?_;intro b)|(refine Wq ?_;intro q)|refine Wc (CK ..) ?_|(refine Ws ?_ ?_<;>intro h)|refine Wz ?_|fail));(refine Ca (LK) ?_;rintro _ _ ⟨_,⟨q1,c1,q2,c2,rfl,rfl⟩,rfl⟩;refine Da ?_);(refine fH ?_;intro b);(refine dC wt (aI (f:=jP) (q':=(0,0)) rfl rfl rfl rfl Zk rfl Z8 Zg Jc rfl rfl Jb) ?_;rintro _ _ ⟨rfl,rfl⟩);rw[←zw];refine aF ?_;(refine dC wt (aI (f:=fI) (q':=g0+1) rfl rfl rfl rfl Zk rfl Z8 Zg Jc rfl rfl Jb) ?_;rintro _ _ ⟨rfl,rfl⟩);rw[←zv];refine aF ?_;exact Ea (x:=⟨_,_,_,_,rfl,rfl⟩)
end cK
namespace lz
def oM (m:Int×Int×Int):Nat:=
 if m.1=0 then (if m.2.1=0 then 0 else 4) else if m.1<3∨66<m.1∨m.2.1<1∨m.2.2≠0 then 4 else 0
def mark (m:Int×Int×Int):Value:= .agg #[.int .i64 m.1, .int .i64 m.2.1, .int .u8 m.2.2]
def adH (m:Int×Int×Int):List Value:=[.int .i64 m.1, .int .i64 m.2.1, .int .u8 m.2.2]
def uF (m:Int×Int×Int):Prop:=(kg .i64 m.1).wf=true∧(kg .i64 m.2.1).wf=true∧(kg .u8 m.2.2).wf=true
theorem bP (m:Int×Int×Int) (W:World):
  Calls lk 267 #[mark m] W fun e w'=>e= .returned (.int .i64 (oM m:Int))∧Below W.heap.size W w':=by
 obtain⟨L,D,B⟩:=m;unfold mark oM;simp only
 go_enter Tryz.func267,Tryz.ntmps267
 by_cases h0:L=0
 ·subst h0;by_cases hD:D=0
  ·subst hD
   go_wp2_with (fail)
   go_ret
   exact⟨rfl,(Below.refl _ _).alloc (df _) _⟩
  ·have hDb:(D==0)=false:=by simpa using hD
   go_wp2_with (fail)
   go_ret
   exact Z7
 ·have hLb:(L==0)=false:=by simpa using h0
  by_cases h1:L<3
  ·go_wp2_with (fail)
   go_ret
   exact Z7
  ·by_cases h2:66<L
   ·go_wp2_with (fail)
    go_ret
    exact Z7
   ·by_cases h3:D<1
    ·go_wp2_with (fail)
     go_ret
     exact Z7
    ·by_cases h4:B=0
     ·subst h4
      go_wp2_with (fail)
      go_ret
      exact Z7
     ·have hBb:(B==0)=false:=by simpa using h4
      go_wp2_with (fail)
      go_ret
      exact Z7
def nQ:Nat→Nat→List UInt8→List UInt8
 |0,_,out=>out
 |n+1,d,out=>nQ n d (out++[out.getD (out.length-d) 0])
theorem avY: ∀ (n d:Nat) (out:List UInt8),(nQ n d out).length=out.length+n:=by
 intro n;induction n with
 |zero=>intro d out;rfl
 |succ n ih=>intro d out;rw[nQ,ih];simp;omega
def pZ (out:List UInt8) (m:Int×Int×Int):Nat:=
 if oM m≠0 then oM m else if (out.length:Int)<m.2.1 then 8 else if 512<(out.length:Int)+max 1 m.1 then 2 else 0
def nR (out:List UInt8) (m:Int×Int×Int):List UInt8:=
 nQ m.1.toNat m.2.1.toNat (if m.1=0 then out++[ky m.2.2.toNat] else out)
def mR:List (Int×Int×Int)→List UInt8→List UInt8×Nat
 |[],out=>(out,0)
 |m::l,out=>if pZ out m=0 then mR l (nR out m) else ([],pZ out m)
def AH (l:List (Int×Int×Int)):List UInt8×Nat:=mR l []
theorem GG {xs:List (Int×Int×Int)} {l:List UInt8} {k e:Nat} {m:Int×Int×Int} (h:AH xs=mR (xs.drop k) l) (hp:xs[k]? =some m) (he:pZ l m=e) (h0:e≠0):AH xs=([],e):=by
 rw[h,bh (aj.1 hp).1,(aj.1 hp).2,mR,Jf (by rw[he];exact h0),he]
theorem aaQ {xs:List (Int×Int×Int)} {l:List UInt8} {k:Nat} {m:Int×Int×Int} (h:AH xs=mR (xs.drop k) l) (hp:xs[k]? =some m) (he:pZ l m=0):AH xs=mR (xs.drop (k+1)) (nR l m):=by
 rw[h,bh (aj.1 hp).1,(aj.1 hp).2,mR,Jg he]
theorem aiH {w:World} {B e n G f:Nat} {v:Value} {xs:List Value} {cs:Array Value} {fr:Nat×Nat} (h:w.ownsRow B e 1 v n xs) (hg:w.heap[G]? =some (.cells cs f fr)) (zx:f≠e):some G≠v.ownBlock:=by
 rcases h.2 with⟨rfl,_⟩|⟨g,cap,cur,rfl,hb,zy,_⟩
 ·simp [aai]
 ·simp only[aai];intro e';have e2:G=g:=a7 e';subst e2;rw[hg] at zy;simp at zy;exact zx zy.2.1
theorem aEE {w:World} {B e n:Nat} {v:Value} {l:List UInt8} (h:w.ownsRow B e 1 v n (aZ l)) {j:Nat} (hj:j<l.length): ∃ g cap,v= .slice (some ⟨g,0,none⟩) n cap∧w.cell? ⟨g,j,none⟩=some (.int .u8 (l[j].toNat:Int)):=by
 rcases h.2 with⟨rfl,h0⟩|⟨g,cap,cur,rfl,_⟩
 ·have:=h.1;simp [aZ] at this;omega
 ·refine⟨g,cap,rfl, ?_⟩;have:=h.cells (g:=g) rfl j (.int .u8 (l[j].toNat:Int)) (by simp [aZ,hj]);have ea:(⟨g,0,none⟩:Addr).add j=⟨g,j,none⟩:=by unfold Addr.add;split<;>simp_all
  rwa [ea] at this
theorem TF (m:Int×Int×Int):oM m=4∨oM m=0∧(m.1=0∧m.2.1=0∨3≤m.1∧m.1≤66∧1≤m.2.1∧m.2.2=0):=by
 unfold oM;split
 ·split
  ·exact .inr ⟨rfl, .inl ⟨Jc,Jc⟩⟩
  ·exact .inl rfl
 ·split
  ·exact .inl rfl
  ·exact .inr ⟨rfl, .inr Z8⟩
attribute [local go_sem] bO.OQ
theorem amZ (v:Value) (xs:List (Int×Int×Int)) (W:World) (hs:bX W 3 v (xs.map adH)) (hg: ∀ p∈xs,uF p) (hn:xs.length≤100000000000000000):
  Calls lk 223 #[v] W fun e w'=>e= .returned (.tuple #[.string ⟨(AH xs).1.toArray⟩, .int .i64 ((AH xs).2:Int)])∧Below W.heap.size W w':=by
 obtain⟨q,cap,b,off,rfl,hq,hc⟩:=hs.view;simp only[gp] at hq ⊢;have HQ:=Lib.hid hq;have HC:Hid (∀ k p,xs[k]? =some p→W.cell? ⟨b,off+k*3,none⟩=some (.int .i64 p.1)∧W.cell? ⟨b,off+k*3+1,none⟩=some (.int .i64 p.2.1)∧W.cell? ⟨b,off+k*3+2,none⟩=some (.int .u8 p.2.2)):=fun k p hx=>by
  have h:=hc k (adH p) ZL;exact⟨h 0 _ rfl,h 1 _ rfl,h 2 _ rfl⟩
 clear hs hq hc
 go_enter Tryz.func223,Tryz.ntmps223
 go_wp2_with (fail)
 go_loopw [4,10] (fun o y wr=> ∃ (k:Nat) (l:List UInt8),k≤xs.length∧y= .int .i64 k∧wr.ownsRow W.heap.size 5 1 o l.length (aZ l)∧l.length≤512∧Hid (AH xs=mR (xs.drop k) l)∧Below W.heap.size W wr) (fun _ y _=>xs.length-(intOf y).toNat)
 case atStart=>exact⟨0,[],fe _,rfl,World.ownsRow_nil _ _ _ _,Ja,rfl,Below.refl _ _⟩
 case round=>
  obtain⟨k,l,hk,rfl,hown,hl,hexp,hb⟩:=hrel;by_cases hlt:k<xs.length
  ·obtain⟨rfl,hblk⟩:=HQ.out k hlt;obtain⟨⟨L,D,B⟩,hp⟩: ∃ p,xs[k]? =some p:=⟨_,ak hlt⟩;have hc:=HC.out k _ hp;have hc0:wr.cell? ⟨b,off+k*3,none⟩=some (.int .i64 L):=(hb.cell (p:=⟨b,off+k*3,none⟩) hblk).trans hc.1;have hc1:wr.cell? ⟨b,off+k*3+1,none⟩=some (.int .i64 D):=(hb.cell (p:=⟨b,off+k*3+1,none⟩) hblk).trans hc.2.1;have hc2:wr.cell? ⟨b,off+k*3+2,none⟩=some (.int .u8 B):=(hb.cell (p:=⟨b,off+k*3+2,none⟩) hblk).trans hc.2.2;have hltI:(k:Int)<(xs.length:Int):=Z8
   have hw:=hg _ (jg hp);have hL:=IV hw.1;have hD:=IV hw.2.1;obtain⟨B,rfl,hB⟩:=aAI hw.2.2;have HP:=Lib.hid hp;have hsz:W.heap.size≤wr.heap.size:=hb.size;clear hc hp hw
   go_wp2_with (fail)
   refine (bP (L,D,(B:Int)) _).mono ?_;rintro e W1 ⟨rfl,hb1⟩;have hbox:W1.heap[wr.heap.size]? =some (.cells #[.int .i64 L, .int .i64 D, .int .u8 (B:Int)] 356 (0,0)):=(hb1.block _ Ja).trans (heap_alloc_new _ _);have hown1:=WU (hown.alloc _) hb1;have hbb:=(hb.alloc hsz (Obj.cells #[.int .i64 L, .int .i64 D, .int .u8 (B:Int)] 356)).trans (hb1.mono (gm hsz Ja));clear hown hb hb1 hc0 hc1 hc2;rcases TF (L,D,(B:Int)) with he|⟨he,hform⟩
   ·have HE:=Lib.hid (GG hexp.out HP.out (e:=4) (by rw[pZ,he];rfl) Z9);rw[he]
    go_wp2_with (fail)
    go_ret2
    exact⟨by rw[HE.out];rfl,hbb⟩
   ·have HE0:Hid (∀ e,(if (l.length:Int)<D then 8 else if 512<(l.length:Int)+max 1 L then 2 else 0)=e→pZ l (L,D,(B:Int))=e):=fun e h=>by rw[pZ,he];exact h
    rw[he];have HG:=Lib.hid hbox;have g0:W1.cell? ⟨wr.heap.size,0,none⟩=some (.int .i64 L):=by rw[cell_of_row _ _ _ _ _ _ hbox];rfl
    have g1:W1.cell? ⟨wr.heap.size,1,none⟩=some (.int .i64 D):=by rw[cell_of_row _ _ _ _ _ _ hbox];rfl
    have g2:W1.cell? ⟨wr.heap.size,2,none⟩=some (.int .u8 (B:Int)):=by rw[cell_of_row _ _ _ _ _ _ hbox];rfl
    clear hbox he;generalize wr.heap.size=G at HG g0 g1 g2 hsz ⊢;obtain⟨q,ca,rfl⟩: ∃ q ca,u4= .slice q l.length ca:=by
     rcases hown1.2 with⟨rfl,h0⟩|⟨g,cap,cur,rfl,_⟩
     ·rw[h0];exact⟨_,_,rfl⟩
     ·exact⟨_,_,rfl⟩
    rcases hform with⟨h0,hd0⟩|⟨h3,h66,hd1,hb0⟩
    ·simp only at h0 hd0;subst h0 hd0;by_cases hbig:(512:Int)<(l.length:Int)+1
     ·have HE:=Lib.hid (GG hexp.out HP.out (HE0.out 2 (by rw[Jf Z8,Jg Z8])) Z9);clear HE0
      go_wp2_with (fail)
      go_ret2
      exact⟨by rw[HE.out];rfl,hbb⟩
     ·have HN:=Lib.hid (aaQ hexp.out HP.out (HE0.out 0 (by rw[Jf Z8,Jf Z8])));have hsz1:=hbb.size;have hne:=aiH hown1 HG.out Z9;have hlt2:=(dn.1 HG.out).1;clear HE0
      go_wp2_with (at_builtin;refine alO put.tD rfl (.tmp 34) (.tmp 37) rfl _ _ l.length (aZ l) rfl rfl hown1 rfl ?c3 ?c4 hbb hsz1 ?_)
      case c3=>omega
      case c4=>unfold maxLen;omega
      intro v' W2 hown2 hgr hb2 hsz2;have g0':W2.cell? ⟨G,0,none⟩=some (.int .i64 0):=hgr.cell g0 hne;have hv:(B:Int)=((ky B).toNat:Int):=by simp;omega
      rw[fV l (ky B) _ hv] at hown2;have HN2:Hid (AH xs=mR (xs.drop (k+1)) (l++[ky B])):=HN.out;have hl2:(l++[ky B]).length≤512:=by simp;omega
      rw[show l.length+1=(l++[ky B]).length from by simp] at hown2;generalize l++[ky B]=l2 at hown2 HN2 hl2;clear hown1 hgr g0 g1 g2 HN hv hne hexp HP HG
      go_wp2_with (fail)
      go_loopw [4,41] (fun o y wx=>o=v'∧y= .int .i64 0∧W2=wx) (fun _ _ _=>0)
      case atStart=>exact⟨rfl,rfl,rfl⟩
      case round=>
       obtain⟨rfl,rfl,rfl⟩:=hrel
       go_wp2_with (fail)
       exact⟨⟨k+1,l2,Z8,rfl,hown2,hl2,HN2,hb2⟩,by show xs.length-(((k:Int)+1).toNat)<xs.length-((k:Int).toNat);omega⟩
    ·simp only at h3 h66 hd1 hb0;obtain⟨n,rfl⟩: ∃ n:Nat,L=(n:Int):=⟨L.toNat,Z8⟩;obtain⟨d,rfl⟩: ∃ d:Nat,D=(d:Int):=⟨D.toNat,Z8⟩;by_cases hdl:(l.length:Int)<(d:Int)
     ·have HE:=Lib.hid (GG hexp.out HP.out (HE0.out 8 (by rw[Jg hdl])) Z9);clear HE0
      go_wp2_with (fail)
      go_ret2
      exact⟨by rw[HE.out];rfl,hbb⟩
     ·by_cases hbig:(512:Int)<(l.length:Int)+(n:Int)
      ·have HE:=Lib.hid (GG hexp.out HP.out (HE0.out 2 (by rw[Jf hdl,Jg Z8])) Z9);clear HE0;have hmax:max (1:Int) (n:Int)=(n:Int):=Z8
       go_wp2_with (fail)
       go_ret2
       exact⟨by rw[HE.out];rfl,hbb⟩
      ·have HN:=Lib.hid (aaQ hexp.out HP.out (HE0.out 0 (by rw[Jf hdl,Jf Z8])));have hso:nR l ((n:Int),(d:Int),(B:Int))=nQ n d l:=by
        unfold nR;rw[Jf (by simp only;omega)];rfl
       rw[hso] at HN;clear HE0 hexp HP hso;have hmax:max (1:Int) (n:Int)=(n:Int):=Z8
       have hn0:((n:Int)==0)=false:=by simp;omega
       have hd1':decide (l.length<d)=false:=decide_eq_false Z8;have hd2':decide ((512:Int)<(l.length:Int)+(n:Int))=false:=decide_eq_false hbig;have hsz1:=hbb.size
       go_wp2_with (fail)
       go_loopw [4,41] (fun o y wx=> ∃ (j:Nat) (l2:List UInt8),j≤n∧y= .int .i64 j∧wx.ownsRow W.heap.size 5 1 o l2.length (aZ l2)∧l2.length=l.length+j∧Hid (nQ (n-j) d l2=nQ n d l)∧Hid (wx.heap[G]? =some (.cells #[.int .i64 (n:Int), .int .i64 (d:Int), .int .u8 (B:Int)] 356 (0,0)))∧Below W.heap.size W wx) (fun _ y _=>n-(intOf y).toNat)
       case atStart=>exact⟨0,l,fe _,rfl,hown1,rfl,rfl,HG,hbb⟩
       case round=>
        obtain⟨j,l2,hj,rfl,hown2,hl2,hcp,HG2,hb2⟩:=hrel;by_cases hjn:j<n
        ·have hjI:(j:Int)<(n:Int):=Z8
         have g1':wr.cell? ⟨G,1,none⟩=some (.int .i64 (d:Int)):=by rw[cell_of_row _ _ _ _ _ _ HG2.out];rfl
         obtain⟨i,hi⟩: ∃ i,i=l2.length-d:=⟨_,rfl⟩;obtain⟨g,cap2,rfl,hcl⟩:=aEE hown2 (j:=i) Z8;have hx:(l2.length:Int)-(d:Int)=(i:Int):=Z8
         have hil:(i:Int)<(l2.length:Int):=Z8
         have hne:=aiH hown2 HG2.out Z9;have hcp2:Hid (nQ (n-(j+1)) d (l2++[l2[i]'Z8])=nQ n d l):=by
          have h:=hcp.out;rw[show n-j=(n-(j+1))+1 from by omega,nQ, ←hi] at h;rw[my,ak Z8] at h;exact h
         have HI:=Lib.hid hi;have hl512:l2.length<512:=Z8
         generalize l2[i]'Z8=c at hcp2 hcl;have hsz2:=hb2.size;have HL2:=Lib.hid hl2;clear hcp hi hl2
         go_wp2_with (at_builtin;refine alO put.tD rfl (.tmp 43) (.tmp 52) rfl _ _ l2.length (aZ l2) rfl rfl hown2 rfl ?c3 ?c4 hb2 hsz2 ?_)
         case c3=>omega
         case c4=>unfold maxLen;omega
         intro v' W2 hown3 hgr hb3 _;have HG3:=Lib.hid ((hgr.block G (dn.1 HG2.out).1 hne).trans HG2.out);rw[fV l2 c _ rfl,show l2.length+1=(l2++[c]).length from by simp] at hown3;have hl3:(l2++[c]).length=l.length+(j+1):=by simp;have:=HL2.out;omega
         generalize l2++[c]=l3 at hown3 hl3 hcp2;clear hown2 hgr hne
         go_wp2_with (fail)
         go_round
         case rel=>exact⟨j+1,l3,Z8,rfl,hown3,hl3,hcp2,HG3,hb3⟩
         case measure=>show n-(((j:Int)+1).toNat)<n-((j:Int).toNat);omega
        ·have hje:j=n:=Z8
         subst hje;rw[ku] at hcp;have hcp2:l2=nQ j d l:=hcp.out;rw[←hcp2] at HN;clear hcp hcp2
         go_wp2_with (fail)
         exact⟨⟨k+1,l2,Z8,rfl,hown2,Z8,HN,hb2⟩,by show xs.length-(((k:Int)+1).toNat)<xs.length-((k:Int).toNat);omega⟩
  ·have hke:k=xs.length:=Z8
   subst hke;have hE:AH xs=(l,0):=by rw[hexp.out,abc];rfl
   have HE:=Lib.hid hE;clear hE;have hst:=lY (src:=292) (dst:=9) Tryz.underlying292 Tryz.underlying5 Tryz.underlying9 hown
   go_wp2_with (fail)
   go_ret2
   exact⟨by rw[HE.out];rfl,hb⟩
end lz
namespace lz
theorem aUM (x:UInt8):(kg .u8 (x.toNat:Int)).wf=true:=by
 have:=UInt8.toNat_lt x;simp [Lit.wf,ju,jv,iz,jm];omega
def mat (s:List UInt8) (k i n:Nat):Prop:= ∀ t,t<n→s[k+t]? =s[i+t]?
def adI (s:List UInt8) (i n d:Nat):Prop:=
 (n=0∨(3≤n∧n≤66∧i+n≤s.length∧1≤d∧d≤i∧mat s (i-d) i n))∧ ∀ k m,k<i→3≤m→m≤66→i+m≤s.length→mat s k i m→m≤n
def vX (s:List UInt8) (L D:Nat→Nat):Prop:= ∀ i,i<s.length→adI s i (L i) (D i)
def Dp (s:List UInt8) (L B S:Nat→Nat) (j:Nat):Prop:=
 B s.length=0∧ ∀ i,j≤i→i<s.length→(S i=1∨3≤S i∧S i≤L i)∧B i=B (i+S i)+1∧B i≤B (i+1)+1∧(∀ n,3≤n→n≤L i→B i≤B (i+n)+1)∧B i+i≤s.length
theorem KL: ∀ (n d:Nat) (out:List UInt8),out<+:nQ n d out:=by
 intro n;induction n with
 |zero=>intro d out;exact adm _
 |succ n ih=>intro d out;rw[nQ];exact adj (adk _ _) (ih d _)
theorem awA (out:List UInt8) (m:Int×Int×Int):out<+:nR out m:=by
 unfold nR;split
 ·exact adj (adk _ _) (KL _ _ _)
 ·exact KL _ _ _
theorem aEF: ∀ (l:List (Int×Int×Int)) (out:List UInt8),(mR l out).2≠0∧(mR l out).1=[]∨(mR l out).2=0∧out<+:(mR l out).1:=by
 intro l;induction l with
 |nil=>intro out;exact .inr ⟨rfl,adm _⟩
 |cons m l ih=>
  intro out;rw[mR];split
  ·rcases ih (nR out m) with h|h
   ·exact .inl h
   ·exact .inr ⟨h.1,adj (awA out m) h.2⟩
  ·rename_i h;exact .inl ⟨h,rfl⟩
theorem aEG: ∀ (l r:List (Int×Int×Int)) (out x:List UInt8),mR l out=(x,0)→mR (l++r) out=mR r x:=by
 intro l;induction l with
 |nil=>intro r out x h;rw[mR] at h;cases h;rfl
 |cons m l ih=>
  intro r out x h;rw[mR] at h;rw[dw,mR];split at h
  ·rename_i h0;rw[Jg h0];exact ih r _ x h
  ·rename_i h0;exact absurd (congrArg adr h) h0
theorem anA (s:List UInt8): ∀ (n d i:Nat),1≤d→d≤i→i+n≤s.length→mat s (i-d) i n→nQ n d (s.take i)=s.take (i+n):=by
 intro n;induction n with
 |zero=>intro d i _ _ _ _;rfl
 |succ n ih=>
  intro d i h1 h2 h3 hm;have hl:(s.take i).length=i:=by rw[ar];omega
  have h0:=hm 0 Z8;simp only[fl] at h0;have e:s.take i++[(s.take i).getD (i-d) 0]=s.take (i+1):=by
   have hlt:i<s.length:=Z8
   rw[ib,my,au,Jg Z8,h0,ak hlt];rfl
  rw[nQ,hl,e,ih d (i+1) h1 Z8 Z8 ?_,show i+1+n=i+(n+1) by omega];intro t ht;have:=hm (t+1) Z8;rw[show i+1-d+t=i-d+(t+1) by omega,show i+1+t=i+(t+1) by omega];exact this
theorem awB: ∀ (n d:Nat) (out:List UInt8),1≤d→d≤out.length→mat (nQ n d out) (out.length-d) out.length n:=by
 intro n;induction n with
 |zero=>intro d out _ _ t ht;omega
 |succ n ih=>
  intro d out h1 h2 t ht;have hlen:(out++[out.getD (out.length-d) 0]).length=out.length+1:=Ja
  rw[nQ];have hp:=KL n d (out++[out.getD (out.length-d) 0]);obtain⟨r,hr⟩:=hp;cases t with
  |zero=>
   rw[←hr];simp only[fl];rw[lu Z8,lu Z8,lu Z8,gz (df _),ku,my,ak (show out.length-d<out.length by omega)];rfl
  |succ t=>
   have:=ih d (out++[out.getD (out.length-d) 0]) h1 Z8 t Z8;rw[hlen] at this;rw[show out.length-d+(t+1)=out.length+1-d+t by omega,show out.length+(t+1)=out.length+1+t by omega];exact this
theorem aK {a s:List UInt8} (h:a<+:s):a=s.take a.length:=by
 obtain⟨r,rfl⟩:=h;simp
theorem awC {s:List UInt8} {m:Int×Int×Int} {l:List (Int×Int×Int)} {p:Nat} (hp:p≤s.length) (h:mR (m::l) (s.take p)=(s,0)) (hg:uF m):(∃ x,s[p]? =some x∧m=(0,0,(x.toNat:Int))∧mR l (s.take (p+1))=(s,0))∨ ∃ n d:Nat,3≤n∧n≤66∧1≤d∧d≤p∧p+n≤s.length∧m=((n:Int),(d:Int),0)∧mat s (p-d) p n∧mR l (s.take (p+n))=(s,0):=by
 rw[mR] at h;split at h
 ·rename_i h0;have hl:(s.take p).length=p:=by rw[ar];omega
  have zx:nR (s.take p) m<+:s:=by
   rcases aEF l (nR (s.take p) m) with h2|h2
   ·rw[h] at h2;exact absurd rfl h2.1
   ·rw[h] at h2;exact h2.2
  have hle:=List.IsPrefix.length_le zx;have zy:=aK zx;have hc:oM m=0:=by
   unfold pZ at h0;split at h0
   ·rename_i h9;exact absurd h0 h9
   ·rename_i h9;exact aab.1 h9
  have hd: ¬ ((s.take p).length:Int)<m.2.1:=by
   unfold pZ at h0;rw[Jf (by rw[hc];exact fun h=>h rfl)] at h0;split at h0
   ·cases h0
   ·assumption
  rcases TF m with h2|⟨_,h2⟩
  ·rw[hc] at h2;cases h2
  ·obtain⟨a,b,c⟩:=m;rcases h2 with⟨h3,h4⟩|⟨h3,h4,h5,h6⟩
   ·left;dsimp only at h3 h4;subst h3;subst h4;have hst:nR (s.take p) ((0:Int),(0:Int),c)=s.take p++[ky c.toNat]:=by unfold nR;rfl
    rw[hst] at h zy hle;rw[ae,gk,hl] at zy hle;have hlt:p<s.length:=Z8
    refine⟨s[p],ak hlt, ?_,by rw[←zy];exact h⟩;have hx:ky c.toNat=s[p]:=by
     have e:(s.take p++[ky c.toNat])[p]? =(s.take (p+1))[p]? :=by rw[zy]
     rw[gz Z8,hl,ku,au,Jg Z8,ak hlt] at e;simpa using e
    have hw:=hg.2.2;obtain⟨n,rfl,hn⟩:=aAI hw;rw[←hx];simp;omega
   ·right;dsimp only at h3 h4 h5 h6 hd;subst h6;obtain⟨n,rfl⟩:=adg (by omega:0≤a);obtain⟨d,rfl⟩:=adg (by omega:0≤b);rw[hl] at hd;have hst:nR (s.take p) ((n:Int),(d:Int),(0:Int))=nQ n d (s.take p):=by
     unfold nR;rw[Jf Zn];rfl
    rw[hst] at h zy hle;rw[avY,hl] at zy hle;have hm:=awB n d (s.take p) Z8 Z8;rw[hl,zy] at hm;refine⟨n,d,Z8,Z8,Z8,Z8,Z8,rfl, ?_,by rw[←zy];exact h⟩;intro t ht;have:=hm t ht;rwa [au,au,Jg Z8,Jg Z8] at this
 ·rename_i h0;exact absurd (congrArg adr h) h0
theorem aLM {s:List UInt8} {p:Nat} (hp:p≤s.length) (h:mR [] (s.take p)=(s,0)):p=s.length:=by
 rw[mR] at h;have:=congrArg (fun x=>x.1.length) h;simp at this;omega
theorem least {s:List UInt8} {L D B S:Nat→Nat} (hL:vX s L D) (hB:Dp s L B S 0): ∀ (l:List (Int×Int×Int)) (p:Nat),p≤s.length→(∀ m∈l,uF m)→mR l (s.take p)=(s,0)→B p≤l.length:=by
 intro l;induction l with
 |nil=>
  intro p hp _ h;rw[aLM hp h,hB.1];exact fe _
 |cons m l ih=>
  intro p hp hg h;rcases awC hp h (hg m bu) with⟨x,h1,h2,h3⟩|⟨n,d,h1,h2,h3,h4,h5,h6,h7,h8⟩
  ·have hlt:p<s.length:=(aj.1 h1).1;have:=ih (p+1) hlt (fun m hm=>hg m (a8 _ hm)) h3;have hb:=(hB.2 p (fe _) hlt).2.2.1;rw[dv];omega
  ·have:=ih (p+n) h5 (fun m hm=>hg m (a8 _ hm)) h8;have hb:=(hB.2 p (fe _) Z8).2.2.2.1 n h1 ((hL p Z8).2 (p-d) n Z8 h1 h2 h5 h7);rw[dv];omega
def uM (s:List UInt8) (S D:Nat→Nat) (i:Nat):Int×Int×Int:=if S i=1 then (0,0,((s.getD i 0).toNat:Int)) else ((S i:Int),(D i:Int),0)
theorem aaR {s:List UInt8} {L D B S:Nat→Nat} {i:Nat} {out:List (Int×Int×Int)} (hs:s.length≤512) (hL:vX s L D) (hB:Dp s L B S 0) (hi:i<s.length) (ho:AH out=(s.take i,0)):i+S i≤s.length∧1≤S i∧AH (out++[uM s S D i])=(s.take (i+S i),0)∧uF (uM s S D i):=by
 obtain⟨h1,h2,h3,h4,h5⟩:=hB.2 i (fe _) hi;have hl:(s.take i).length=i:=by rw[ar];omega
 have ha:AH (out++[uM s S D i])=mR [uM s S D i] (s.take i):=aEG _ _ _ _ ho;rw[ha,mR];rcases h1 with h1|⟨h1,h6⟩
 ·have hm:uM s S D i=(0,0,((s.getD i 0).toNat:Int)):=by unfold uM;rw[Jg h1]
  have hx:s.getD i 0=s[i]:=by rw[my,ak hi];rfl
  rw[hm,h1];have hst:pZ (s.take i) ((0:Int),(0:Int),((s.getD i 0).toNat:Int))=0:=by
   unfold pZ;rw[Jf (fun h=>h rfl),hl,Jf Zn,Jf (by show ¬ 512<(i:Int)+max 1 0;omega)]
  rw[Jg hst];refine⟨Z8,df _, ?_, ?_⟩
  ·show (nR _ _,0)=_;have:nR (s.take i) ((0:Int),(0:Int),((s.getD i 0).toNat:Int))=s.take i++[ky ((s.getD i 0).toNat:Int).toNat]:=by unfold nR;rfl
   rw[this,hx,ib,ak hi];simp
  ·exact⟨rfl,rfl,aUM _⟩
 ·have zy:=(hL i hi).1;have zx:L i≠0:=Z8
  rcases zy with h7|⟨g1,g2,g3,g4,g5,g6⟩
  ·exact absurd h7 zx
  ·have hm:uM s S D i=((S i:Int),(D i:Int),0):=by unfold uM;rw[Jf Z8]
   rw[hm];have hst:pZ (s.take i) ((S i:Int),(D i:Int),(0:Int))=0:=by
    have hc:oM ((S i:Int),(D i:Int),(0:Int))=0:=by
     unfold oM;rw[Jf Zn,Jf Zn]
    unfold pZ;rw[Jf (by rw[hc];exact fun h=>h rfl),hl,Jf Zn,Jf Zn]
   rw[Jg hst];refine⟨Z8,Z8, ?_, ?_⟩
   ·show (nR _ _,0)=_;have:nR (s.take i) ((S i:Int),(D i:Int),(0:Int))=nQ (S i) (D i) (s.take i):=by
     unfold nR;rw[Jf Zn];rfl
    rw[this,anA s (S i) (D i) i g4 g5 Z8 (fun t ht=>g6 t Z8)]
   ·have:D i≤512:=Z8
    have:S i≤66:=Z8
    refine⟨?_, ?_,rfl⟩<;>simp [Lit.wf,ju,jv,iz,jm]<;>omega
def Found (s:List UInt8) (out:List (Int×Int×Int)):Prop:=AH out=(s,0)∧(∀ m∈out,uF m)∧out.length≤512∧ ∀ l,(∀ m∈l,uF m)→AH l=(s,0)→out.length≤l.length
def Way (s:List UInt8) (B:Nat→Nat) (i:Nat) (out:List (Int×Int×Int)):Prop:=i≤s.length∧AH out=(s.take i,0)∧(∀ m∈out,uF m)∧out.length+B i=B 0
theorem dS (s:List UInt8) (B:Nat→Nat):Way s B 0 []:=⟨fe _,rfl,fun m h=>absurd h ck,Ja⟩
theorem aEH {s:List UInt8} {L D B S:Nat→Nat} {i:Nat} {out:List (Int×Int×Int)} (hs:s.length≤512) (hL:vX s L D) (hB:Dp s L B S 0) (hi:i<s.length) (h:Way s B i out):Way s B (i+S i) (out++[uM s S D i]):=by
 obtain⟨h1,h2,h3,h4⟩:=h;obtain⟨g1,g2,g3,g4⟩:=aaR hs hL hB hi h2;refine⟨g1,g3,fun m hm=> ?_, ?_⟩
 ·rcases ei.1 hm with hm|hm
  ·exact h3 m hm
  ·rw[eh.1 hm];exact g4
 ·have:=(hB.2 i (fe _) hi).2.1;rw[ae,gk];omega
theorem aLN {s:List UInt8} {L D B S:Nat→Nat} {out:List (Int×Int×Int)} (hs:s.length≤512) (hL:vX s L D) (hB:Dp s L B S 0) (h:Way s B s.length out):Found s out:=by
 obtain⟨h1,h2,h3,h4⟩:=h;rw[hB.1] at h4;rw[mz] at h2;have hb0:B 0≤s.length:=by
  rcases jo s.length with h|h
  ·have:=hB.1;rw[h] at this;omega
  ·have:=(hB.2 0 (fe _) h).2.2.2.2;omega
 exact⟨h2,h3,Z8,fun l hg hl=>by have:=least hL hB l 0 (fe _) hg hl;omega⟩
end lz
namespace lz
open sl Go.WideMaps
set_option pp.maxSteps 20000
def dQ (n:Nat) (B:Nat→Nat):List Int:=(List.range n).map fun i=>(B i:Int)
def gN (B:Nat→Nat) (i v:Nat):Nat→Nat:=fun j=>if j=i then v else B j
theorem kC (n:Nat) (B:Nat→Nat):(dQ n B).length=n:=by simp [dQ]
theorem eG {n i:Nat} (B:Nat→Nat) (h:i<n):(dQ n B)[i]? =some ((B i:Nat):Int):=by
 unfold dQ;rw[List.getElem?_map,List.getElem?_range h];rfl
theorem iD {n i:Nat} (B:Nat→Nat) (v:Nat) (h:i<n):(dQ n B).set i (v:Int)=dQ n (gN B i v):=by
 apply ep;intro j;rw[ic];rcases ig j n with hj|hj
 ·rw[eG _ hj,eG _ hj];unfold gN;by_cases e:i=j
  ·subst e;rw[Jg rfl,Jg (by rw[kC];exact h),Jg rfl]
  ·rw[Jf e,Jf (fun h=>e h.symm)]
 ·rw[Jf Z8,je ZG,je ZG]
theorem nA (n:Nat):List.replicate n (0:Int)=dQ n (fun _=>0):=by
 apply ep;intro j;rcases ig j n with hj|hj
 ·rw[eG _ hj,List.getElem?_replicate,Jg hj];rfl
 ·rw[je (by simpa using hj),je ZG]
theorem abF (B:Nat→Nat) (i:Nat):gN B i (B i)=B:=by
 funext j;unfold gN;split
 ·rename_i h;rw[h]
 ·rfl
theorem nF (B:Nat→Nat) (i v w:Nat):gN (gN B i v) i w=gN B i w:=by
 funext j;unfold gN;split<;>rfl
theorem oZ (B:Nat→Nat) (i v:Nat):gN B i v i=v:=by unfold gN;rw[Jg rfl]
theorem vO (B:Nat→Nat) {i j:Nat} (v:Nat) (h:j≠i):gN B i v j=B j:=by unfold gN;rw[Jf h]
abbrev GV:=K3×List Int×Option Addr×Nat
def uN (r:GV):Ent:=own (.slice r.2.2.1 r.2.1.length r.2.2.2) 3 1 r.2.1.length (flat fI r.2.1)
def slv (r:GV):Value:= .slice r.2.2.1 r.2.1.length r.2.2.2
def oF:List GV→K3→Value
 |[],_=> .slice none 0 0
 |r::tab,t=>if t=r.1 then slv r else oF tab t
def aMG (tab:List GV):Ent:=mP (tab.map uN)
def tri (s:List UInt8) (k:Nat) (t:K3):Prop:=s[k]? =some t.1∧s[k+1]? =some t.2.1∧s[k+2]? =some t.2.2
theorem adW {s:List UInt8} {k:Nat} {t u:K3} (h:tri s k t) (g:tri s k u):t=u:=by
 obtain⟨a,b,c⟩:=t;obtain⟨a',b',c'⟩:=u;obtain⟨h1,h2,h3⟩:=h;obtain⟨g1,g2,g3⟩:=g;rw[h1] at g1;rw[h2] at g2;rw[h3] at g3;simp only[Option.some.injEq] at g1 g2 g3;rw[g1,g2,g3]
def NN (s:List UInt8) (i:Nat) (t:K3) (xs:List Int):Prop:=(∀ x∈xs, ∃ k:Nat,x=(k:Int)∧k<i∧tri s k t)∧(∀ k,k<i→tri s k t→(k:Int)∈xs)∧xs.length≤i
def aFH (s:List UInt8) (i:Nat) (tab:List GV):Prop:=tab.Pairwise (fun r u=>r.1≠u.1)∧(∀ r∈tab,NN s i r.1 r.2.1)∧ ∀ k t,k<i→tri s k t→ ∃ r∈tab,r.1=t
theorem awV {tab:List GV} {t:K3} (h: ∀ r∈tab,r.1≠t):oF tab t= .slice none 0 0:=by
 induction tab with
 |nil=>rfl
 |cons r tab ih=>rw[oF,Jf (fun e=>h r bu e.symm),ih fun r hr=>h r (a8 _ hr)]
theorem awW {A B:List GV} {r:GV} (h: ∀ u∈A,u.1≠r.1):oF (A++r::B) r.1=slv r:=by
 induction A with
 |nil=>rw[dz,oF,Jg rfl]
 |cons u A ih=>rw[dw,oF,Jf (fun e=>h u bu e.symm),ih fun r hr=>h r (a8 _ hr)]
theorem anX {A B:List GV} {r:GV} {t:K3} (h:t≠r.1):oF (A++r::B) t=oF (A++B) t:=by
 induction A with
 |nil=>rw[dz,oF,Jf h,dz]
 |cons u A ih=>rw[dw,dw,oF,oF,ih]
theorem ajM {s:List UInt8} {i:Nat} {t u:K3} {xs:List Int} (hi:tri s i t) (zy:u≠t) (h:NN s i u xs):NN s (i+1) u xs:=by
 obtain⟨h1,h2,h3⟩:=h;refine⟨fun x hx=> ?_,fun k hk hu=> ?_,Z8⟩
 ·obtain⟨k,e1,e2,e3⟩:=h1 x hx;exact⟨k,e1,Z8,e3⟩
 ·rcases ig k i with h|h
  ·exact h2 k h hu
  ·obtain rfl:k=i:=Z8
   exact absurd (adW hu hi) zy
theorem aMH {s:List UInt8} {i:Nat} {t:K3} {xs:List Int} (hi:tri s i t) (h:NN s i t xs):NN s (i+1) t (xs++[(i:Int)]):=by
 obtain⟨h1,h2,h3⟩:=h;refine⟨fun x hx=> ?_,fun k hk hu=> ?_,by simp;omega⟩
 ·rcases ei.1 hx with hx|hx
  ·obtain⟨k,e1,e2,e3⟩:=h1 x hx;exact⟨k,e1,Z8,e3⟩
  ·rw[eh.1 hx];exact⟨i,rfl,Z8,hi⟩
 ·rcases ig k i with h|h
  ·exact jh _ (h2 k h hu)
  ·obtain rfl:k=i:=Z8
   exact lp _ (eh.2 rfl)
theorem aFI {s:List UInt8} {i:Nat} {tab:List GV} {t:K3} (h:aFH s i tab) (hi:tri s i t): ∃ (xs:List Int) (q:Option Addr) (c:Nat) (rest:List GV),oF tab t= .slice q xs.length c∧(∀ {H R:List Ent},bQ (aMG tab) H R→HSub H (own (.slice q xs.length c) 3 1 xs.length (flat fI xs)::aMG rest::R))∧NN s i t xs∧ ∀ (ys:List Int) (q':Option Addr) (c':Nat),NN s (i+1) t ys→aFH s (i+1) ((t,ys,q',c')::rest)∧(fun j=>if j=t then jw q' ys.length c' else oF tab j)=oF ((t,ys,q',c')::rest):=by
 obtain⟨h1,h2,h3⟩:=h;by_cases hex: ∃ r∈tab,r.1=t
 ·obtain⟨r,hr,rfl⟩:=hex;obtain⟨A,B,rfl⟩:=List.append_of_mem hr;have zx:(A++r::B).Perm (r::(A++B)):=List.perm_middle;have zv:(r::(A++B)).Pairwise (fun r u=>r.1≠u.1):=(zx.pairwise_iff (fun {a b} (h:a.1≠b.1)=>h.symm)).1 h1;have hp:=an.1 zv;refine⟨r.2.1,r.2.2.1,r.2.2.2,A++B,awW (fun u hu=>(hp.1 u (jh _ hu)).symm),fun {H R} p=>amI p ?_,h2 r hr,fun ys q' c' zw=>⟨⟨?_, ?_, ?_⟩, ?_⟩⟩
  ·have:=zx.map uN;rw[List.map_cons] at this;exact this
  ·exact an.2 ⟨fun u hu=>hp.1 u hu,hp.2⟩
  ·intro u hu;rcases al.1 hu with rfl|hu
   ·exact zw
   ·exact ajM hi (fun e=>hp.1 u hu e.symm) (h2 u (zx.mem_iff.2 (a8 _ hu)))
  ·intro k u hk hu;rcases ig k i with zy|zy
   ·obtain⟨v,hv,e⟩:=h3 k u zy hu;rcases al.1 (zx.mem_iff.1 hv) with rfl|hv
    ·exact⟨_,bu,e⟩
    ·exact⟨v,a8 _ hv,e⟩
   ·obtain rfl:k=i:=Z8
    exact⟨_,bu,adW hi hu⟩
  ·funext j;rw[oF];dsimp only;split
   ·rfl
   ·rename_i zu;exact anX zu
 ·have hn: ∀ r∈tab,r.1≠t:=fun r hr e=>hex ⟨r,hr,e⟩
  refine⟨[],none,0,tab,awV hn,fun {H R} p=> ?_,⟨fun x hx=>absurd hx ck,fun k hk hu=> ?_,fe _⟩,fun ys q' c' zw=>⟨⟨?_, ?_, ?_⟩, ?_⟩⟩
  ·exact HSub.trans (cA p.perm) (aS _ 3 1)
  ·obtain⟨r,hr,e⟩:=h3 k t hk hu;exact absurd e (hn r hr)
  ·exact an.2 ⟨fun u hu e=>hn u hu e.symm,h1⟩
  ·intro u hu;rcases al.1 hu with rfl|hu
   ·exact zw
   ·exact ajM hi (hn u hu) (h2 u hu)
  ·intro k u hk hu;rcases ig k i with zy|zy
   ·obtain⟨v,hv,e⟩:=h3 k u zy hu;exact⟨v,a8 _ hv,e⟩
   ·obtain rfl:k=i:=Z8
    exact⟨_,bu,adW hi hu⟩
  ·funext j;rw[oF];rfl
def Part (s:List UInt8) (xs:List Int) (i idx n d:Nat):Prop:=(n=0∨(3≤n∧n≤66∧i+n≤s.length∧1≤d∧d≤i∧mat s (i-d) i n))∧ ∀ k m:Nat,(k:Int)∈xs.take idx→3≤m→m≤66→i+m≤s.length→mat s k i m→m≤n
theorem aFJ (s:List UInt8) (xs:List Int) (i:Nat):Part s xs i 0 0 0:=⟨.inl rfl,fun k m h=>by rw[List.take_zero] at h;exact absurd h ck⟩
theorem aFK {s:List UInt8} {xs:List Int} {i n d:Nat} {t:K3} (hi:tri s i t) (hx:NN s i t xs) (h:Part s xs i xs.length n d):adI s i n d:=by
 refine⟨h.1,fun k m hk h3 h66 hl hm=> ?_⟩;refine h.2 k m ?_ h3 h66 hl hm;rw[mz];refine hx.2.1 k hk ⟨?_, ?_, ?_⟩
 ·have:=hm 0 Z8;simp only[fl] at this;rw[this];exact hi.1
 ·rw[hm 1 Z8];exact hi.2.1
 ·rw[hm 2 Z8];exact hi.2.2
theorem KT {s:List UInt8} {xs:List Int} {i idx n d k n2:Nat} {t:K3} (hi:tri s i t) (hk:xs[idx]? =some (k:Int)) (hki:k<i) (hkt:tri s k t) (h:Part s xs i idx n d) (h3:3≤n2) (h66:n2≤66) (hl:i+n2≤s.length) (hm:mat s k i n2) (zw:n2=66∨i+n2=s.length∨s[k+n2]? ≠s[i+n2]?):(n2<n→Part s xs i (idx+1) n d)∧(n≤n2→Part s xs i (idx+1) n2 (i-k)):=by
 have zx: ∀ m,3≤m→m≤66→i+m≤s.length→mat s k i m→m≤n2:=fun m _ hm66 hml zu=>by
  rcases zw with h|h|h
  ·omega
  ·omega
  ·rcases ig n2 m with h9|h9
   ·exact absurd (zu n2 h9) h
   ·exact h9
 have zv:xs.take (idx+1)=xs.take idx++[(k:Int)]:=by
  rw[ib,hk];rfl
 refine⟨fun hlt=>⟨h.1,fun k2 m zy=> ?_⟩,fun hle=>⟨.inr ⟨h3,h66,hl,Z8,Z8,by rw[show i-(i-k)=k by omega];exact hm⟩,fun k2 m zy a1 a2 a3 a4=> ?_⟩⟩
 ·intro a1 a2 a3 a4;rw[zv] at zy;rcases ei.1 zy with zy|zy
  ·exact h.2 k2 m zy a1 a2 a3 a4
  ·have:k2=k:=by have:=eh.1 zy;omega
   subst this;have:=zx m a1 a2 a3 a4;omega
 ·rw[zv] at zy;rcases ei.1 zy with zy|zy
  ·have:=h.2 k2 m zy a1 a2 a3 a4;omega
  ·have:k2=k:=by have:=eh.1 zy;omega
   subst this;exact zx m a1 a2 a3 a4
theorem aMI {s:List UInt8} {k i:Nat} {t:K3} (h:tri s k t) (g:tri s i t):mat s k i 3:=by
 intro j hj;rcases (by omega:j=0∨j=1∨j=2) with rfl|rfl|rfl
 ·show s[k]? =s[i]?;rw[h.1,g.1]
 ·rw[h.2.1,g.2.1]
 ·rw[h.2.2,g.2.2]
theorem aFL {s:List UInt8} {k i n:Nat} (h:mat s k i n) (g:s[k+n]? =s[i+n]?):mat s k i (n+1):=by
 intro j hj;rcases (by omega:j<n∨j=n) with h1|rfl
 ·exact h j h1
 ·exact g
def asE (s:List UInt8) (L D:Nat→Nat) (i:Nat):Prop:= ∀ j,(j<i→adI s j (L j) (D j))∧(i≤j→L j=0∧D j=0)
theorem anY {s:List UInt8} {L D:Nat→Nat} {i n d:Nat} (h:asE s L D i) (g:adI s i n d):asE s (gN L i n) (gN D i d) (i+1):=by
 intro j;by_cases e:j=i
 ·subst e;rw[oZ,oZ];exact⟨fun _=>g,fun h=>Z8⟩
 ·rw[vO _ _ e,vO _ _ e];exact⟨fun hj=>(h j).1 Z8,fun hj=>(h j).2 Z8⟩
theorem awX {s:List UInt8} {L D:Nat→Nat} {i:Nat} (h:asE s L D i) (hi:s.length<i+3):vX s L D:=by
 intro j hj;rcases ig j i with h1|h1
 ·exact (h j).1 h1
 ·obtain⟨e1,e2⟩:=(h j).2 h1;rw[e1,e2];exact⟨.inl rfl,fun k m _ h3 _ hl _=>Z8⟩
theorem aRN (r:GV):(uN r).jF=true:=rfl
attribute [local irreducible] box own sl bL aH bJ Qt cN cM dG dL eQ
instance:auX lk 433:=⟨⟨5,⟨Jd,Jd,Jd,Jd⟩,Jd⟩,⟨lk.types.size-1,Jd⟩⟩
theorem ajN (s:List UInt8) (hs:s.length≤512):
  Ct lk 338 [.string (str s)] [] fun v H'=> ∃ L D q1 q2,vX s L D∧v= .tuple #[.slice q1 s.length s.length, .slice q2 s.length s.length]∧H'=[own (.slice q1 s.length s.length) 3 1 s.length (flat fI (dQ s.length L)),own (.slice q2 s.length s.length) 3 1 s.length (flat fI (dQ s.length D))]:=by
 obtain⟨N,hN⟩: ∃ N,s.length=N:=⟨_,rfl⟩;rw[hN];rw[hN] at hs;(refine Ye Tryz.func338 Tryz.ntmps338 ?_;intro Fr);refine kB ?_;refine qH 0 (σ:=Option Addr×Option Addr) (fun _=>True) (fun x=>[(2, .slice x.1 N N),(3, .slice x.2 N N)]) (fun x=>[own (.slice x.1 N N) 3 1 N (flat fI (dQ N fun _=>0)),own (.slice x.2 N N) 3 1 N (flat fI (dQ N fun _=>0))]) ?_ ?_<;>dsimp only[adq]
 ·(refine aD (Hq:=[]) [] [] rfl Jd Za ?_);refine jV ?_;(refine aB 2 ?_;refine cD 5 Jd ?_ ?_)
  ·(refine Oc (l:=by exact (dH (fI) (0) (c:=N) rfl rfl rfl Zf Zf rfl rfl Z8 Zi)) (k:= ?_);rintro _ _ ⟨q1,rfl,rfl⟩;refine Te ?_;(try refine Da ?_));refine jV ?_;(refine aB 5 ?_;refine Oa (l:=by exact (dH (fI) (0) (c:=N) rfl rfl rfl Zf Zf rfl rfl Z8 Zi)) (k:= ?_);rintro _ _ ⟨q2,rfl,rfl⟩;refine Te ?_;(try refine Da ?_));rw[nA];refine Yw7 ?_;exact sL ((q1,q2)) ZT (kP.of fsa) MN
  ·(refine Oc (l:=by exact (dH (fI) (0) (c:=N) rfl rfl rfl Zf Zf rfl rfl Z8 Zi)) (k:= ?_);rintro _ _ ⟨q2,rfl,rfl⟩;refine Te ?_;(try refine Da ?_));refine jV ?_;(refine aB 2 ?_;refine Oa (l:=by exact (dH (fI) (0) (c:=N) rfl rfl rfl Zf Zf rfl rfl Z8 Zi)) (k:= ?_);rintro _ _ ⟨q1,rfl,rfl⟩;refine Te ?_;(try refine Da ?_));rw[nA];refine Yw7 ?_;exact sL ((q1,q2)) ZT (kP.of fsa) MN
 rintro⟨q1,q2⟩ _;refine Da ?_;refine kB ?_;refine aL wt rfl (acX (k:=433) (z':= .slice none 0 0) (e:=23) rfl) ?_;rintro _ _ ⟨bm,rfl,rfl⟩;rw[show (fun _:K3=>jw none 0 0)=oF [] from rfl];refine kB ?_;refine aO (H':=aMG []::_) (BS _) ?_;(refine aC (σ:=Nat×(Nat→Nat)×(Nat→Nat)×List GV) (fun x=>x.1≤N∧asE s x.2.1 x.2.2.1 x.1∧aFH s x.1 x.2.2.2) (fun x=>[(5, .int .i64 (x.1:Int))]) (fun x=>[acW lk 433 (.slice none 0 0) bm x.1 (oF x.2.2.2),own (.slice q1 N N) 3 1 N (flat fI (dQ N x.2.1)),own (.slice q2 N N) 3 1 N (flat fI (dQ N x.2.2.1)),aMG x.2.2.2]) _ (fun x=>N-x.1) ((0,fun _=>0,fun _=>0,[])) (by exact⟨fe _,fun j=>⟨fun h=>absurd h (mh _),fun _=>⟨rfl,rfl⟩⟩,ft,fun r hr=>absurd hr ck,fun k t hk=>absurd hk (mh _)⟩) Ze Zb (fun⟨i,L,D,tab⟩ ⟨zh,hL,hT⟩=> ?_);refine Da ?_);dsimp only at zh hL hT ⊢;rcases ig N (i+3) with hge|hlt
 ·refine kB ?_;exact Ea (x:=⟨L,D,q1,q2,awX hL Z8,rfl,rfl⟩)
 ·obtain⟨x0,h0⟩: ∃ x,s[i]? =some x:=⟨_,ak Z8⟩;obtain⟨x1,h1⟩: ∃ x,s[i+1]? =some x:=⟨_,ak Z8⟩;obtain⟨x2,h2⟩: ∃ x,s[i+2]? =some x:=⟨_,ak Z8⟩;have ht:tri s i (x0,x1,x2):=⟨h0,h1,h2⟩;refine kB ?_;(refine aD (Hq:=[]) [] [] rfl Jd Za ?_);refine jV ?_;(refine aB 11 ?_;refine bN _ rfl rfl wt Je kA rfl (aCR (e:=5) (z3:= .int .u8 0) Jd rfl rfl rfl rfl rfl rfl rfl) ?_);(refine JG ?_;intro b);obtain⟨xs,q,c,rest,e1,e2,e3,e4⟩:=aFI hT ht;have zx:i<N:=Z8
  have z1:gN L i 0=L:=by have:=abF L i;rwa [((hL i).2 (df _)).1] at this
  have z2:gN D i 0=D:=by have:=abF D i;rwa [((hL i).2 (df _)).2] at this
  have hxl:=e3.2.2;refine eK wt rfl (auY (t:=(x0,x1,x2)) (e:=23) rfl rfl rfl aU e1) ?_;refine aN (e2 aU) ?_;refine iC ?_;rw[←z1, ←z2];(refine aC (σ:=Nat×Nat×Nat) (fun x=>x.1≤xs.length∧Part s xs i x.1 x.2.1 x.2.2) (fun x=>[(40, .int .i64 (x.1:Int))]) (fun x=>[own (.slice q1 N N) 3 1 N (flat fI (dQ N (gN L i x.2.1))),own (.slice q2 N N) 3 1 N (flat fI (dQ N (gN D i x.2.2)))]) _ (fun x=>xs.length-x.1) ((0,0,0)) (by exact⟨fe _,aFJ _ _ _⟩) Ze Zb (fun⟨idx,n0,d0⟩ ⟨zt,hP⟩=> ?_);refine Da ?_);dsimp only at zt hP ⊢;have gL:(dQ N (gN L i n0))[i]? =some (n0:Int):=by rw[eG _ zx,oZ]
  have gD:(dQ N (gN D i d0))[i]? =some (d0:Int):=by rw[eG _ zx,oZ]
  have hn0:n0≤66∧i+n0≤N:=by rcases hP.1 with h|h<;>omega
  rcases ig idx xs.length with zr|hge2
  ·obtain⟨x,hx⟩: ∃ x,xs[idx]? =some x:=⟨_,ak zr⟩;obtain⟨k,rfl,zq,zu⟩:=e3.1 x (jg hx);have hk:=hx;have zn:(i:Int)-(k:Int)=((i-k:Nat):Int):=Z8
   refine kB ?_;(refine cU (σ:=Nat) (fun n=>3≤n∧n≤66∧i+n≤N∧mat s k i n) (fun n=>[(9, .int .i64 (n:Int))]) (fun n=>66-n) (3) (by exact⟨Z9,Z9,Z8,aMI zu ht⟩) Ze (fun n ⟨h3,h66,hin,hm⟩=> ?_);refine Da ?_);by_cases zm:n=66
   ·have pn:=KT ht hk zq zu hP h3 h66 Z8 hm (.inl zm);rcases ig n n0 with zw|zy
    ·omega
    ·refine kB ?_;(refine dC wt (aI (f:=fI) (q':=(n:Int)) rfl rfl rfl rfl Zk rfl Z8 Zg Jc rfl rfl Jb) ?_;rintro _ _ ⟨rfl,rfl⟩);rw[iD _ _ zx,nF];refine iC ?_;rw[zn];(refine dC wt (aI (f:=fI) (q':=((i-k:Nat):Int)) rfl rfl rfl rfl Zk rfl Z8 Zg Jc rfl rfl Jb) ?_;rintro _ _ ⟨rfl,rfl⟩);rw[iD _ _ zx,nF];refine iC ?_;refine Ee ((idx+1,n,i-k)) ?_ ?_
     ·exact⟨Z8,pn.2 zy⟩
     ·dsimp only;omega
   ·by_cases hnN:i+n=N
    ·have pn:=KT ht hk zq zu hP h3 h66 Z8 hm (.inr (.inl Z8));rcases ig n n0 with zw|zy
     ·omega
     ·refine kB ?_;(refine dC wt (aI (f:=fI) (q':=(n:Int)) rfl rfl rfl rfl Zk rfl Z8 Zg Jc rfl rfl Jb) ?_;rintro _ _ ⟨rfl,rfl⟩);rw[iD _ _ zx,nF];refine iC ?_;rw[zn];(refine dC wt (aI (f:=fI) (q':=((i-k:Nat):Int)) rfl rfl rfl rfl Zk rfl Z8 Zg Jc rfl rfl Jb) ?_;rintro _ _ ⟨rfl,rfl⟩);rw[iD _ _ zx,nF];refine iC ?_;refine Ee ((idx+1,n,i-k)) ?_ ?_
      ·exact⟨Z8,pn.2 zy⟩
      ·dsimp only;omega
    ·obtain⟨y1,zk⟩: ∃ y,s[k+n]? =some y:=⟨_,ak Z8⟩;obtain⟨y2,zj⟩: ∃ y,s[i+n]? =some y:=⟨_,ak Z8⟩;by_cases zl:y1=y2
     ·subst zl;refine Yw6 ?_;refine Ee (n+1) ?_ ?_
      ·exact⟨Z8,Z8,Z8,aFL hm (by rw[zk,zj])⟩
      ·omega
     ·have hyn:y1.toNat≠y2.toNat:=fun h=>zl (UInt8.toNat_inj.1 h)
      have pn:=KT ht hk zq zu hP h3 h66 Z8 hm (.inr (.inr (by rw[zk,zj];exact fun h=>zl (a7 h))));rcases ig n n0 with zw|zy
      ·refine Yw6 ?_;refine Ee ((idx+1,n0,d0)) ?_ ?_
       ·exact⟨Z8,pn.1 zw⟩
       ·dsimp only;omega
      ·refine Yw6 ?_;(refine dC wt (aI (f:=fI) (q':=(n:Int)) rfl rfl rfl rfl Zk rfl Z8 Zg Jc rfl rfl Jb) ?_;rintro _ _ ⟨rfl,rfl⟩);rw[iD _ _ zx,nF];refine iC ?_;rw[zn];(refine dC wt (aI (f:=fI) (q':=((i-k:Nat):Int)) rfl rfl rfl rfl Zk rfl Z8 Zg Jc rfl rfl Jb) ?_;rintro _ _ ⟨rfl,rfl⟩);rw[iD _ _ zx,nF];refine iC ?_;refine Ee ((idx+1,n,i-k)) ?_ ?_
       ·exact⟨Z8,pn.2 zy⟩
       ·dsimp only;omega
  ·obtain rfl:idx=xs.length:=Z8
   have zv:=aFK ht e3 hP;(refine JH ?_;intro q);refine aL wt rfl (XD (e:=23) rfl rfl rfl aU e1 Zl) ?_;rintro _ _ ⟨st,rfl,rfl⟩;refine iC ?_;refine aL wt rfl (by first|exact Ma (fI) [(i:Int)] rfl|exact Mb (fI) [(i:Int)] rfl) ?_;rintro _ _ ⟨q5,c5,rfl,rfl⟩;refine iC ?_;refine dC wt (OG rfl rfl rfl rfl aU) ?_;rintro _ _ ⟨rfl,rfl⟩;obtain⟨g1,g2⟩:=e4 (xs++[(i:Int)]) q5 c5 (aMH ht e3);rw[g2];refine iC ?_;refine mC (kP.refl _) (JX (e:=uN ((x0,x1,x2),xs++[(i:Int)],q5,c5)) (l:=rest.map uN) aU aU (aRN _)) ?_;refine Ee ((i+1,gN L i n0,gN D i d0,((x0,x1,x2),xs++[(i:Int)],q5,c5)::rest)) ?_ ?_
   ·exact⟨Z8,anY hL zv,g1⟩
   ·dsimp only;omega
end lz
namespace lz
open sl
def DB (L B:Nat→Nat) (i n b st:Nat):Prop:=(st=1∨3≤st∧st<n∧st≤L i)∧b=B (i+st)+1∧b≤B (i+1)+1∧ ∀ m,3≤m→m<n→m≤L i→b≤B (i+m)+1
theorem aFM (L B:Nat→Nat) (i:Nat):DB L B i 3 (B (i+1)+1) 1:=⟨.inl rfl,rfl,df _,fun m h1 h2=>Z8⟩
theorem aFN {L B:Nat→Nat} {i n b st:Nat} (h:DB L B i n b st) (h3:3≤n) (hn:n≤L i) (hb:B (i+n)+1≤b):DB L B i (n+1) (B (i+n)+1) n:=by
 obtain⟨h1,h2,h4,h5⟩:=h;refine⟨.inr ⟨h3,Z8,hn⟩,rfl,Z8,fun m a1 a2 a3=> ?_⟩;rcases (by omega:m<n∨m=n) with h|rfl
 ·have:=h5 m a1 h a3;omega
 ·exact df _
theorem aFO {L B:Nat→Nat} {i n b st:Nat} (h:DB L B i n b st) (hb:b<B (i+n)+1):DB L B i (n+1) b st:=by
 obtain⟨h1,h2,h4,h5⟩:=h;refine⟨h1.imp id fun h=>⟨h.1,Z8,h.2.2⟩,h2,h4,fun m a1 a2 a3=> ?_⟩;rcases (by omega:m<n∨m=n) with h|rfl
 ·exact h5 m a1 h a3
 ·omega
theorem aMJ {s:List UInt8} {L D B S:Nat→Nat} {i n b st:Nat} (hL:vX s L D) (hi:i<s.length) (hB:Dp s L B S (i+1)) (h:DB L B i n b st) (hn:L i<n):Dp s L (gN B i b) (gN S i st) i:=by
 obtain⟨h1,h2,h4,h5⟩:=h;obtain⟨g1,g2⟩:=hB;have zy: ∀ j,i<j→gN B i b j=B j:=fun j hj=>vO _ _ Z8
 have hnx:B (i+1)+(i+1)≤s.length:=by
  rcases ig (i+1) s.length with h|h
  ·exact (g2 (i+1) (df _) h).2.2.2.2
  ·have:i+1=s.length:=Z8
   rw[this,g1];omega
 refine⟨by rw[zy _ hi];exact g1,fun j hij hj=> ?_⟩;rcases (by omega:j=i∨i+1≤j) with rfl|zx
 ·rw[oZ,oZ,zy (j+1) Z8];refine⟨h1.imp id fun h=>⟨h.1,h.2.2⟩, ?_,h4,fun m a1 a2=> ?_,Z8⟩
  ·rw[zy _ Z8];exact h2
  ·rw[zy _ Z8];exact h5 m a1 Z8 a2
 ·obtain⟨k1,k2,k3,k4,k5⟩:=g2 j zx hj;rw[vO S st Z8,zy j Z8,zy (j+1) Z8];refine⟨k1, ?_,k3,fun m a1 a2=> ?_,k5⟩
  ·rw[zy _ Z8];exact k2
  ·rw[zy _ Z8];exact k4 m a1 a2
theorem aFP {s:List UInt8} (L:Nat→Nat):Dp s L (fun _=>0) (fun _=>0) s.length:=⟨rfl,fun i h1 h2=>Z8⟩
attribute [local irreducible] box own sl bL aH bJ Qt cN cM dG dL eQ
theorem yC (s:List UInt8) (hs:s.length≤512):
  Ct lk 303 [.string (str s)] [] fun v H'=> ∃ out q c,Found s out∧v= .tuple #[.slice q out.length c, .int .i64 0]∧H'=[own (.slice q out.length c) 356 3 out.length (flat adH out)]:=by
 have C0:=ajN s hs;obtain⟨N,hN⟩: ∃ N,s.length=N:=⟨_,rfl⟩;rw[hN] at C0 hs;(refine Ye Tryz.func303 Tryz.ntmps303 ?_;intro Fr);refine kB ?_;(refine Ca (C0) ?_;rintro _ _ ⟨_,⟨L,D,q1,q2,hL,rfl,rfl⟩,rfl⟩;refine Da ?_);have zm: ∀ i,i<N→L i=0∨3≤L i∧i+L i≤N:=fun i hi=>by
  rcases (hL i Z8).1 with h|h
  ·exact .inl h
  ·exact .inr ⟨h.1,Z8⟩
 refine kB ?_;refine qH 0 (σ:=Option Addr×Option Addr) (fun _=>True) (fun x=>[(6, .slice x.1 (N+1) (N+1)),(7, .slice x.2 (N+1) (N+1))]) (fun x=>[own (.slice x.1 (N+1) (N+1)) 3 1 (N+1) (flat fI (dQ (N+1) fun _=>0)),own (.slice x.2 (N+1) (N+1)) 3 1 (N+1) (flat fI (dQ (N+1) fun _=>0))]) ?_ ?_<;>dsimp only[adq]
 ·(refine aD (Hq:=[]) [] [] rfl Jd Za ?_);refine jV ?_;(refine aB 3 ?_;refine cD 7 Jd ?_ ?_)
  ·(refine Oc (l:=by exact (dH (fI) (0) (c:=(N+1)) rfl rfl rfl Zf Zf rfl rfl Z8 Zi)) (k:= ?_);rintro _ _ ⟨q3,rfl,rfl⟩;refine Te ?_;(try refine Da ?_));refine jV ?_;(refine aB 7 ?_;refine Oa (l:=by exact (dH (fI) (0) (c:=(N+1)) rfl rfl rfl Zf Zf rfl rfl Z8 Zi)) (k:= ?_);rintro _ _ ⟨q4,rfl,rfl⟩;refine Te ?_;(try refine Da ?_));rw[nA];refine Yw7 ?_;exact sL ((q3,q4)) ZT (kP.of fsa) MN
  ·(refine Oc (l:=by exact (dH (fI) (0) (c:=(N+1)) rfl rfl rfl Zf Zf rfl rfl Z8 Zi)) (k:= ?_);rintro _ _ ⟨q4,rfl,rfl⟩;refine Te ?_;(try refine Da ?_));refine jV ?_;(refine aB 3 ?_;refine Oa (l:=by exact (dH (fI) (0) (c:=(N+1)) rfl rfl rfl Zf Zf rfl rfl Z8 Zi)) (k:= ?_);rintro _ _ ⟨q3,rfl,rfl⟩;refine Te ?_;(try refine Da ?_));rw[nA];refine Yw7 ?_;exact sL ((q3,q4)) ZT (kP.of fsa) MN
 rintro⟨q3,q4⟩ _;refine Da ?_;refine kB ?_;rw[hN];(refine aC (σ:=Nat×(Nat→Nat)×(Nat→Nat)) (fun x=>x.1≤N∧Dp s L x.2.1 x.2.2 x.1) (fun x=>[(8, .int .i64 ((x.1:Int)-1))]) (fun x=>[own (.slice q3 (N+1) (N+1)) 3 1 (N+1) (flat fI (dQ (N+1) x.2.1)),own (.slice q4 (N+1) (N+1)) 3 1 (N+1) (flat fI (dQ (N+1) x.2.2))]) _ (fun x=>x.1) ((N,fun _=>0,fun _=>0)) (by exact⟨df _,by rw[←hN];exact aFP L⟩) Ze Zb (fun⟨j,B,S⟩ ⟨zl,hB⟩=> ?_);refine Da ?_);dsimp only at zl hB ⊢;cases j with
 |zero=>
  refine kB ?_;refine aO (aS _ 356 3) ?_;(refine aC (σ:=Nat×Option Addr×Nat×List (Int×Int×Int)) (fun x=>Way s B x.1 x.2.2.2) (fun x=>[(11, .int .i64 (x.1:Int)),(10, .slice x.2.1 x.2.2.2.length x.2.2.1)]) (fun x=>[own (.slice x.2.1 x.2.2.2.length x.2.2.1) 356 3 x.2.2.2.length (flat adH x.2.2.2)]) _ (fun x=>N-x.1) ((0,none,0,[])) (by exact dS s B) Ze Zb (fun⟨i,q5,c5,out⟩ hW=> ?_);refine Da ?_);dsimp only at hW ⊢;have hiN:i≤N:=by have:=hW.1;omega
  have hB0:B 0≤N:=by
   rcases jo s.length with h|h
   ·have:=hB.1;rw[h] at this;omega
   ·have:=(hB.2 0 (fe _) h).2.2.2.2;omega
  have hol:out.length≤512:=by have:=hW.2.2.2;omega
  rcases ig i N with hlt|zr
  ·have zu:i<s.length:=Z8
   obtain⟨x,hx⟩: ∃ x,s[i]? =some x:=⟨_,ak zu⟩;have zk:s.getD i 0=x:=by rw[my,hx];rfl
   have zv:=aEH Z8 hL hB zu hW;have hst:=aaR Z8 hL hB zu hW.2.1;have gS:(dQ (N+1) S)[i]? =some ((S i:Nat):Int):=eG _ Z8;have gD:(dQ N D)[i]? =some ((D i:Nat):Int):=eG _ Z8;have zx:(i:Int)+((S i:Nat):Int)=((i+S i:Nat):Int):=Z8
   have hS1:=hst.1;have hS2:=hst.2.1;by_cases zq:S i=1
   ·have hm:uM s S D i=(0,0,(x.toNat:Int)):=by unfold uM;rw[Jg zq,zk]
    rw[hm] at zv;(refine JH ?_;intro q);refine aL wt rfl (by first|exact Ma (adH) [(0,0,(x.toNat:Int))] rfl|exact Mb (adH) [(0,0,(x.toNat:Int))] rfl) ?_;rintro _ _ ⟨q6,c6,rfl,rfl⟩;refine iC ?_;rw[zx];refine Ee ((i+S i,q6,c6,out++[(0,0,(x.toNat:Int))])) ?_ ?_
    ·exact zv
    ·dsimp only;omega
   ·have hm:uM s S D i=((S i:Int),(D i:Int),0):=by unfold uM;rw[Jf zq]
    rw[hm] at zv;refine kB ?_;(refine aD (Hq:=[_,_]) [2,4] [] rfl Jd Za ?_);refine jV ?_;(refine aB 10 ?_;refine Oa (l:=by exact aT rfl rfl rfl Zp rfl rfl Z9 rfl) (k:= ?_);rintro _ _ ⟨q9,rfl,rfl⟩;refine Te ?_;(try refine Da ?_));(refine aB 11 ?_;refine Oa (l:=by exact (by first|exact Ma (adH) [((S i:Int),(D i:Int),0)] rfl|exact Mb (adH) [((S i:Int),(D i:Int),0)] rfl)) (k:= ?_);rintro _ _ ⟨q6,c6,rfl,rfl⟩;refine Te ?_;(try refine Da ?_));refine sO ?_;rw[zx];refine Ee ((i+S i,q6,c6,out++[((S i:Int),(D i:Int),0)])) ?_ ?_
    ·exact zv
    ·dsimp only;omega
  ·have zj:i=s.length:=Z8
   rw[zj] at hW;have hF:=aLN Z8 hL hB hW;refine kB ?_;exact Ea (x:=⟨out,q5,c5,hF,rfl,rfl⟩)
 |succ i=>
  have hj:((i+1:Nat):Int)-1=(i:Int):=Z8
  rw[hj];have hi1:(i:Int)+1=((i+1:Nat):Int):=Z8
  have gB:(dQ (N+1) B)[i+1]? =some ((B (i+1):Nat):Int):=eG _ Z8;have gB0:(dQ (N+1) B)[i]? =some ((B i:Nat):Int):=eG _ Z8;have gS0:(dQ (N+1) S)[i]? =some ((S i:Nat):Int):=eG _ Z8;have gL:(dQ N L)[i]? =some ((L i:Nat):Int):=eG _ Z8;have hb:((B (i+1):Nat):Int)+1=((B (i+1)+1:Nat):Int):=Z8
  have hbN:B (i+1)≤N:=by
   rcases ig (i+1) s.length with h|h
   ·have:=(hB.2 (i+1) (df _) h).2.2.2.2;omega
   ·have h9:i+1=s.length:=Z8
    rw[h9,hB.1];omega
  have zh: ∀ j,i<j→j≤N→B j≤N:=fun j h1 h2=>by
   rcases ig j s.length with h|h
   ·have:=(hB.2 j h1 h).2.2.2.2;omega
   ·have h9:j=s.length:=Z8
    rw[h9,hB.1];omega
  refine kB ?_;refine eK wt rfl (cE (i:=i+1) rfl rfl rfl aU Z8 Z8) ?_;refine iC ?_;rw[hb];(refine dC wt (aI (f:=fI) (q':=((B (i+1)+1:Nat):Int)) rfl rfl rfl rfl Zk rfl Z8 Zg Jc rfl rfl Jb) ?_;rintro _ _ ⟨rfl,rfl⟩);rw[iD _ _ Z8];refine iC ?_;(refine dC wt (aI (f:=fI) (q':=((1:Nat):Int)) rfl rfl rfl rfl Zk rfl Z8 Zg Jc rfl rfl Jb) ?_;rintro _ _ ⟨rfl,rfl⟩);rw[iD _ _ Z8];refine kB ?_;(refine aC (σ:=Nat×Nat×Nat) (fun x=>(3≤x.1∧x.1≤1000)∧DB L B i x.1 x.2.1 x.2.2) (fun x=>[(9, .int .i64 (x.1:Int))]) (fun x=>[own (.slice q3 (N+1) (N+1)) 3 1 (N+1) (flat fI (dQ (N+1) (gN B i x.2.1))),own (.slice q4 (N+1) (N+1)) 3 1 (N+1) (flat fI (dQ (N+1) (gN S i x.2.2)))]) _ (fun x=>L i+1-x.1) ((3,B (i+1)+1,1)) (by exact⟨⟨df 3,show 3≤1000 by decide⟩,aFM L B i⟩) Ze Zb (fun⟨n,b,st⟩ ⟨⟨zn,zy⟩,zw⟩=> ?_);refine Da ?_);dsimp only at zn zy zw ⊢;rcases ig (L i) n with hlt|zr
  ·refine kB ?_;refine Ee ((i,gN B i b,gN S i st)) ?_ ?_
   ·exact⟨Z8,aMJ hL Z8 hB zw hlt⟩
   ·dsimp only;omega
  ·have hLi:=zm i Z8;have gBn:(dQ (N+1) (gN B i b))[i+n]? =some ((B (i+n):Nat):Int):=by rw[eG _ Z8,vO _ _ Z8]
   have gBi:(dQ (N+1) (gN B i b))[i]? =some (b:Int):=by rw[eG _ Z8,oZ]
   have gSi:(dQ (N+1) (gN S i st))[i]? =some (st:Int):=by rw[eG _ Z8,oZ]
   have hin:(i:Int)+(n:Int)=((i+n:Nat):Int):=Z8
   have zg:((B (i+n):Nat):Int)+1=((B (i+n)+1:Nat):Int):=Z8
   have hBn:=zh (i+n) Z8 Z8;have hbb:b≤N+1:=by have:=zw.2.2.1;omega
   by_cases hle:B (i+n)+1≤b
   ·refine Yw6 ?_;rw[zg];(refine dC wt (aI (f:=fI) (q':=((B (i+n)+1:Nat):Int)) rfl rfl rfl rfl Zk rfl Z8 Zg Jc rfl rfl Jb) ?_;rintro _ _ ⟨rfl,rfl⟩);rw[iD _ _ Z8,nF];refine iC ?_;(refine dC wt (aI (f:=fI) (q':=(n:Int)) rfl rfl rfl rfl Zk rfl Z8 Zg Jc rfl rfl Jb) ?_;rintro _ _ ⟨rfl,rfl⟩);rw[iD _ _ Z8,nF];refine iC ?_;refine Ee ((n+1,B (i+n)+1,n)) ?_ ?_
    ·exact⟨Z8,aFN zw zn zr hle⟩
    ·dsimp only;omega
   ·have zt:b<B (i+n)+1:=Z8
    refine Yw6 ?_;refine Ee ((n+1,b,st)) ?_ ?_
    ·exact⟨Z8,aFO zw zt⟩
    ·dsimp only;omega
end lz
namespace lz
open sl
theorem aMK:adH=AE:=by
 funext p;rfl
theorem aML (s:List UInt8) (hs:s.length≤512):Ct lk 303 [.string (str s)] [] fun v H'=> ∃ out q c,Found s out∧v= .tuple #[.slice q out.length c, .int .i64 0]∧H'=[own (.slice q out.length c) 356 3 out.length (flat AE out)]:=by
 rw[←aMK];exact yC s hs
theorem awY (q:Option Addr) (c:Nat) (xs:List (Int×Int×Int)) (hg: ∀ p∈xs,uF p) (hn:xs.length≤100000000000000000) {r:List UInt8} {e:Nat} (h:AH xs=(r,e)):Ct lk 223 [.slice q xs.length c] [sl 3 (.slice q xs.length c) (xs.map AE)] fun v H'=>v= .tuple #[.string (str r), .int .i64 (e:Int)]∧H'=[]:=
 bK fun w hw=>(amZ _ xs w (hw.head:bX w 3 _ (xs.map AE)) hg hn).mono fun e w' ⟨h1,h2⟩=>⟨by rw[h1,h],h2⟩
end lz
namespace bld
open sl
abbrev me (b:Nat):Value:=aH b 0
theorem aoG (b:Nat) (v:Value):Ct lk 268 [me b] [box b [me b,v] 313] fun r H'=>r= .tuple #[]∧H'=[box b [me b,v] 313]:=
 ⟨fun Fr w hw => by
  have hb : w.heap[b]? = some (.cells #[me b, v] 313 (0, 0)) := hw.head;exact (Any.Builder_copyCheck_used aFW Tryz.kU.toX72 b w (by rw [Lib.cell_of_heap hb]; rfl)).mono fun e w' ⟨he, zy⟩ => ⟨_, _, he, ⟨rfl, rfl⟩, by rw [zy]; exact hw⟩⟩
theorem axN (b:Nat) (v:Value):Ct lk 268 [me b] [box b [.pointer none,v] 313] fun r H'=>r= .tuple #[]∧H'=[box b [me b,v] 313]:=
 ⟨fun Fr w hw => by
  have hb:w.heap[b]? =some (.cells #[.pointer none,v] 313 (0,0)):=hw.head;refine (Any.Builder_copyCheck_fresh aFW Tryz.kU.toX72 b w (by rw[Lib.cell_of_heap hb];rfl) (by simp [World.shape?,hb];rfl) (by simp [World.frozen?,hb])).mono fun e w' ⟨he,zy⟩=>⟨_,_,he,⟨rfl,rfl⟩, ?_⟩
  subst zy;have hg := Lib.grownBy_setCell w b 0 (me b);exact aG.qO hw rfl ⟨hg.os, hg.tape, hg.output, hg.size, fun k hk hn => hg.block k hk fun e => hn (by cases e; rfl)⟩ (Lib.heap_setCell_same (i := 0) hb _) fun k hk => .inl hk⟩
end bld
namespace bld
open sl
attribute [local irreducible] box own sl bL aH bJ Qt cN cM dG dL eQ
theorem ajV (b c:Nat) (q:Option Addr) (p:Value) (l:List UInt8) (h0:l≠[]):
  Ct lk 226 [aH b 0] [box b [p, .slice q l.length c] 313,own (.slice q l.length c) 5 1 l.length (flat fY l)] fun r H'=>r= .string (str l)∧H'=[]:=by
 have hl:0<l.length:=by
  rcases jo l.length with h|h
  ·exact absurd (List.eq_nil_of_length_eq_zero h) h0
  ·exact h
 (refine Ye Tryz.func226 Tryz.ntmps226 ?_;intro Fr);refine kB ?_;refine YL aU hl ?_;rintro g rfl hgc;(refine aD (Hq:=[_]) [0] [] rfl Jd Za ?_);refine jV ?_;(refine aB 10 ?_;refine Oa (l:=by exact (KV Jd Jd rfl rfl rfl aU h0)) (k:= ?_);rintro _ _ ⟨rfl,rfl⟩;refine Te ?_;(try refine Da ?_));refine sO ?_;exact Ea (x:=⟨rfl,rfl⟩)
theorem aoH (b:Nat) (p:Value):
  Ct lk 226 [aH b 0] [box b [p, .slice none 0 0] 313] fun r H'=>r= .string (str [])∧H'=[]:=by
 (refine Ye Tryz.func226 Tryz.ntmps226 ?_;intro Fr);refine kB ?_;(refine aD (Hq:=[_]) [0] [] rfl Jd Za ?_);refine sO ?_;exact Ea (x:=⟨rfl,rfl⟩)
end bld
namespace bld
open sl
theorem bP (b:Nat) (p v:Value) (hp:p= .pointer none∨p=me b):Ct lk 268 [me b] [box b [p,v] 313] fun r H'=>r= .tuple #[]∧H'=[box b [me b,v] 313]:=by
 rcases hp with rfl|rfl
 ·exact axN b v
 ·exact aoG b v
attribute [local irreducible] box own sl bL aH bJ Qt cN cM dG dL eQ
theorem DE (b:Nat) (p:Value) (hp:p= .pointer none∨p=me b) (q0:Option Addr) (c0:Nat) (xs l:List UInt8) (hm:xs.length+l.length≤140737488355328):
  Ct lk 225 [aH b 0, .string (str l)] [box b [p, .slice q0 xs.length c0] 313,own (.slice q0 xs.length c0) 5 1 xs.length (flat fY xs)] fun r H'=> ∃ q c,r= .tuple #[.int .i64 (l.length:Int), .nilIface]∧H'=[box b [me b, .slice q (xs++l).length c] 313,own (.slice q (xs++l).length c) 5 1 (xs++l).length (flat fY (xs++l))]:=by
 have C0:=bP b p (.slice q0 xs.length c0) hp;rw[ae];(refine Ye Tryz.func225 Tryz.ntmps225 ?_;intro Fr);refine bM ?_;(refine Ca (C0) ?_;rintro _ _ ⟨_,⟨rfl,rfl⟩,rfl⟩;refine Da ?_);refine bM ?_;refine aL wt rfl (US rfl rfl rfl aU hm) ?_;rintro _ _ ⟨q,c,rfl,hnil,rfl⟩;refine bM ?_;exact Ea (x:=⟨q,c,rfl,rfl⟩)
theorem UT (b:Nat) (p:Value) (hp:p= .pointer none∨p=me b) (q0:Option Addr) (c0:Nat) (xs:List UInt8) (x:UInt8) (hm:xs.length+1≤140737488355328):
  Ct lk 258 [aH b 0, .int .u8 (x.toNat:Int)] [box b [p, .slice q0 xs.length c0] 313,own (.slice q0 xs.length c0) 5 1 xs.length (flat fY xs)] fun r H'=> ∃ q c,r= .nilIface∧H'=[box b [me b, .slice q (xs++[x]).length c] 313,own (.slice q (xs++[x]).length c) 5 1 (xs++[x]).length (flat fY (xs++[x]))]:=by
 have C0:=bP b p (.slice q0 xs.length c0) hp;(refine Ye Tryz.func258 Tryz.ntmps258 ?_;intro Fr);refine bM ?_;(refine Ca (C0) ?_;rintro _ _ ⟨_,⟨rfl,rfl⟩,rfl⟩;refine Da ?_);(refine mW ?_;intro q);(refine aL wt Jb (by first|exact Ma (fY) [x] rfl|exact Mb (fY) [x] rfl) ?_;rintro _ _ ⟨q,c,rfl,rfl⟩);refine bM ?_;exact Ea (x:=⟨q,c,rfl,rfl⟩)
theorem UU (b c:Nat) (q:Option Addr) (p:Value) (l:List UInt8) (h0:l=[]→q=none∧c=0):Ct lk 226 [aH b 0] [box b [p, .slice q l.length c] 313,own (.slice q l.length c) 5 1 l.length (flat fY l)] fun r H'=>r= .string (str l)∧H'=[]:=by
 by_cases h:l=[]
 ·obtain⟨rfl,rfl⟩:=h0 h;subst h;exact vK (fun Fr=>HSub.BJ (List.Sublist.cons_cons _ (List.Sublist.cons _ (List.Sublist.refl _)))) (aoH b p)
 ·exact ajV b c q p l h
end bld
namespace pick
open sl
def fO (p:One):List Value:=[.int .i64 p.1, .int .i64 p.2.1, .int .i64 p.2.2]
theorem aSH (p:One): ∀ u∈fO p,u.oneCell'=true:=by simp [fO,Value.oneCell']
instance:aNT lk 286:=⟨Jd⟩
instance:aNT lk 284:=⟨Jd⟩
instance:Ptr lk 286 282:=⟨Jd⟩
instance:apM lk 286 "Len" 198 false:=⟨Jd,⟨lk.types.size-1,Jd⟩⟩
instance:apM lk 286 "Less" 380 false:=⟨Jd,⟨lk.types.size-1,Jd⟩⟩
instance:apM lk 286 "Swap" 381 false:=⟨Jd,⟨lk.types.size-1,Jd⟩⟩
instance:apM lk 286 "Pop" 382 true:=⟨Jd,⟨lk.types.size-1,Jd⟩⟩
theorem aUP {x y:One} (hx:XQ x) (hy:XQ y):(0≤(1000-x.2.1)*(x.2.2+1)∧(1000-x.2.1)*(x.2.2+1)≤2147483648000)∧0≤(1000-x.2.1)*(x.2.2+1)*(1000+y.2.1)∧(1000-x.2.1)*(x.2.2+1)*(1000+y.2.1)≤4294967296000000:=by
 unfold XQ at hx hy;have h1:0≤(1000-x.2.1)*(x.2.2+1):=adn Z8 Z8;have h2:(1000-x.2.1)*(x.2.2+1)≤1000*2147483648:=ado Z8 Z8 Z8 Z8;have h3:0≤(1000-x.2.1)*(x.2.2+1)*(1000+y.2.1):=adn h1 Z8;have h4:(1000-x.2.1)*(x.2.2+1)*(1000+y.2.1)≤2147483648000*2000:=ado Z8 Z8 Z8 Z8;exact⟨⟨h1,Z8⟩,h3,Z8⟩
theorem VV {P:Program} {R:List Ent} {q:Option Addr} {e sz m k c:Nat} {xs ys:List Value} (hk:k≤m) (hx:xs.take (k*sz)=ys):HSub (own (.slice q m c) e sz m xs::R) (own (.slice q k c) e sz k ys::R):=fun w hw=>by
 have hw' := hw;obtain ⟨raw, h1, h2, h3, h4, h5⟩ := zF (hw.head : w.ownsRow 0 e sz (.slice q m c) m xs);have h6 : aG (own (.slice q c c) e sz c raw :: R) w := aG.qO hw rfl (oB.refl _ _) h1 fun b hb => .inl (by
  have zy : (jw q c c).ownBlock = some b := hb;show (jw q m c).ownBlock = some b;cases q <;> exact zy)
 refine qV (gm hk h4) ?_ w h6;rw[←hx, ←h3,List.take_take,Nat.min_eq_left (Nat.mul_le_mul_right _ hk)]
theorem LP {P:Program} {H R:List Ent} {q:Option Addr} {e sz m k c:Nat} {xs ys:List Value} (p:bQ (own (.slice q m c) e sz m xs) H R) (hk:k≤m) (hx:xs.take (k*sz)=ys):HSub H (own (.slice q k c) e sz k ys::R):=HSub.trans (cA p.perm) (VV (P:=P) hk hx)
theorem azM {P:Program} {ops:Array Oper} {Q:fW} {n:Nat} {F:eE} {H R:List Ent} {l:List Oper} {q:Option Addr} {e sz m c:Nat} {xs:List Value} (p:bQ (own (.slice q m c) e sz m xs) H R) (k:m≤c→cM P ops Q n l F H):cM P ops Q n l F H:=fun a w ha hw=>by
 have zy:=hw.perm p.perm;obtain⟨raw,h1,h2,h3,h4,h5⟩:=zF (zy.head:w.ownsRow 0 e sz (.slice q m c) m xs);exact k h4 a w ha hw
theorem XR (l:List One):(flat fO l).take ((l.length-1)*3)=flat fO l.dropLast:=by
 induction l with
 |nil=>rfl
 |cons x l ih=>
  cases l with
  |nil=>rfl
  |cons y l=>
   rw[List.dropLast_cons_of_ne_nil Ja];show (fO x++flat fO (y::l)).take _=fO x++flat fO (y::l).dropLast;rw[←ih];have h3:(fO x).length=3:=rfl;rw[List.take_append,h3,bd (by rw[h3];simp;omega)];congr 2;simp;omega
attribute [local irreducible] box own sl bL aH bJ Qt cN cM dG dL eQ
theorem PX (q:Option Addr) (m c:Nat):Ct lk 198 [.slice q m c] [] fun v H'=>v= .int .i64 (m:Int)∧H'=[]:=by
 (refine Ye Tryz.func198 Tryz.ntmps198 ?_;intro Fr);refine bM ?_;exact Ea (x:=⟨rfl,rfl⟩)
theorem aIU (q:Option Addr) (c:Nat) (l:List One) (i j:Nat) {x y:One} (hi:l[i]? =some x) (hj:l[j]? =some y) (hx:XQ x) (hy:XQ y):
  Ct lk 380 [.slice q l.length c, .int .i64 (i:Int), .int .i64 (j:Int)] [sl 3 (.slice q l.length c) (l.map fO)] fun v H'=>v= .bool (better x y)∧H'=[]:=by
 have hil:i<l.length:=(aj.1 hi).1;have hjl:j<l.length:=(aj.1 hj).1;obtain⟨⟨b1,b2⟩,b3,b4⟩:=aUP hx hy;obtain⟨⟨d1,d2⟩,d3,d4⟩:=aUP hy hx;obtain⟨r,hr⟩: ∃ r,better x y=r:=⟨_,rfl⟩;rw[hr];have hb:(r=true∧(xO y x<xO x y∨(xO x y=xO y x∧x.1<y.1)))∨(r=false∧(xO x y<xO y x∨(xO x y=xO y x∧y.1≤x.1))):=by
  cases r with
  |true=>exact .inl ⟨rfl,DT.1 hr⟩
  |false=>exact .inr ⟨rfl,wM.1 hr⟩
 unfold XQ at hx hy;unfold xO at hb;clear hr;rcases hb with⟨rfl,hb|⟨hb,zy⟩⟩|⟨rfl,hb|⟨hb,zy⟩⟩
 ·(refine Ye Tryz.func380 Tryz.ntmps380 ?_;intro Fr);(repeat' (first|refine Y1 ?_|(refine Wb ?_;intro b)|(refine aB 8 ?_;refine cD 9 Je ?_ ?_)|(refine Wi ?_;intro b)|fail));all_goals exact Ea (x:=⟨rfl,rfl⟩)
 ·(refine Ye Tryz.func380 Tryz.ntmps380 ?_;intro Fr);(repeat' (first|refine Y1 ?_|(refine Wb ?_;intro b)|(refine aB 8 ?_;refine cD 9 Je ?_ ?_)|(refine Wi ?_;intro b)|fail));all_goals exact Ea (x:=⟨rfl,rfl⟩)
 ·(refine Ye Tryz.func380 Tryz.ntmps380 ?_;intro Fr);(repeat' (first|refine Y1 ?_|(refine Wb ?_;intro b)|(refine aB 8 ?_;refine cD 9 Je ?_ ?_)|(refine Wi ?_;intro b)|fail));all_goals exact Ea (x:=⟨rfl,rfl⟩)
 ·(refine Ye Tryz.func380 Tryz.ntmps380 ?_;intro Fr);(repeat' (first|refine Y1 ?_|(refine Wb ?_;intro b)|(refine aB 8 ?_;refine cD 9 Je ?_ ?_)|(refine Wi ?_;intro b)|fail));all_goals exact Ea (x:=⟨rfl,rfl⟩)
theorem alG (q:Option Addr) (c:Nat) (l:List One) (i j:Nat) {x y:One} (hi:l[i]? =some x) (hj:l[j]? =some y) (zy:i≠j):
  Ct lk 381 [.slice q l.length c, .int .i64 (i:Int), .int .i64 (j:Int)] [own (.slice q l.length c) 284 3 l.length (flat fO l)] fun v H'=>v= .tuple #[]∧H'=[own (.slice q l.length c) 284 3 l.length (flat fO (swp l i j x y))]:=by
 have zx:i<l.length:=(aj.1 hi).1;have zw:j<l.length:=(aj.1 hj).1;have hj2:(l.set i y)[j]? =some y:=by rw[List.getElem?_set_ne zy];exact hj
 unfold swp;(refine Ye Tryz.func381 Tryz.ntmps381 ?_;intro Fr);refine lL aU Z8 ?_;rintro g rfl hc;refine zM Jd Za ?_;refine aK 0 rfl wt Je rfl (bT rfl rfl) ?_;refine aK 1 rfl wt Je rfl (bT rfl rfl) ?_;refine aK 2 rfl wt Je rfl (bT rfl rfl) ?_;refine aK 3 rfl wt Je rfl (bT rfl rfl) ?_;refine aK 4 rfl wt Je rfl (bT rfl rfl) ?_;refine aK 5 rfl wt Je rfl (bT rfl rfl) ?_;refine aK 6 rfl wt Je rfl (gO (i:=j) rfl rfl rfl zw) ?_;refine aK 8 rfl wt Je rfl (bT rfl rfl) ?_;refine aK 9 rfl wt Je rfl (bT rfl rfl) ?_;refine aK 10 rfl wt Je rfl (gO (i:=i) rfl rfl rfl zx) ?_;refine zN (Hq:=[own (.slice (some ⟨g,0,none⟩) l.length c) 284 3 l.length (flat fO l)]) (nk:=[13,14,15]) (r:=1) (i:=0) ?_;refine jV ?_;(refine aB 13 ?_;refine Ob (l:=by exact (aI (f:=fO) (q':=y) rfl rfl rfl rfl Zk rfl Z8 Zg Jc rfl rfl Jb)) (k:= ?_);rintro _ _ ⟨rfl,rfl⟩;refine Te ?_;(try refine Da ?_));(refine aB 14 ?_;refine Oa (l:=by exact (iA (cE (i:=j) rfl rfl rfl aU Z8 Z8))) (k:= ?_);rintro _ _ ⟨rfl,rfl⟩;refine Te ?_;(try refine Da ?_));(refine aB 15 ?_;refine Ob (l:=by exact (aI (f:=fO) (q':=x) rfl rfl rfl rfl Zk rfl Z8 Zg Jc rfl rfl Jb)) (k:= ?_);rintro _ _ ⟨rfl,rfl⟩;refine Te ?_;(try refine Da ?_));refine Yw7 ?_;exact Eb (x:=⟨rfl,rfl⟩)
theorem aNU (b:Nat) (q:Option Addr) (c m:Nat) (l:List One) {x:One} (hm:l.length=m+1) (hx:l[m]? =some x) (hl:m≤1000):
  Ct lk 382 [aH b 0] [box b [.slice q l.length c] 282,own (.slice q l.length c) 284 3 l.length (flat fO l)] fun v H'=>v= .iface 284 (.agg (fO x).toArray)∧H'=[box b [.slice q m c] 282,own (.slice q m c) 284 3 m (flat fO l.dropLast)]:=by
 have zy:(l.length:Int)-1=(m:Int):=Z8
 have zx:=XR l;rw[show l.length-1=m by omega] at zx;(refine Ye Tryz.func382 Tryz.ntmps382 ?_;intro Fr);refine bM ?_;rw[zy];(refine bF ?_;intro b);refine azM (q:=q) (m:=l.length) (c:=c) (e:=284) (sz:=3) (xs:=flat fO l) aU fun hmc=> ?_
 rw[zy];refine oI 12 rfl wt rfl (sN (m:=m) rfl rfl rfl Z8 Z8) ?_;refine bM ?_;refine eK wt rfl (LX rfl rfl) ?_;refine iC ?_;refine mC (kP.refl _) (LP (P:=lk) (q:=q) (m:=l.length) (k:=m) (c:=c) (e:=284) (sz:=3) (xs:=flat fO l) aU Z8 zx) ?_;exact Ea (x:=⟨rfl,rfl⟩)
theorem azN (q:Option Addr) (c:Nat) (l:List One) (i:Nat) {x:One} (hi:l[i]? =some x):
  Ct lk 381 [.slice q l.length c, .int .i64 (i:Int), .int .i64 (i:Int)] [own (.slice q l.length c) 284 3 l.length (flat fO l)] fun v H'=>v= .tuple #[]∧H'=[own (.slice q l.length c) 284 3 l.length (flat fO l)]:=by
 have zy:i<l.length:=(aj.1 hi).1;have e0:l.set i x=l:=by
  apply ep;intro k;rw[ic];by_cases h:i=k
  ·subst h;rw[Jg rfl,Jg zy,hi]
  ·rw[Jf h]
 (refine Ye Tryz.func381 Tryz.ntmps381 ?_;intro Fr);refine lL aU Z8 ?_;rintro g rfl hc;refine zM Jd Za ?_;refine aK 0 rfl wt Je rfl (bT rfl rfl) ?_;refine aK 1 rfl wt Je rfl (bT rfl rfl) ?_;refine aK 2 rfl wt Je rfl (bT rfl rfl) ?_;refine aK 3 rfl wt Je rfl (bT rfl rfl) ?_;refine aK 4 rfl wt Je rfl (bT rfl rfl) ?_;refine aK 5 rfl wt Je rfl (bT rfl rfl) ?_;refine aK 6 rfl wt Je rfl (gO (i:=i) rfl rfl rfl zy) ?_;refine aK 8 rfl wt Je rfl (bT rfl rfl) ?_;refine aK 9 rfl wt Je rfl (bT rfl rfl) ?_;refine aK 10 rfl wt Je rfl (gO (i:=i) rfl rfl rfl zy) ?_;refine zN (Hq:=[own (.slice (some ⟨g,0,none⟩) l.length c) 284 3 l.length (flat fO l)]) (nk:=[13,14,15]) (r:=1) (i:=0) ?_;refine jV ?_;(refine aB 13 ?_;refine Ob (l:=by exact (aI (f:=fO) (q':=x) rfl rfl rfl rfl Zk rfl Z8 Zg Jc rfl rfl Jb)) (k:= ?_);rintro _ _ ⟨rfl,rfl⟩;refine Te ?_;(try refine Da ?_));rw[e0];(refine aB 14 ?_;refine Oa (l:=by exact (iA (cE (i:=i) rfl rfl rfl aU Z8 Z8))) (k:= ?_);rintro _ _ ⟨rfl,rfl⟩;refine Te ?_;(try refine Da ?_));(refine aB 15 ?_;refine Ob (l:=by exact (aI (f:=fO) (q':=x) rfl rfl rfl rfl Zk rfl Z8 Zg Jc rfl rfl Jb)) (k:= ?_);rintro _ _ ⟨rfl,rfl⟩;refine Te ?_;(try refine Da ?_));rw[e0];refine Yw7 ?_;exact Eb (x:=⟨rfl,rfl⟩)
end pick
namespace pick
open sl
def aPR (l:List One) (n i0:Nat) (l':List One):Prop:=iM l' n i0∧l'.Perm l∧l'.length=l.length∧ ∀ k,n≤k→l'[k]? =l[k]?
theorem PY {l l':List One} {n i0 i:Nat} (h:Dn l l' n i0 i) (hf:CZ l' n i):aPR l n i0 l':=⟨aSG h hf,h.perm,h.len,h.rest⟩
attribute [local irreducible] box own sl bL aH bJ Qt cN cM dG dL eQ
theorem alH (b:Nat) (q:Option Addr) (c:Nat) (l:List One) (n i0:Nat) (hn:n≤l.length) (hi:i0≤n) (hh:iM l n (i0+1)) (zq: ∀ a∈l,XQ a) (hl:l.length≤128):
  Ct lk 249 [.iface 286 (aH b 0), .int .i64 (i0:Int), .int .i64 (n:Int)] [box b [.slice q l.length c] 282,own (.slice q l.length c) 284 3 l.length (flat fO l)]
   fun v H'=> ∃ l' r,aPR l n i0 l'∧v= .bool r∧H'=[box b [.slice q l.length c] 282,own (.slice q l.length c) 284 3 l.length (flat fO l')]:=by
 obtain⟨N,hN⟩: ∃ N,l.length=N:=⟨_,rfl⟩;rw[hN] at hn hl ⊢;(refine Ye Tryz.func249 Tryz.ntmps249 ?_;intro Fr);refine bM ?_;(refine aC (σ:=Nat×List One) (fun x=>Dn l x.2 n i0 x.1∧x.1≤n) (fun x=>[(7, .int .i64 (x.1:Int))]) (fun x=>[own (.slice q N c) 284 3 N (flat fO x.2)]) _ (fun x=>n-x.1) ((i0,l)) (by exact⟨aIR hh,hi⟩) Ze Zb (fun⟨i,l1⟩ ⟨hd,zn⟩=> ?_);refine Da ?_);dsimp only at hd zn ⊢;have zm:l1.length=N:=by rw[hd.len,hN]
 have ok1: ∀ a∈l1,XQ a:=fun a ha=>zq a (hd.perm.mem_iff.1 ha)
 have zu:2*(i:Int)+1=((2*i+1:Nat):Int):=Z8
 have zr:((2*i+1:Nat):Int)+1=((2*i+2:Nat):Int):=Z8
 rcases ig (2*i+1) n with hlt|hge
 ·obtain⟨x,hx⟩: ∃ x,l1[i]? =some x:=⟨_,ak Z8⟩;obtain⟨y1,zy⟩: ∃ x,l1[2*i+1]? =some x:=⟨_,ak Z8⟩;have okx:=ok1 x (jg hx);have ok1y:=ok1 y1 (jg zy);have LS:=fun (i j:Nat) (x y:One) (h1:l1[i]? =some x) (h2:l1[j]? =some y) (h3:XQ x) (h4:XQ y)=>aIU q c l1 i j h1 h2 h3 h4
  have SW:=fun (i j:Nat) (x y:One) (h1:l1[i]? =some x) (h2:l1[j]? =some y) (h3:i≠j)=>alG q c l1 i j h1 h2 h3
  rw[zm] at LS SW;rcases ig (2*i+2) n with hlt2|hge2
  ·obtain⟨y2,zw⟩: ∃ x,l1[2*i+2]? =some x:=⟨_,ak Z8⟩;have ok2y:=ok1 y2 (jg zw);have L21:=LS (2*i+2) (2*i+1) y2 y1 zw zy ok2y ok1y;by_cases h21:better y2 y1=true
   ·rw[h21] at L21;have LJ:=LS (2*i+2) i y2 x zw hx ok2y okx;refine bM ?_;rw[zu,zr];refine aL wt rfl (fU rfl rfl (iZ aU) L21 rfl wY) ?_;rintro _ _ ⟨rfl,rfl⟩;refine bM ?_;by_cases hb:better y2 x=true
    ·rw[hb] at LJ;refine aL wt rfl (fU rfl rfl (iZ aU) LJ rfl wY) ?_;rintro _ _ ⟨rfl,rfl⟩;refine bM ?_;refine aL wt rfl (oV rfl rfl (iZ aU) (SW i (2*i+2) x y2 hx zw Z8) rfl wY) ?_;rintro _ _ ⟨_,⟨rfl,rfl⟩,rfl⟩;refine Da ?_;refine iC ?_;refine Ee ((2*i+2,swp l1 i (2*i+2) x y2)) ?_ ?_
     ·exact ⟨aeR hd Z8 hx zw Z8 Z8 hb (fun c z h1 h2 h3 h4 => by
      rcases h1 with rfl|rfl
      ·rw[zy] at h4;cases h4;exact yP h21
      ·exact absurd rfl h3), by dsimp only; omega⟩
     ·dsimp only;omega
    ·have zx:better y2 x=false:=by simpa using hb
     rw [zx] at LJ;have hD := PY hd (fun c a b h1 h2 h3 h4 => by
      rw[hx] at h4;cases h4;rcases h1 with rfl|rfl
      ·rw[zy] at h3;cases h3;exact LW ok1y ok2y okx (yP h21) zx
      ·rw [zw] at h3;cases h3;exact zx)
     refine aL wt rfl (fU rfl rfl (iZ aU) LJ rfl wY) ?_;rintro _ _ ⟨rfl,rfl⟩;by_cases zt:i0<i
     ·refine bM ?_;exact Ea (x:=⟨l1,true,hD,rfl,rfl⟩)
     ·refine bM ?_;exact Ea (x:=⟨l1,false,hD,rfl,rfl⟩)
   ·have zv:better y2 y1=false:=by simpa using h21
    rw[zv] at L21;have LJ:=LS (2*i+1) i y1 x zy hx ok1y okx;refine bM ?_;rw[zu,zr];refine aL wt rfl (fU rfl rfl (iZ aU) L21 rfl wY) ?_;rintro _ _ ⟨rfl,rfl⟩;refine bM ?_;by_cases hb:better y1 x=true
    ·rw[hb] at LJ;refine aL wt rfl (fU rfl rfl (iZ aU) LJ rfl wY) ?_;rintro _ _ ⟨rfl,rfl⟩;refine bM ?_;refine aL wt rfl (oV rfl rfl (iZ aU) (SW i (2*i+1) x y1 hx zy Z8) rfl wY) ?_;rintro _ _ ⟨_,⟨rfl,rfl⟩,rfl⟩;refine Da ?_;refine iC ?_;refine Ee ((2*i+1,swp l1 i (2*i+1) x y1)) ?_ ?_
     ·exact ⟨aeR hd Z8 hx zy Z8 Z8 hb (fun c z h1 h2 h3 h4 => by
      rcases h1 with rfl|rfl
      ·exact absurd rfl h3
      ·rw [zw] at h4;cases h4;exact zv), by dsimp only; omega⟩
     ·dsimp only;omega
    ·have zx:better y1 x=false:=by simpa using hb
     rw [zx] at LJ;have hD := PY hd (fun c a b h1 h2 h3 h4 => by
      rw[hx] at h4;cases h4;rcases h1 with rfl|rfl
      ·rw[zy] at h3;cases h3;exact zx
      ·rw [zw] at h3;cases h3;exact LW ok2y ok1y okx zv zx)
     refine aL wt rfl (fU rfl rfl (iZ aU) LJ rfl wY) ?_;rintro _ _ ⟨rfl,rfl⟩;by_cases zt:i0<i
     ·refine bM ?_;exact Ea (x:=⟨l1,true,hD,rfl,rfl⟩)
     ·refine bM ?_;exact Ea (x:=⟨l1,false,hD,rfl,rfl⟩)
  ·have LJ:=LS (2*i+1) i y1 x zy hx ok1y okx;refine bM ?_;rw[zu];by_cases hb:better y1 x=true
   ·rw[hb] at LJ;refine aL wt rfl (fU rfl rfl (iZ aU) LJ rfl wY) ?_;rintro _ _ ⟨rfl,rfl⟩;refine bM ?_;refine aL wt rfl (oV rfl rfl (iZ aU) (SW i (2*i+1) x y1 hx zy Z8) rfl wY) ?_;rintro _ _ ⟨_,⟨rfl,rfl⟩,rfl⟩;refine Da ?_;refine iC ?_;refine Ee ((2*i+1,swp l1 i (2*i+1) x y1)) ?_ ?_
    ·exact⟨aeR hd Z8 hx zy Z8 Z8 hb (fun c z h1 h2 h3 h4=>Z8),by dsimp only;omega⟩
    ·dsimp only;omega
   ·have zx:better y1 x=false:=by simpa using hb
    rw [zx] at LJ;have hD := PY hd (fun c a b h1 h2 h3 h4 => by
     rw[hx] at h4;cases h4;rcases h1 with rfl|rfl
     ·rw[zy] at h3;cases h3;exact zx
     ·omega)
    refine aL wt rfl (fU rfl rfl (iZ aU) LJ rfl wY) ?_;rintro _ _ ⟨rfl,rfl⟩;by_cases zt:i0<i
    ·refine bM ?_;exact Ea (x:=⟨l1,true,hD,rfl,rfl⟩)
    ·refine bM ?_;exact Ea (x:=⟨l1,false,hD,rfl,rfl⟩)
 ·have hf:CZ l1 n i:=fun c a b h1 h2=>Z8
  have hD:=PY hd hf;by_cases zt:i0<i
  ·refine bM ?_;exact Ea (x:=⟨l1,true,hD,rfl,rfl⟩)
  ·refine bM ?_;exact Ea (x:=⟨l1,false,hD,rfl,rfl⟩)
theorem aIV (b:Nat) (q:Option Addr) (c:Nat) (l:List One) (zw: ∀ a∈l,XQ a) (hl:l.length≤128):
  Ct lk 197 [.iface 286 (aH b 0)] [box b [.slice q l.length c] 282,own (.slice q l.length c) 284 3 l.length (flat fO l)]
   fun v H'=> ∃ l',(iM l' l.length 0∧l'.Perm l)∧v= .tuple #[]∧H'=[box b [.slice q l.length c] 282,own (.slice q l.length c) 284 3 l.length (flat fO l')]:=by
 obtain⟨N,hN⟩: ∃ N,l.length=N:=⟨_,rfl⟩;rw[hN] at hl ⊢;have zy:(N:Int)/2=((N/2:Nat):Int):=Z8
 have LN:=PX q N c;(refine Ye Tryz.func197 Tryz.ntmps197 ?_;intro Fr);refine bM ?_;refine aL wt rfl (fU rfl rfl (iZ aU) LN rfl wY) ?_;rintro _ _ ⟨rfl,rfl⟩;refine bM ?_;rw[zy];(refine aC (σ:=Nat×List One) (fun x=>(x.1≤N/2∧x.2.length=N)∧iM x.2 N x.1∧x.2.Perm l) (fun x=>[(3, .int .i64 ((x.1:Int)-1))]) (fun x=>[box b [.slice q N c] 282,own (.slice q N c) 284 3 N (flat fO x.2)]) _ (fun x=>x.1) ((N/2,l)) (by exact⟨⟨df _,hN⟩,azJ l N,List.Perm.refl _⟩) Ze Zb (fun⟨j,l1⟩ ⟨⟨hj,zx⟩,hh,hp⟩=> ?_);refine Da ?_);dsimp only at hj zx hh hp ⊢;cases j with
 |zero=>
  refine bM ?_;exact Eb (x:=⟨l1,⟨hh,hp⟩,rfl,rfl⟩)
 |succ i=>
  have zv:((i+1:Nat):Int)-1=(i:Int):=Z8
  rw[zv];have DW:=alH b q c l1 N i Z8 Z8 hh (fun a ha=>zw a (hp.mem_iff.1 ha)) Z8;rw[zx] at DW;refine bM ?_;(refine Ca (DW) ?_;rintro _ _ ⟨_,⟨l2,r,hD,rfl,rfl⟩,rfl⟩;refine Da ?_);refine iC ?_;refine Ee ((i,l2)) ?_ ?_
  ·exact⟨⟨by dsimp only;omega,by have:=hD.2.2.1;dsimp only;omega⟩,hD.1,hD.2.1.trans hp⟩
  ·dsimp only;omega
theorem aSI (q:Option Addr) (c:Nat) (l:List One) (m:Nat) {x y:One} (hx:l[0]? =some x) (hy:l[m]? =some y):Ct lk 381 [.slice q l.length c, .int .i64 0, .int .i64 (m:Int)] [own (.slice q l.length c) 284 3 l.length (flat fO l)] fun v H'=>v= .tuple #[]∧H'=[own (.slice q l.length c) 284 3 l.length (flat fO (if m=0 then l else swp l 0 m x y))]:=by
 by_cases hm:m=0
 ·subst hm;rw[Jg rfl];exact azN q c l 0 hx
 ·rw[Jf hm];exact alG q c l 0 m hx hy (fun h=>hm h.symm)
theorem aIW (b:Nat) (q:Option Addr) (c m:Nat) (l:List One) (hm:l.length=m+1) (zy: ∀ a∈l,XQ a) (hl:m≤127) (hh:iM l (m+1) 0):
  Ct lk 199 [.iface 286 (aH b 0)] [box b [.slice q (m+1) c] 282,own (.slice q (m+1) c) 284 3 (m+1) (flat fO l)]
   fun v H'=> ∃ x l',(l'.length=m∧iM l' m 0∧l.Perm (x::l')∧ ∀ a∈l',better a x=false)∧v= .iface 284 (.agg (fO x).toArray)∧H'=[box b [.slice q m c] 282,own (.slice q m c) 284 3 m (flat fO l')]:=by
 obtain⟨x,hx⟩: ∃ x,l[0]? =some x:=⟨_,ak Z8⟩;obtain⟨y,hy⟩: ∃ x,l[m]? =some x:=⟨_,ak Z8⟩;have LN:=PX q (m+1) c;have SW:=aSI q c l m hx hy;have zx:((m+1:Nat):Int)-1=(m:Int):=Z8
 obtain⟨l1,h1⟩: ∃ l1,l1=if m=0 then l else swp l 0 m x y:=⟨_,rfl⟩
 rw[←h1,hm] at SW;have PL:=fun l2=>aNS (l2:=l2) hm zy hh hx hy h1
 obtain⟨p1,p2,p3,_⟩:=PL [];have DW:=alH b q c l1 m 0 Z8 (fe _) p1 (fun a ha=>zy a (p2.mem_iff.1 ha)) Z8;rw[p3] at DW;(refine Ye Tryz.func199 Tryz.ntmps199 ?_;intro Fr);refine bM ?_;refine aL wt rfl (fU rfl rfl (iZ aU) LN rfl wY) ?_;rintro _ _ ⟨rfl,rfl⟩;refine bM ?_;rw[zx]
 skip
 refine aL wt rfl (oV rfl rfl (iZ aU) SW rfl wY) ?_;rintro _ _ ⟨_,⟨rfl,rfl⟩,rfl⟩;refine Da ?_;refine bM ?_;(refine Ca (DW) ?_;rintro _ _ ⟨_,⟨l2,r,hD,rfl,rfl⟩,rfl⟩;refine Da ?_);obtain⟨d1,d2,d3,d4⟩:=hD;obtain⟨_,_,_,p4⟩:=PL l2;obtain⟨e1,e2,e3,e4⟩:=p4 d1 d2 Z8 (d4 m (df _));have PP:=aNU b q c m l2 (x:=x) Z8 e1 Z8;rw[show l2.length=m+1 by omega] at PP;refine bM ?_;refine aL wt rfl (oV rfl rfl azL PP rfl wY) ?_;rintro _ _ ⟨_,⟨rfl,rfl⟩,rfl⟩;refine Da ?_;refine iC ?_;exact Ea (x:=⟨x,l2.dropLast,⟨by rw[List.length_dropLast];omega,e2,e3,e4⟩,rfl,rfl⟩)
end pick
namespace pick
open sl
def quF:List Int→List Int→Nat→List One
 |x::l,a::g,i=>(if 0<x then [((i:Int),x,a)] else [])++quF l g (i+1)
 |_,_,_=>[]
theorem aNV (g:List Int) (i:Nat):quF [] g i=[]:=by cases g<;>rfl
theorem aIX {l g:List Int} {i:Nat} {x a:Int} (hx:l[i]? =some x) (ha:g[i]? =some a):quF (l.drop i) (g.drop i) i=(if 0<x then [((i:Int),x,a)] else [])++quF (l.drop (i+1)) (g.drop (i+1)) (i+1):=by
 obtain⟨h1,e1⟩:=aj.1 hx;obtain⟨h2,e2⟩:=aj.1 ha;rw[bh h1,bh h2,e1,e2,quF]
def aSJ (live ages:List Int):Prop:=live.length≠ages.length∨128<live.length∨ ∃ (i:Nat) (x a:Int),live[i]? =some x∧ages[i]? =some a∧(x<0∨1000<x∨a<0∨2147483647<a)
def WL (live ages:List Int) (v:Value) (H':List Ent):Prop:=
 (∃ (os:List One) (q:Option Addr) (c:Nat), ¬ aSJ live ages∧os.Perm (quF live ages 0)∧os.Pairwise (fun a b=>better b a=false)∧(∀ a∈os,XQ a)∧v= .tuple #[.slice q os.length c, .int .i64 0]∧H'=[own (.slice q os.length c) 3 1 os.length (flat fI (os.map (·.1)))])∨
 aSJ live ages∧ ∃ e:Int,e≠0∧v= .tuple #[.slice none 0 0, .int .i64 e]∧H'=[]
instance {live ages:List Int}:Xcl (WL live ages):=by unfold WL;infer_instance
attribute [local irreducible] box own sl bL aH bJ Qt cN cM dG dL eQ
theorem abV (qa qb:Option Addr) (ca cb:Nat) (live ages:List Int) (h1:live.length≤maxLen) (h2:ages.length≤maxLen):
  Ct lk 131 [.slice qa live.length ca, .slice qb ages.length cb] [sl 1 (.slice qa live.length ca) (live.map fI),sl 1 (.slice qb ages.length cb) (ages.map fI)] (WL live ages):=by
 unfold maxLen at h1 h2;have hone: ∀ y, ∀ u∈fO y,u.oneCell'=true:=aSH;by_cases hlen:live.length=ages.length
 ·by_cases h128:128<live.length
  ·(refine Ye Tryz.func131 Tryz.ntmps131 ?_;intro Fr);refine bM ?_;exact Ea (x:= .inr ⟨.inr (.inl h128),2,Z9,rfl,rfl⟩)
  ·obtain⟨Q0,zm⟩: ∃ Q0,quF live ages 0=Q0:=⟨_,rfl⟩;unfold WL;rw[zm];(refine Ye Tryz.func131 Tryz.ntmps131 ?_;intro Fr);(refine bF ?_;intro b);refine aO (aS _ 284 3) ?_;(refine aC (σ:=Nat×Option Addr×Nat×List One) (fun x=>((x.1≤live.length∧x.2.2.2.length≤x.1)∧ ∀ (j:Nat) (u a:Int),j<x.1→live[j]? =some u→ages[j]? =some a→0≤u∧u≤1000∧0≤a∧a≤2147483647)∧Q0=x.2.2.2++quF (live.drop x.1) (ages.drop x.1) x.1∧ ∀ a∈x.2.2.2,XQ a) (fun x=>[(20, .int .i64 (x.1:Int))]) (fun x=>[box b [.slice x.2.1 x.2.2.2.length x.2.2.1] 282,own (.slice x.2.1 x.2.2.2.length x.2.2.1) 284 3 x.2.2.2.length (flat fO x.2.2.2)]) _ (fun x=>live.length-x.1) ((0,none,0,[])) (by exact⟨⟨⟨fe _,df _⟩,fun j u a h=>absurd h (mh _)⟩,zm.symm,fun a ha=>absurd ha ck⟩) Ze Zb (fun⟨i,q1,c1,l⟩ ⟨⟨⟨hi,zk⟩,zu⟩,hq,zt⟩=> ?_);refine Da ?_);dsimp only at hi zk zu hq zt ⊢;rcases ig i live.length with hlt|hge
   ·obtain⟨x,hx⟩: ∃ x,live[i]? =some x:=⟨_,ak hlt⟩;obtain⟨a,ha⟩: ∃ x,ages[i]? =some x:=⟨_,ak Z8⟩;rw[aIX hx ha] at hq;by_cases zn:x<0∨1000<x∨a<0∨2147483647<a
    ·(repeat' (first|refine Y3 ?_|(refine Ws ?_ ?_<;>intro h)|fail));all_goals first|(exfalso;omega)|exact Ea (x:= .inr ⟨.inr (.inr ⟨i,x,a,hx,ha,zn⟩),1,Z9,rfl,rfl⟩)
    ·have zw: ∀ (j:Nat) (u a:Int),j<i+1→live[j]? =some u→ages[j]? =some a→0≤u∧u≤1000∧0≤a∧a≤2147483647:=fun j u v hj hu hv=>by
      rcases (by omega:j<i∨j=i) with h|rfl
      ·exact zu j u v h hu hv
      ·rw[hx] at hu;rw[ha] at hv;cases hu;cases hv;omega
     by_cases zl:0<x
     ·rw[Jg zl, ←fu] at hq;refine kB ?_;(refine aD (Hq:=[_,_]) [0,3] [10] rfl Jd Za ?_);refine jV ?_;(refine aB 8 ?_;refine Oa (l:=by exact aT rfl rfl rfl Zp rfl rfl Z9 rfl) (k:= ?_);rintro _ _ ⟨q9,rfl,rfl⟩;refine Te ?_;(try refine Da ?_));(refine aB 9 ?_;refine Oa (l:=by exact (by first|exact Ma (fO) [((i:Int),x,a)] rfl|exact Mb (fO) [((i:Int),x,a)] rfl)) (k:= ?_);rintro _ _ ⟨q4,c4,rfl,rfl⟩;refine Te ?_;(try refine Da ?_));refine sO ?_;refine Ee ((i+1,q4,c4,l++[((i:Int),x,a)])) ?_ ?_
      ·refine⟨⟨⟨hlt,by dsimp only;rw[ae,gk];omega⟩,zw⟩,hq,fun z hz=> ?_⟩;rcases ei.1 hz with hz|hz
       ·exact zt z hz
       ·rw[eh.1 hz];exact⟨by dsimp only;omega,by dsimp only;omega,by dsimp only;omega,by dsimp only;omega⟩
      ·dsimp only;omega
     ·rw[Jf zl,dz] at hq;refine bM ?_;refine Ee ((i+1,q1,c1,l)) ?_ ?_
      ·exact⟨⟨⟨hlt,by dsimp only;omega⟩,zw⟩,hq,zt⟩
      ·dsimp only;omega
   ·have zj:i=live.length:=Z8
    subst zj;rw[abc,aNV,ke] at hq;subst hq;have zr: ¬ aSJ live ages:=fun h=>by
     rcases h with h|h|⟨j,u,v,g1,g2,g3⟩
     ·exact h hlen
     ·exact h128 h
     ·have:=zu j u v (aj.1 g1).1 g1 g2;omega
    have IN:=aIV b q1 c1 Q0 zt Z8;refine bM ?_;refine eK wt rfl (LX rfl rfl) ?_;(refine Ca (IN) ?_;rintro _ _ ⟨_,⟨l2,⟨hh,hp⟩,rfl,rfl⟩,rfl⟩;refine Da ?_);refine bM ?_;rw[←hp.length_eq];refine aO (aS _ 3 1) ?_;(refine aC (σ:=List One×Option Addr×Nat×List One) (fun x=>(iM x.1 x.1.length 0∧(x.2.2.2++x.1).Perm Q0)∧x.2.2.2.Pairwise (fun a b=>better b a=false)∧ ∀ a∈x.2.2.2, ∀ b∈x.1,better b a=false) (fun x=>[(9, .slice x.2.1 x.2.2.2.length x.2.2.1)]) (fun x=>[box b [.slice q1 x.1.length c1] 282,own (.slice q1 x.1.length c1) 284 3 x.1.length (flat fO x.1),own (.slice x.2.1 x.2.2.2.length x.2.2.1) 3 1 x.2.2.2.length (flat fI (x.2.2.2.map (·.1)))]) _ (fun x=>x.1.length) ((l2,none,0,[])) (by exact⟨⟨by rw[hp.length_eq];exact hh,hp⟩,ft,fun a ha=>absurd ha ck⟩) Ze Zb (fun⟨l,qo,co,os⟩ ⟨⟨zv,zy⟩,nE,zx⟩=> ?_);refine Da ?_);dsimp only at zv zy nE zx ⊢;have zq: ∀ a∈os++l,XQ a:=fun a ha=>zt a (zy.mem_iff.1 ha)
    have hlen2:os.length+l.length=Q0.length:=by have:=zy.length_eq;rwa [ae] at this
    have hml:(os.map (·.1)).length=os.length:=gp _;cases hl:l with
    |nil=>
     subst hl;rw[ke] at zy;have LN:=PX q1 0 c1;(repeat' (first|refine Y3 ?_|refine Wc (LN ..) ?_|fail));exact Ea (x:= .inl ⟨os,qo,co,zr,zy,nE,fun a ha=>zq a (jh _ ha),rfl,rfl⟩)
    |cons z l'=>
     rw[←hl];obtain⟨m,hm⟩: ∃ m,l.length=m+1:=⟨l'.length,by rw[hl];rfl⟩;have LN:=PX q1 (m+1) c1;have HP:=aIW b q1 c1 m l hm (fun a ha=>zq a (lp _ ha)) Z8 (by rw[←hm];exact zv);rw[hm];clear hl;(repeat' (first|refine Y3 ?_|refine Wc (LN ..) ?_|fail));refine eK wt rfl (LX rfl rfl) ?_;(refine Ca (HP) ?_;rintro _ _ ⟨_,⟨x,l3,⟨e1,e2,e3,e4⟩,rfl,rfl⟩,rfl⟩;refine Da ?_);refine eK wt rfl (azK rfl rfl) ?_;refine eK wt rfl (aCI (off:=0) rfl Jd rfl (rfl:(fO x)[0]? =some (.int .i64 x.1))) ?_;(repeat' (first|(refine Wq ?_;intro q)|fail));refine aL wt rfl (by first|exact Ma (fI) [x.1] rfl|exact Mb (fI) [x.1] rfl) ?_;rintro _ _ ⟨q5,c5,rfl,rfl⟩;have em:os.map (·.1)++[x.1]=(os++[x]).map (·.1):=Ja
     rw[em,gp];subst e1;refine iC ?_;refine Ee ((l3,q5,c5,os++[x])) ?_ ?_
     ·refine⟨⟨e2, ?_⟩, ?_, ?_⟩
      ·dsimp only;rw[fu];exact (List.Perm.append_left os e3.symm).trans zy
      ·refine List.pairwise_append.2 ⟨nE,List.pairwise_singleton _ _,fun a ha b hb=> ?_⟩;rw[eh.1 hb];exact zx a ha x (e3.mem_iff.2 bu)
      ·intro a ha b hb;rcases ei.1 ha with ha|ha
       ·exact zx a ha b (e3.mem_iff.2 (a8 _ hb))
       ·rw[eh.1 ha];exact e4 b hb
     ·dsimp only;omega
 ·(refine Ye Tryz.func131 Tryz.ntmps131 ?_;intro Fr);refine bM ?_;exact Ea (x:= .inr ⟨.inl hlen,1,Z9,rfl,rfl⟩)
end pick
