/- Law HandStale: its texts, packed. -/
import Derived.Test.YtbjalbcdbgcgdaaGreatK17
import Derived.Test.YtbjalbcdbgcgdaaGreatK15
import Derived.Test.YtbjalbcdbgcgdaaGreatK16
import Derived.Test.YtbjalbcdbgcgdaaGreatK00
import Derived.Laws.IdiomStrings
import Derived.ArgAppend
import Derived.Test.YtbjalbcdbgcgdaaGreatK07
open List renaming getD_eq_getElem?_getD->iw,getElem?_append_left->j9,getElem?_append_right->j7,getElem?_eq_getElem->aj,getElem?_eq_none->dz,getElem?_eq_some_iff->ah,getElem?_take->bp,length_append->ag
open Nat renaming add_assoc->bw,add_mul->an,div_add_mod->dp,div_div_eq_div_mul->j6,le_of_mul_le_mul_right->j8,le_refl->aq,lt_or_ge->iq,mod_lt->fc,mul_assoc->ig,mul_comm->ej,mul_le_mul_right->bz,mul_one->ao,one_mul->dq,pow_add->ju,pow_le_pow_right->ib,sub_self->jl,two_pow_pos->j5,zero_add->di,zero_le->fg
open Int renaming toNat_natCast->fq
open Option renaming some.inj->bf
open ByteArray renaming getElem_eq_getElem_data->ke
open Array renaming getElem?_eq_some_iff->aa
open Bool renaming true_and->ka
set_option linter.unusedVariables false
set_option maxRecDepth 100000
set_option maxHeartbeats 8000000
namespace Go.Proofs.YtbjalbcdbgcgdaaGreat.bits
open Go.RowKit bG
structure Reader (w:World) (a t:Nat) (at_:Nat) (s:ByteArray):Prop where
 ha:w.heap[a]? =some (.cells #[.int .i64 (at_:Int)] 3 (0,0))
 ht:w.heap[t]? =some (.cells #[.string s] 9 (0,0))
def LC (s:ByteArray) (at0 w:Nat):Nat:=pW s.data.toList/2^at0%2^w
theorem Reader.ne {w:World} {a t n:Nat} {s:ByteArray} (h:Reader w a t n s):t≠a:=by
 intro e;have:=h.ha;rw[←e,h.ht] at this;simp at this
theorem Reader.set {w:World} {a t n:Nat} {s:ByteArray} (h:Reader w a t n s) (m:Nat):Reader (w.setCell ⟨a,0,none⟩ (.int .i64 (m:Int))) a t m s:=
 ⟨by rw[heap_setCell_same _ _ _ _ _ _ h.ha];rfl,by rw[heap_setCell_other _ _ _ _ h.ne];exact h.ht⟩
theorem Reader.drew {w:World} {a t n:Nat} {s:ByteArray} (h:Reader w a t n s):Reader w.drew a t n s:=⟨h.ha,h.ht⟩
theorem amC (b:UInt8) (r tk:Nat) (h:tk≤8):bits BinOp.and IntKind.u64 (IntKind.u64.wrap ((b.toNat:Int)/2^r)) (IntKind.u64.wrap (IntKind.u64.wrap (2^tk)-1))=((b.toNat/2^r%2^tk:Nat):Int):=by
 have hb:=b.toNat_lt;have h1:(2:Nat)^tk≤2^8:=ib (by decide) h;have h2:0<(2:Nat)^tk:=j5 _;have h3:b.toNat/2^r≤b.toNat:=Nat.div_le_self _ _;have e1:IntKind.u64.wrap ((b.toNat:Int)/2^r)=((b.toNat/2^r:Nat):Int):=by
  rw[IntKind.wrap_u64,show ((b.toNat:Int)/2^r)=((b.toNat/2^r:Nat):Int) from by simp];generalize b.toNat/2^r=z at h3 ⊢;omega
 have e2:IntKind.u64.wrap (2^tk)=((2^tk:Nat):Int):=by
  rw[IntKind.wrap_u64,show ((2:Int)^tk)=((2^tk:Nat):Int) from by simp];omega
 have e3:IntKind.u64.wrap (((2^tk:Nat):Int)-1)=((2^tk-1:Nat):Int):=by
  rw[IntKind.wrap_u64];omega
 rw[e1,e2,e3,u64_and_nat _ _ (by omega) (by omega),Nat.and_two_pow_sub_one_eq_mod]
theorem atC (V P h tk:Nat) (hV:V<2^h) (hP:P<2^tk) (hh:h+tk≤64):bits BinOp.or IntKind.u64 (V:Int) (IntKind.u64.wrap ((P:Int)*2^h))=((V+P*2^h:Nat):Int):=by
 have h1:(P+1)*2^h≤2^tk*2^h:=bz _ hP;rw[←ju,an,dq] at h1;have h2:(2:Nat)^(tk+h)≤2^64:=ib (by decide) (by omega);have h3:0<(2:Nat)^h:=j5 _;have e:IntKind.u64.wrap ((P:Int)*2^h)=((P*2^h:Nat):Int):=by
  rw[IntKind.wrap_u64,show ((P:Int)*2^h)=((P*2^h:Nat):Int) from by simp];omega
 rw[e,u64_or_nat _ _ (by omega) (by omega)];congr 1;rw[Nat.or_comm,nat_join h (P*2^h) V (Nat.mul_mod_left _ _) hV];omega
theorem ZF (l:List UInt8) (q r tk:Nat) (b:UInt8) (hb:l[q]? =some b) (h:tk+r≤8):pW l/2^(8*q+r)%2^tk=b.toNat/2^r%2^tk:=by
 induction l generalizing q with
 |nil=>simp at hb
 |cons x l ih=>
  cases q with
  |zero=>
   simp at hb;subst hb;rw[lK,Nat.mul_zero,di,show 256=2^r*(2^tk*2^(8-(tk+r))) from by rw[←ju, ←ju,show r+(tk+(8-(tk+r)))=8 from by omega]];rw[ig,Nat.add_mul_div_left _ _ (j5 _),ig,Nat.add_mul_mod_self_left]
  |succ q=>
   have hx:=x.toNat_lt;rw[lK,show 8*(q+1)+r=8+(8*q+r) from by omega,ju, ←j6,show (x.toNat+256*pW l)/2^8=pW l from by omega];exact ih q (by simpa using hb)
theorem aeA (s:ByteArray) (at0 h tk q r:Nat) (hq:q<s.size) (he:at0+h=8*q+r) (ht:tk+r≤8):LC s at0 (h+tk)=LC s at0 h+s[q].toNat/2^r%2^tk*2^h:=by
 have e:=ZF s.data.toList q r tk s[q] (by rw[Lib.size_eq] at hq;simp [ke,aj hq]) ht;unfold LC;rw[←e, ←he,ju,ju,Nat.mod_mul, ←j6,ej]
attribute [local go_sem] bG.TX bG.HU
theorem atD (w at0 a t:Nat) (s:ByteArray) (W:World) (hr:Reader W a t at0 s) (hw:w≤64) (hle:at0+w≤8*s.size) (hs:s.size≤1000000000000000):
  Calls Tryz.prog 316 #[.int .i64 (w:Int), .pointer (some ⟨a,0,none⟩), .pointer (some ⟨t,0,none⟩)] W fun e w'=>e= .returned (.int .u64 ((LC s at0 w:Nat):Int))∧Reader w' a t (at0+w) s∧W.grownBy w' (some a):=by
 go_enter Tryz.func316,Tryz.ntmps316
 go_wp2_with (fail)
 have hlt0:t<W.heap.size:=(aa.1 hr.ht).1;have hne:some t≠some a:=by
  intro e;have:=hr.ha;rw[←bf e,hr.ht] at this;simp at this
 go_loopw [5,6] (fun v x wr=> ∃ h:Nat,h≤w∧x= .int .i64 (h:Int)∧v= .int .u64 ((LC s at0 h:Nat):Int)∧Reader wr a t (at0+h) s∧W.grownBy wr (some a)) (fun _ x _=>w-(intOf x).toNat)
 case atStart=>exact⟨0,fg _,rfl,by simp [LC,Nat.mod_one],hr,xC _ _⟩
 case round=>
  obtain⟨h,hh,rfl,rfl,hr1,hgr⟩:=hrel;by_cases hlt:h<w
  ·obtain⟨q,r,hqr,hr8⟩: ∃ q r,at0+h=8*q+r∧r<8:=⟨(at0+h)/8,(at0+h)%8,by omega,by omega⟩;obtain⟨at1,qE⟩: ∃ at1,at1=at0+h:=⟨_,rfl⟩;rw[←qE] at hr1 hqr;have e1:(at1:Int)%8=(r:Int):=by omega
   have e2:(at1:Int)/8=(q:Int):=by omega
   have hq:q<s.size:=by omega
   have hqI:(q:Int)<(s.size:Int):=by omega
   have hltI:(h:Int)<(w:Int):=by omega
   have c1:=cell_of_one hr1.ha;have c2:=cell_of_one hr1.ht;have f1:=free_of_one hr1.ha;obtain⟨V,hV⟩: ∃ V,V=LC s at0 h:=⟨_,rfl⟩;rw[←hV];have HV:=Lib.hid hV;have HQ:=Lib.hid hqr;have HA:=Lib.hid qE;clear hV hqr qE;obtain⟨tk,htk⟩: ∃ tk:Nat,min (8-(r:Int)) ((w:Int)-(h:Int))=(tk:Int):=⟨(min (8-(r:Int)) ((w:Int)-(h:Int))).toNat,by omega⟩;have ht1:1≤tk:=by omega
   have ht2:tk+r≤8:=by omega
   have ht3:h+tk≤w:=by omega
   have htI:(tk:Int)<64:=by omega
   have htI0:(0:Int)≤(tk:Int):=by omega
   go_wp2_with (fail)
   clear htk
   go_region
   rw[amC _ _ _ (by omega)];have hP:s[q].toNat/2^r%2^tk<2^tk:=fc _ (j5 _);have hN:=aeA s at0 h tk q r hq (by rw[←HA.out,HQ.out]) ht2;have hV:V<2^h:=by rw[HV.out];exact fc _ (j5 _)
   generalize s[q].toNat/2^r%2^tk=P at hP hN ⊢;rw[←HV.out] at hN;have hor:=atC V P h tk hV hP (by omega);have HN:=Lib.hid hN;obtain⟨V',hV'⟩: ∃ V',V'=V+P*2^h:=⟨_,rfl⟩;rw[←hV'] at hor;have HV':=Lib.hid hV';have hr2:=hr1.drew;have c1:=cell_of_one hr2.ha;have c2:=cell_of_one hr2.ht;have f1:=free_of_one hr2.ha;have hgr2:=acX hgr;generalize wr.drew=w2 at hr2 c1 c2 f1 hgr2 ⊢;clear hN hV' hV hP;have hgo:=akG hgr2 0 (.int .i64 ((at1+tk:Nat):Int));have hrd:=hr2.set (at1+tk);rw[HA.out,bw] at hrd hgo
   go_wp2_with (fail)
   refine⟨⟨h+tk,ht3,by simp,by rw[HN.out,HV'.out], ?_, ?_⟩,by show w-((h:Int)+(tk:Int)).toNat<w-((h:Int)).toNat;omega⟩
   ·have e:(at1:Int)+(tk:Int)=((at0+(h+tk):Nat):Int):=by rw[HA.out];omega
    rw[e];exact hrd
   ·have e:(at1:Int)+(tk:Int)=((at0+(h+tk):Nat):Int):=by rw[HA.out];omega
    rw[e];exact hgo
  ·obtain rfl:h=w:=by omega
   go_wp2_with (fail)
   go_ret
   exact⟨rfl,hr1,hgr⟩
end Go.Proofs.YtbjalbcdbgcgdaaGreat.bits
namespace Go.Proofs.YtbjalbcdbgcgdaaGreat.lens
open Go.RowKit bG
def xP (l:List Int):Nat→Nat
 |0=>0
 |w+1=>xP l w+(if w=0 then 0 else cnt l w*2^(15-w))
theorem qU (l:List Int) (w:Nat) (h:1≤w):xP l (w+1)=xP l w+cnt l w*2^(15-w):=by
 rw[xP,if_neg (by omega)]
theorem UY (l:List Int): ∀ w,1≤w→w≤15→DJ l w*2^(15-w)=xP l w:=by
 intro w;induction w with
 |zero=>intro h;omega
 |succ w ih=>
  intro h1 h15;cases w with
  |zero=>simp [DJ,xP]
  |succ w=>
   rw[KV _ _ (by omega),qU _ _ (by omega), ←ih (by omega) (by omega),ig, ←Nat.pow_succ',show (15-(w+1+1)).succ=15-(w+1) from by omega,an]
theorem amD (x:Int) (l:List Int): ∀ w,xP (x::l) w=xP l w+(if 1≤x∧x<(w:Int) then 2^(15-x.toNat) else 0):=by
 intro w;induction w with
 |zero=>
  rw[if_neg (by omega)];rfl
 |succ w ih=>
  cases w with
  |zero=>rw[if_neg (by omega)];simp [xP]
  |succ w=>
   rw[qU _ (w+1) (by omega),qU _ (w+1) (by omega),ih,cnt,an];by_cases h:x=((w+1:Nat):Int)
   ·subst h;rw[if_pos rfl,if_neg (by omega),if_pos (by omega)];simp;omega
   ·rw[if_neg h];by_cases h2:1≤x∧x<((w+1:Nat):Int)
    ·rw[if_pos h2,if_pos (by omega)];omega
    ·rw[if_neg h2,if_neg (by omega)];omega
theorem atE: ∀ l:List Int,(∀ x∈l,0≤x∧x≤15)→xP l 16=iF l:=by
 intro l;induction l with
 |nil=>intro _;simp [xP,iF,cnt]
 |cons x l ih=>
  intro h;have hx:=h x (by simp);rw[amD,iF,ih (fun y hy=>h y (by simp [hy])),wt];by_cases h0:0<x
  ·rw[if_pos h0,if_pos (by omega)];omega
  ·rw[if_neg h0,if_neg (by omega)];omega
theorem RL (l:List Int) (v:Nat): ∀ w,v≤w→xP l v≤xP l w:=by
 intro w;induction w with
 |zero=>intro h;rw[show v=0 from by omega];exact aq _
 |succ w ih=>
  intro h;by_cases he:v=w+1
  ·subst he;exact aq _
  ·have:=ih (by omega);rw[xP];omega
theorem ZG (l:List Int) (i j:Nat):cnt (l.take i) j≤cnt l j:=by
 have:=ahZ (l.take i) (l.drop i) j;rw[List.take_append_drop] at this;omega
def atS (l:List Int) (w i:Nat):Nat:=xP l w+cnt (l.take i) w*2^(15-w)
theorem atF {l:List Int} {i:Nat} {x:Int} (hp:l[i]? =some x) (w:Nat):atS l w (i+1)=atS l w i+(if x=(w:Int) then 2^(15-w) else 0):=by
 unfold atS;rw[qT hp,an];split<;>simp<;>omega
theorem atG {l:List Int} {i w:Nat} (hp:l[i]? =some (w:Int)) (h1:1≤w) (h15:w≤15):fM l i*2^(15-w)=atS l w i:=by
 rw[zV hp (by omega),nx,if_neg (by omega),an,UY l w h1 h15,atS]
theorem aEG (l:List Int) (hl: ∀ x∈l,0≤x∧x≤15) (w i:Nat) (h1:1≤w) (h15:w≤15):atS l w i≤iF l:=by
 have h:=RL l (w+1) 16 (by omega);rw[atE l hl,qU _ _ h1] at h;have h2:=bz (2^(15-w)) (ZG l i w);unfold atS;omega
theorem azK {l:List Int} (hl: ∀ x∈l,0≤x∧x≤15) (hf:iF l≤32768) {i w:Nat} (hp:l[i]? =some (w:Int)) (h1:1≤w) (h15:w≤15):fM l i*2^(15-w)+2^(15-w)≤iF l:=by
 have h:=atF hp w;rw[if_pos rfl] at h;have h2:=aEG l hl w (i+1) h1 h15;rw[atG hp h1 h15];omega
end Go.Proofs.YtbjalbcdbgcgdaaGreat.lens
namespace Go.Proofs.YtbjalbcdbgcgdaaGreat.code
open Go.RowKit bG sl lens flip Go.Proofs.YtbjalbcdbgcgdaaGreat.bits
theorem azL (s:List UInt8) (k:Nat):alY s k=pW s/2^k%2:=by
 unfold alY;rcases iq (k/8) s.length with h|h
 ·have hb:s[k/8]? =some s[k/8]:=aj h;have h1:=ZF s (k/8) (k%8) 1 _ hb (by omega);rw[dp,Nat.pow_one] at h1;rw[h1,iw,hb];rfl
 ·have h1:=aEE s;have h2:(256:Nat)^s.length=2^(8*s.length):=by rw[Nat.pow_mul]
  have h3:2^(8*s.length)≤2^k:=ib (by decide) (by omega);have h4:pW s/2^k=0:=Nat.div_eq_of_lt (by omega);rw[iw,dz h,h4];simp
theorem aEH {l:List Int} {w i:Nat} (hi:l[i]? =some (w:Int)): ∀ k,k≤l.length→i<k→(idx l w k)[cnt (l.take i) w]? =some (i:Int):=by
 intro k;induction k with
 |zero=>intro _ h;omega
 |succ k ih=>
  intro hk hik;obtain⟨y,hy⟩: ∃ y,l[k]? =some y:=⟨_,aj (by omega)⟩;rw[KW hy];rcases iq i k with h|h
  ·have h1:=ih (by omega) h;split
   ·rw[j9 (ah.1 h1).1];exact h1
   ·exact h1
  ·have hik2:i=k:=by omega
   subst hik2;rw[hy] at hi;rw[if_pos (bf hi), ←UW l w i (by omega),j7 (aq _),jl];rfl
theorem aEI {l:List Int} {w j:Nat} (h1:1≤w) (h15:w≤15) (hj:j<cnt l w):(oJ l 15)[(oJ l (w-1)).length+j]? =(idx l w l.length)[j]? :=by
 have hl:(idx l w l.length).length=cnt l w:=by have:=UW l w l.length (aq _);rwa [List.take_length] at this
 have key: ∀ b,w≤b→(oJ l b)[(oJ l (w-1)).length+j]? =(idx l w l.length)[j]? :=by
  intro b;induction b with
  |zero=>intro h;omega
  |succ b ih=>
   intro h;rw[oJ];rcases iq w (b+1) with h2|h2
   ·rw[j9,ih (by omega)];have h3:=ZB l w b (by omega);have h4:oJ l w=oJ l (w-1)++idx l w l.length:=by
     obtain⟨v,rfl⟩: ∃ v,w=v+1:=⟨w-1,by omega⟩;rfl
    rw[h4,ag,hl] at h3;omega
   ·have h3:w=b+1:=by omega
    subst h3;rw[Nat.add_sub_cancel,j7 (by omega),Nat.add_sub_cancel_left]
 exact key 15 h15
theorem amE (s:List UInt8) (k w:Nat):fZ (pW s/2^k) w*2+alY s (k+w)=fZ (pW s/2^k) (w+1):=by
 rw[azL,fZ,j6, ←ju]
end Go.Proofs.YtbjalbcdbgcgdaaGreat.code
namespace Go.Proofs.YtbjalbcdbgcgdaaGreat.code
open Go.RowKit bG sl lens flip Go.Proofs.YtbjalbcdbgcgdaaGreat.bits
theorem atH {l:List Int} {i v:Nat} (h:l[i]? =some (v:Int)):iA l (i:Int)=(((fZ (fM l i) v:Nat):Int),(v:Int)):=by
 have hd:l.getD i 0=(v:Int):=by rw[iw,h];rfl
 unfold iA;rw[fq,hd,fq]
end Go.Proofs.YtbjalbcdbgcgdaaGreat.code
namespace Go.Proofs.YtbjalbcdbgcgdaaGreat.code
open Go.RowKit bG sl lens flip Go.Proofs.YtbjalbcdbgcgdaaGreat.bits
theorem aeB {n c w:Nat} (hc:c<2^w) (h:n%2^w=fZ c w) {v:Nat} (hv:v≤w):fZ n v=c/2^(w-v):=by
 apply Nat.eq_of_testBit_eq;intro i;rw[RI,Nat.testBit_div_two_pow];by_cases hi:i<v
 ·have h1:(n%2^w).testBit (v-1-i)=(fZ c w).testBit (v-1-i):=by rw[h]
  rw[Nat.testBit_mod_two_pow,RI,decide_eq_true (by omega:v-1-i<w),ka,ka,show w-1-(v-1-i)=w-v+i by omega] at h1;rw[decide_eq_true hi,ka,h1,Nat.add_comm]
 ·rw[decide_eq_false hi,Bool.false_and];symm;apply Nat.testBit_lt_two_pow;exact Nat.lt_of_lt_of_le hc (ib (by decide) (by omega))
theorem LF {l:List Int} (h:cH l=0):iF l≤32768:=by
 unfold cH at h;split at h
 ·rename_i h9;exact absurd h h9
 ·split at h
  ·cases h
  ·omega
theorem amF {l:List Int} {s:List UInt8} {k w i:Nat} (hc:cH l=0) (hi:l[i]? =some (w:Int)) (hw:1≤w) (hn:pW s/2^k%2^w=fZ (fM l i) w) (hk:k+w≤8*s.length):one l s k=((i:Int),k+w,0):=by
 obtain⟨hl,hb⟩:=iL hc;have h15:w≤15:=by
  have:=(hb _ (List.mem_of_getElem? hi)).2;omega
 have hlt:=azK hb (LF hc) hi hw h15;have hfl:=LF hc;have hcode:=zV hi (by omega);unfold nx at hcode;rw[if_neg (by omega)] at hcode;have hcn:cnt (l.take i) w+1≤cnt l w:=by
  have h1:=qT hi w;rw[if_pos rfl] at h1;have h2:=ZG l (i+1) w;omega
 have hsum:=UY l w hw h15;obtain⟨c,hcc⟩: ∃ c,fM l i=c:=⟨_,rfl⟩;rw[hcc] at hlt hcode hn;have hcw:c<2^w:=by
  have h1:(c+1)*2^(15-w)≤2^w*2^(15-w):=by
   rw[←ju,show w+(15-w)=15 by omega,an,dq];omega
  exact j8 h1 (j5 _)
 have key: ∀ f v,f+v=16→v≤w→PM (fA l 16) (fR l 16) (fC l) (oJ l 15) s f v (fZ (pW s/2^k) v) (k+v)=((i:Int),k+w,0):=by
  intro f;induction f with
  |zero=>intro v h1 h2;omega
  |succ f ih=>
   intro v hv hvw;have hA:fA l 16 v=(DJ l v:Int):=by unfold fA;rw[if_pos (by omega)]
   have hR:fR l 16 v=((oJ l (v-1)).length:Int):=by unfold fR;rw[if_pos (by omega)]
   have hfr:=aeB hcw hn hvw;rw[PM];rcases iq v w with h1|h1
   ·have hC:0<v→fC l v=(cnt l v:Int):=fun h=>by unfold fC;rw[if_neg (by omega)]
    rw[if_neg,if_neg,if_neg,bw,amE]
    ·exact ih (v+1) (by omega) (by omega)
    ·omega
    ·have hlo:PL (fA l 16) (fC l) (fZ (pW s/2^k) v) v=true:=by
      refine (zW _ _ _ _).2 ⟨w,by omega,hvw, ?_⟩;have hAw:fA l 16 w=(DJ l w:Int):=by unfold fA;rw[if_pos (by omega)]
      have hCw:fC l w=(cnt l w:Int):=by unfold fC;rw[if_neg (by omega)]
      unfold ZA;rw[hAw,hCw,hfr];have g1:c/2^(w-v)*2^(w-v)≤c:=Nat.div_mul_le_self _ _;have g2:c<c/2^(w-v)*2^(w-v)+2^(w-v):=by
       have g3:=dp c (2^(w-v));have g4:=fc c (j5 (w-v));rw[ej] at g3;omega
      generalize c/2^(w-v)*2^(w-v)=z at*;generalize 2^(w-v)=p at*;refine⟨by omega,by omega,by omega⟩
     rw[hlo];decide
    ·rintro⟨h2,h3,h4⟩;rw[hA,hC h2,hfr] at h4;have h5:DJ l v+cnt l v≤c/2^(w-v):=by
      rw[Nat.le_div_iff_mul_le (j5 _)];have h6:=UY l v (by omega) (by omega);have h7:=qU l v (by omega);have h8:=RL l (v+1) w (by omega);have h9:(DJ l v+cnt l v)*2^(w-v)*2^(15-w)≤c*2^(15-w):=by
       rw[ig, ←ju,show w-v+(15-w)=15-v by omega,an,h6, ←h7];refine Nat.le_trans h8 ?_;rw[←hsum];exact bz _ (by omega)
      exact j8 h9 (j5 _)
     omega
   ·have hvw2:v=w:=by omega
    subst hvw2;have hC:fC l v=(cnt l v:Int):=by unfold fC;rw[if_neg (by omega)]
    rw[jl,Nat.pow_zero,Nat.div_one] at hfr;rw[hA,hC,hR,hfr,if_pos (by omega)];have hj:cnt (l.take i) v<cnt l v:=by omega
    have hil:i<l.length:=(ah.1 hi).1;rw[show (((oJ l (v-1)).length:Int)+(c:Int)-(DJ l v:Int)).toNat=(oJ l (v-1)).length+cnt (l.take i) v by omega,iw,aEI hw h15 hj,aEH hi l.length (aq _) hil];rfl
 exact key 16 0 rfl (fg _)
end Go.Proofs.YtbjalbcdbgcgdaaGreat.code
namespace Go.Proofs.YtbjalbcdbgcgdaaGreat.code
open Go.RowKit bG sl lens flip Go.Proofs.YtbjalbcdbgcgdaaGreat.bits
theorem LG {ps:List (Int×Int)} (h: ∀ p∈ps, ∃ a v:Nat,a<2^v∧v≤15∧p=((a:Int),(v:Int))):cO ps=0∧total ps≤15*ps.length:=by
 induction ps with
 |nil=>exact⟨rfl,aq _⟩
 |cons p ps ih=>
  obtain⟨a,v,h1,h2,rfl⟩:=h p List.mem_cons_self;obtain⟨h3,h4⟩:=ih fun q hq=>h q (List.mem_cons_of_mem _ hq)
  refine⟨?_, ?_⟩
  ·rw[cO,pO _ _ (by omega),if_pos h1,if_pos rfl];exact h3
  ·rw[total,List.length_cons];simp only[fq];omega
end Go.Proofs.YtbjalbcdbgcgdaaGreat.code
namespace Go.Proofs.YtbjalbcdbgcgdaaGreat.bG
end Go.Proofs.YtbjalbcdbgcgdaaGreat.bG
namespace Go.Proofs.YtbjalbcdbgcgdaaGreat.bG
open Go.RowKit
def LH (w:World) (B:Nat) (e:TypeId) (v:Value) (l:List UInt8):Prop:=
 ∃ (g cap:Nat) (cur:Array Value) (fr:Nat×Nat),v= .slice (some ⟨g,0,none⟩) l.length cap∧B≤g∧w.heap[g]? =some (.cells cur e fr)∧(fr=(0,0)∨cap≤fr.1)∧l.length≤cap∧cap≤maxLen∧cur.size=cap∧
  cur.toList.take l.length=aP l
theorem LH.kept {w w':World} {B:Nat} {e:TypeId} {v:Value} {l:List UInt8} (h:LH w B e v l) (hg:w.grownBy w' none):LH w' B e v l:=by
 obtain⟨g,cap,cur,fr,rfl,h1,h2,r⟩:=h;exact⟨g,cap,cur,fr,rfl,h1,by rw[hg.block g (aa.1 h2).1 (by simp)];exact h2,r⟩
theorem LH.str {P:Program} {w:World} {B src dst e:TypeId} {v:Value} {l:List UInt8} (h:LH w B e v l) (hs:P.underlying src=some (.slice e)) (he:P.underlying e=some (.int .u8)) (hd:P.underlying dst=some .string):(convert src dst v).run P w= .ok (.string ⟨l.toArray⟩) w:=by
 obtain⟨g,cap,cur,fr,rfl,h1,h2,h3,h4,h5,h6,h7⟩:=h;refine run_convert_bytes_back w src dst e ⟨g,0,none⟩ cap l hs he hd ?_;intro j hj;have hadd:(⟨g,0,none⟩:Addr).add j=⟨g,j,none⟩:=by unfold Addr.add;split<;>simp_all
 rw[hadd,cell_of_row _ _ _ _ _ _ h2];have e1:(cur.toList.take l.length)[j]? =some (.int .u8 (l[j].toNat:Int)):=by rw[h7];simp [aP,hj]
 rw[bp,if_pos hj] at e1;simpa using e1
theorem DL {P:Program} {w0 w:World} {ops:Array Oper} {rest:List Oper} {o:Oper} {a:Act} {Q:Exit→Act→World→Prop} (hgd:o.guard=none) (src dst e:TypeId) (x:Operand) (ho:o.op= .convert src dst x) (hs:P.underlying src=some .string) (hd:P.underlying dst=some (.slice e)) (he:P.underlying e=some (.int .u8)) (s:ByteArray) (hsz:s.size≤maxLen) (hx:a.eval x= .string s) {B:Nat} (hb:Below B w0 w) (hB:B≤w.heap.size) (h: ∀ v w',LH w' B e v s.data.toList→Below B w0 w'→wpList P ops Q rest (a.put o.dst v) w'):wpList P ops Q (o::rest) a w:=by
 refine wpList_plain hgd fun K hK=> ?_
 unfold Oper.wp execOp;simp only[ho,hx,Sem.run_bind,Sem.run_pure,Result.andThen_ok,run_bytes_of_string w src dst e s hs hd he];have hge:=grownCap_ge w s.size 0 e;have hsz2:(bytesRow s (grownCap w s.size 0 e)).size=grownCap w s.size 0 e:=by
  simp [bytesRow];have:s.data.size=s.size:=rfl;omega
 refine hK _ _ (h _ _ ⟨w.heap.size,grownCap w s.size 0 e,_,_, ?_,hB,heap_alloc_new w.drew _, .inr ?_, ?_,grownCap_le_maxLen w s.size 0 e hsz,hsz2, ?_⟩ (hb.drew.alloc hB _))
 ·rw[←Lib.size_eq]
 ·rw[hsz2];exact aq _
 ·rw[←Lib.size_eq];exact hge
 ·simp [bytesRow,aP]
theorem UZ {P:Program} {t e:TypeId} {z:Value} (hT:iU P t e 1 1 z) (ty:TypeId) {w:World} {B:Nat} {v:Value} {l:List UInt8} (hown:LH w B e v l) (b:UInt8) (ad:Addr) (hc:w.cell? ad=some (.int .u8 (b.toNat:Int))) (hl:l.length+1≤1000000) (hB:B≤w.heap.size): ∃ v' w',(Builtin.append_ #[t,t] ty #[v, .slice (some ad) 1 1]).run P w= .ok v' w'∧LH w' B e v' (l++[b])∧Below B w w':=by
 obtain⟨h1,h2,h3,i,hi1,hi2,hi3,hi4⟩:=hT;obtain⟨g,cap,cur,fr,rfl,k1,k2,k3,k4,k5,k6,k7⟩:=hown;have hadd: ∀ (a:Addr),a.add 0=a:=fun a=>by simp [Addr.add]
 have hnew: ∀ j u,[Value.int .u8 (b.toNat:Int)][j]? =some u→w.cell? (ad.add j)=some u:=by
  intro j u hj
  match j,hj with
  |0,hj=>rw[hadd,hc];simpa using hj
 have hcell: ∀ j u,(aP l)[j]? =some u→w.cell? ⟨g,j,none⟩=some u:=by
  intro j u hj;rw[←k7,bp] at hj;split at hj
  ·rw[cell_of_row _ _ _ _ _ _ k2];simpa using hj
  ·cases hj
 have hlb:(aP l).length=l.length:=by simp [aP]
 by_cases hr:l.length+1≤cap
 ·have hrun:=run_append_room_cells (P:=P) w t ty e i h1 hi1 g 0 l.length cap ad 1 1 [.int .u8 (b.toNat:Int)] (by simp [hi3]) hnew (by simp [Value.oneCell']) hr
   (fun j hj => by
    have hj0:j=0:=by simpa using hj
    subst hj0;rw [cell_of_row _ _ _ _ _ _ k2, hi3];simp;omega)
   (fun j hj => by
    have hj0:j=0:=by simpa using hj
    subst hj0;simp [World.frozen?,k2,hi3];rcases k3 with rfl|k3
    ·simp
    ·omega)
  refine⟨_,_,hrun,⟨g,cap,cur.setIfInBounds l.length (.int .u8 (b.toNat:Int)),fr,by simp,k1, ?_,k3,by simpa using hr,k5,by simpa using k6, ?_⟩, ?_⟩
  ·simp only[hi3,di,ao,World.setCells];rw[setCell_eq_setRow w g l.length cur e fr _ k2];exact setRow_heap w g cur _ e _ k2
  ·rw[←eI l b _ rfl, ←k7];apply List.ext_getElem?;intro j;simp only[Array.toList_setIfInBounds,ag,List.length_singleton,bp,List.getElem?_set,List.getElem?_append,List.length_take,Array.length_toList];by_cases h5:j<l.length
   ·rw[if_pos (by omega),if_neg (by omega),if_pos (by omega),if_pos (by omega)]
   ·by_cases h6:j=l.length
    ·subst h6;rw[if_pos (by omega),if_pos rfl,if_pos (by omega),if_neg (by omega)];rw[show l.length-min l.length cur.size=0 from by omega];rfl
    ·rw[if_neg (by omega),if_neg (by omega)];symm;apply dz;simp;omega
  ·simp only[hi3,di,ao,World.setCells];exact (Below.refl _ _).setCell (p:=⟨g,l.length,none⟩) k1 _
 ·obtain ⟨v', w', hrun, r1, r2⟩ := run_append_arg_grows (P := P) w t ty e i z 1 1 h1 hi1 hi2 hi3 hi4 h2 h3 ⟨g, 0, none⟩ l.length cap (aP l) (by simp [aP]) (fun j u hj => by
    have:(⟨g,0,none⟩:Addr).add j=⟨g,j,none⟩:=by unfold Addr.add;split<;>simp_all
    rw [this]; exact hcell j u hj) ad 1 1 [.int .u8 (b.toNat : Int)] (by simp) hnew (by omega) Zh (by omega)
  refine⟨v',w',hrun, ?_,⟨r2.os,r2.tape,r2.output,r2.size,fun k hk=>r2.block k (by omega) (by simp)⟩⟩;rw[eI l b _ rfl] at r1;rcases r1.2 with⟨rfl,h0⟩|⟨g2,cap2,cur2,rfl,hb2,hg2,m1,m2,m3,m4⟩
  ·omega
  ·exact⟨g2,cap2,cur2,_,by simp,by omega,hg2, .inl rfl,by simpa using m1,m2,by simpa using m3,by simpa using m4⟩
theorem LI {P:Program} {w:World} {B:Nat} {t e:TypeId} {z:Value} (hT:iU P t e 1 1 z) {ops:Array Oper} {rest:List Oper} {o:Oper} {a:Act} {Q:Exit→Act→World→Prop} (hgd:o.guard=none) (s x:Operand) (ho:o.op= .call { callee:= .builtin .append,args:= #[s,x],argTypes:= #[t,t] })
  (v:Value) (l:List UInt8) (n:Int) (b:UInt8) (hn:n=(b.toNat:Int)) (hs:a.eval s=v) (hx:a.eval x= .slice (some ⟨w.heap.size,0,none⟩) 1 1)
  (hown:LH w B e v l) (hl:l.length+1≤1000000) (hB:B≤w.heap.size)
  (h: ∀ v' w',LH w' B e v' (l++[b])→Below B w w'→wpList P ops Q rest (a.put o.dst v') w'):
  wpList P ops Q (o::rest) a (w.alloc (.cells #[.int .u8 n] e)):=by
 subst hn;refine wpList_plain hgd fun K hK=> ?_
 obtain⟨v',w',hrun,r1,r2⟩:=UZ hT o.type (hown.kept (World.grownBy_alloc w (.cells #[.int .u8 (b.toNat:Int)] e) none)) b ⟨w.heap.size,0,none⟩ (aqI rfl rfl) hl (by simp;omega);unfold Oper.wp;simp [execOp,ho,resolve,invoke,builtin,hs,hx,hrun,Result.andThen];exact hK _ _ (h v' w' r1 (((Below.refl B w).alloc hB _).trans r2))
end Go.Proofs.YtbjalbcdbgcgdaaGreat.bG
