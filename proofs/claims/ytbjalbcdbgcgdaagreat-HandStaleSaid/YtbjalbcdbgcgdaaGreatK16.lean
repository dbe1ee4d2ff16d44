/- Law HandStale: its texts, packed. -/
import Derived.Test.YtbjalbcdbgcgdaaGreatK15
import Derived.Test.YtbjalbcdbgcgdaaGreatK07
import Derived.Test.YtbjalbcdbgcgdaaGreatRows
import Derived.Test.YtbjalbcdbgcgdaaGreatK00
open List renaming getD_eq_getElem?_getD->iw,getElem?_eq_getElem->aj,getElem?_eq_none->dz,length_append->ag,length_singleton->df,mem_of_getElem?->jm,range->jn,take_length->jb
open Nat renaming add_sub_cancel->jo,div_le_self->js,le_refl->aq,lt_of_le_of_lt->jq,lt_or_ge->iq,mod_lt->fc,mul_le_mul->jt,pow_le_pow_right->ib,pow_succ->gu,zero_le->fg
open Int renaming eq_ofNat_of_zero_le->iy,toNat_natCast->fq
open Decidable renaming byContradiction->jh,not_not->ir
open Bool renaming eq_false_iff->jr
set_option linter.unusedVariables false
set_option maxRecDepth 100000
set_option maxHeartbeats 8000000
namespace Go.Proofs.YtbjalbcdbgcgdaaGreat.code
open Go.RowKit bG sl lens
instance:Arr Tryz.prog 349 16 3:=⟨by kernel_rfl⟩
def sY (q:Value) (A R C:Nat→Int):List Value:=q::((jn 16).map fun i=>Value.int .i64 (A i))++((jn 16).map fun i=>Value.int .i64 (R i))++((jn 16).map fun i=>Value.int .i64 (C i))
theorem hU (q:Value) (A R C:Nat→Int):(sY q A R C).length=49:=rfl
theorem aGE (q:Value) (A R C:Nat→Int):(sY q A R C)[0]? =some q:=rfl
theorem aGF {q:Value} {A R C:Nat→Int} {i:Nat} (h:i<16):(sY q A R C)[1+i]? =some (.int .i64 (A i)):=by
 obtain rfl|rfl|rfl|rfl|rfl|rfl|rfl|rfl|rfl|rfl|rfl|rfl|rfl|rfl|rfl|rfl:i=0∨i=1∨i=2∨i=3∨i=4∨i=5∨i=6∨i=7∨i=8∨i=9∨i=10∨i=11∨i=12∨i=13∨i=14∨i=15:=by omega
 all_goals rfl
theorem aGG {q:Value} {A R C:Nat→Int} {i:Nat} (h:i<16):(sY q A R C)[17+i]? =some (.int .i64 (R i)):=by
 obtain rfl|rfl|rfl|rfl|rfl|rfl|rfl|rfl|rfl|rfl|rfl|rfl|rfl|rfl|rfl|rfl:i=0∨i=1∨i=2∨i=3∨i=4∨i=5∨i=6∨i=7∨i=8∨i=9∨i=10∨i=11∨i=12∨i=13∨i=14∨i=15:=by omega
 all_goals rfl
theorem aGH {q:Value} {A R C:Nat→Int} {i:Nat} (h:i<16):(sY q A R C)[33+i]? =some (.int .i64 (C i)):=by
 obtain rfl|rfl|rfl|rfl|rfl|rfl|rfl|rfl|rfl|rfl|rfl|rfl|rfl|rfl|rfl|rfl:i=0∨i=1∨i=2∨i=3∨i=4∨i=5∨i=6∨i=7∨i=8∨i=9∨i=10∨i=11∨i=12∨i=13∨i=14∨i=15:=by omega
 all_goals rfl
def upf (A:Nat→Int) (i:Nat) (x:Int):Nat→Int:=fun j=>if j=i then x else A j
theorem ayZ (q q':Value) (A R C:Nat→Int):(sY q A R C).set 0 q'=sY q' A R C:=rfl
theorem azA {q:Value} {A R C:Nat→Int} {i:Nat} {x:Int} (h:i<16):(sY q A R C).set (1+i) (.int .i64 x)=sY q (upf A i x) R C:=by
 obtain rfl|rfl|rfl|rfl|rfl|rfl|rfl|rfl|rfl|rfl|rfl|rfl|rfl|rfl|rfl|rfl:i=0∨i=1∨i=2∨i=3∨i=4∨i=5∨i=6∨i=7∨i=8∨i=9∨i=10∨i=11∨i=12∨i=13∨i=14∨i=15:=by omega
 all_goals rfl
theorem azB {q:Value} {A R C:Nat→Int} {i:Nat} {x:Int} (h:i<16):(sY q A R C).set (17+i) (.int .i64 x)=sY q A (upf R i x) C:=by
 obtain rfl|rfl|rfl|rfl|rfl|rfl|rfl|rfl|rfl|rfl|rfl|rfl|rfl|rfl|rfl|rfl:i=0∨i=1∨i=2∨i=3∨i=4∨i=5∨i=6∨i=7∨i=8∨i=9∨i=10∨i=11∨i=12∨i=13∨i=14∨i=15:=by omega
 all_goals rfl
theorem aiB {q:Value} {A R C:Nat→Int} {i:Nat} {x:Int} (h:i<16):(sY q A R C).set (33+i) (.int .i64 x)=sY q A R (upf C i x):=by
 obtain rfl|rfl|rfl|rfl|rfl|rfl|rfl|rfl|rfl|rfl|rfl|rfl|rfl|rfl|rfl|rfl:i=0∨i=1∨i=2∨i=3∨i=4∨i=5∨i=6∨i=7∨i=8∨i=9∨i=10∨i=11∨i=12∨i=13∨i=14∨i=15:=by omega
 all_goals rfl
def idx (l:List Int) (w k:Nat):List Int:=((jn k).filter fun i=>l[i]? =some (w:Int)).map fun i:Nat=>(i:Int)
theorem asR (l:List Int) (w:Nat):idx l w 0=[]:=rfl
theorem KW {l:List Int} {w k:Nat} {x:Int} (h:l[k]? =some x):idx l w (k+1)=if x=(w:Int) then idx l w k++[(k:Int)] else idx l w k:=by
 unfold idx;rw[List.range_succ,List.filter_append,List.map_append];by_cases hx:x=(w:Int)
 ·rw[if_pos hx];simp [h,hx]
 ·rw[if_neg hx];simp [h,hx]
theorem aiC (l:List Int) (w k:Nat):(idx l w k).length≤k:=by
 unfold idx;rw[List.length_map];have:=List.length_filter_le (fun i=>decide (l[i]? =some (w:Int))) (jn k);simpa using this
def oJ (l:List Int):Nat→List Int
 |0=>[]
 |w+1=>oJ l w++idx l (w+1) l.length
theorem aiD (l:List Int) (w:Nat):(oJ l w).length≤w*l.length:=by
 induction w with
 |zero=>simp [oJ]
 |succ w ih=>
  rw[oJ,ag,Nat.add_mul];have:=aiC l (w+1) l.length;omega
def fA (l:List Int) (w j:Nat):Int:=if j<w then (DJ l j:Int) else 0
def fR (l:List Int) (w j:Nat):Int:=if j<w then ((oJ l (j-1)).length:Int) else 0
def fC (l:List Int) (j:Nat):Int:=if j=0 then 0 else (cnt l j:Int)
def DK (l:List Int) (j:Nat):Int:=(cnt l j:Int)
theorem aCV (l:List Int) (j:Nat):0≤fC l j∧fC l j≤(l.length:Int):=by
 unfold fC;have:=DI l j;split<;>omega
theorem azC (l:List Int) (w:Nat):upf (fA l w) w (DJ l w:Int)=fA l (w+1):=by
 funext j;unfold upf fA;by_cases h:j=w
 ·subst h;rw[if_pos rfl,if_pos (by omega)]
 ·rw[if_neg h];by_cases h2:j<w
  ·rw[if_pos h2,if_pos (by omega)]
  ·rw[if_neg h2,if_neg (by omega)]
theorem azD (l:List Int) (w:Nat):upf (fR l w) w ((oJ l (w-1)).length:Int)=fR l (w+1):=by
 funext j;unfold upf fR;by_cases h:j=w
 ·subst h;rw[if_pos rfl,if_pos (by omega)]
 ·rw[if_neg h];by_cases h2:j<w
  ·rw[if_pos h2,if_pos (by omega)]
  ·rw[if_neg h2,if_neg (by omega)]
theorem alW {l:List Int} {k m:Nat} (h:l[k]? =some (m:Int)):upf (DK (l.take k)) m (DK (l.take k) m+1)=DK (l.take (k+1)):=by
 funext j;unfold upf DK;rw[qT h];by_cases hj:j=m
 ·subst hj;rw[if_pos rfl,if_pos rfl];omega
 ·rw[if_neg hj,if_neg (by omega)];omega
theorem asS (l:List Int):upf (DK l) 0 0=fC l:=by
 funext j;unfold upf DK fC;rfl
theorem aDY (l:List Int) {w:Nat} (h:1≤w):((DJ l (w-1):Int)+fC l (w-1))*2=(DJ l w:Int):=by
 obtain⟨v,rfl⟩: ∃ v,w=v+1:=⟨w-1,by omega⟩;rw[jo];cases v with
 |zero=>simp [DJ,fC]
 |succ v=>simp [DJ,fC]
end Go.Proofs.YtbjalbcdbgcgdaaGreat.code
namespace Go.Proofs.YtbjalbcdbgcgdaaGreat.code
open Go.RowKit bG sl lens
attribute [local irreducible] sY
attribute [local irreducible] box own sl gH aH bC Qt cJ cG dC dG eO
def KX (q:Option Addr) (c:Nat) (l:List Int):List Value:=sY (.slice q (oJ l 15).length c) (fA l 16) (fR l 16) (fC l)
theorem azE:sY (.slice none 0 0) (fun _=>0) (fun _=>0) (fun _=>0)= .slice none 0 0::List.replicate 48 (.int .i64 0):=by unfold sY;rfl
theorem aDZ (l:List Int):(fun _=>0)=fA l 1:=by
 funext j;unfold fA;split
 ·rename_i h;rw[show j=0 by omega];rfl
 ·rfl
theorem aEA (l:List Int):(fun _=>0)=fR l 1:=by
 funext j;unfold fR;split
 ·rename_i h;rw[show j=0 by omega];rfl
 ·rfl
theorem rZ {cs us:List Value} (h:us.length=cs.length):eQ cs 0 us=us:=by
 rw[iO _ _ _ (by omega)];simp [h]
theorem alX (l:List Int):(fun _=>0)=DK (l.take 0):=by
 funext j;rfl
theorem KY (q:Option Addr) (c:Nat) (l:List Int) (hg: ∀ x∈l,0≤x∧x≤15) (hn:l.length≤320):
  Ct Tryz.prog 314 [.slice q l.length c] [sl 1 (.slice q l.length c) (l.map fI)] fun v H'=> ∃ q2 c2,v= .agg (KX q2 c2 l).toArray∧H'=[own (.slice q2 (oJ l 15).length c2) 3 1 (oJ l 15).length (flat fI (oJ l 15))]:=by
 unfold KX;(refine Ye Tryz.func314 Tryz.ntmps314 ?_;intro Fr);(repeat' (first|refine Wa ?_|refine We ?_|(refine Wb ?_;intro b)|fail));rename_i b2;refine aT (H':=box b (sY (.slice none 0 0) (fA l 1) (fR l 1) (DK (l.take 0))) 351::box b2 (sY (.slice none 0 0) (fA l 1) (fR l 1) (DK (l.take 0))) 351::sl 1 (.slice q l.length c) (l.map fI)::Fr) ?_ ?_
 ·rw[←aDZ l, ←aEA l, ←alX l,azE];exact HSub.refl _
 (refine aC (σ:=Nat) (fun k=>k≤l.length) (fun k=>[(12, .int .i64 (k:Int))]) (fun k=>[box b (sY (.slice none 0 0) (fA l 1) (fR l 1) (DK (l.take k))) 351]) _ (fun k=>l.length-k) (0) Zp (by exact gA) Zb (fun k hk=> ?_);refine Da ?_);rcases iq k l.length with hlt|hge
 ·obtain⟨x,hx⟩: ∃ x,l[k]? =some x:=⟨_,aj hlt⟩;obtain⟨hx0,hx15⟩:=hg x (jm hx);obtain⟨m,rfl⟩:=iy hx0;have hcn:=alW hx;have hcb:0≤DK (l.take k) m∧DK (l.take k) m≤320:=by
   unfold DK;have:=DI (l.take k) m;rw[List.length_take] at this;omega
  (repeat' (first|refine We1 ?_|refine Wa ?_|refine We ?_|fail));refine cM wt (bW rfl rfl rfl rfl aN (by rw[hU];simp;omega) (aiB (by omega))) ?_;rintro _ _ ⟨rfl,rfl⟩;rw[hcn];refine eU ?_;refine Ee (k+1) ?_ ?_
  ·omega
  ·omega
 ·have hkl:k=l.length:=by omega
  subst hkl;refine aZ ?_;rw[jb];refine gK 3 rfl wt rfl (tV (k:=0) rfl rfl rfl rfl (by omega) rfl) ?_;refine cM wt (bW rfl rfl rfl rfl aN (by rw[hU];rfl) (aiB (i:=0) (by omega))) ?_;rintro _ _ ⟨rfl,rfl⟩;rw[asS];refine aZ ?_;refine aT (aY _ 3 1) ?_;(refine aC (σ:=Nat×Option Addr×Nat×List Int) (fun x=>1≤x.1∧x.1≤16∧x.2.2.2=oJ l (x.1-1)) (fun x=>[(6, .int .i64 ((DJ l (x.1-1):Nat):Int)),(7, .int .i64 (x.1:Int))]) (fun x=>[box b (sY (.slice x.2.1 x.2.2.2.length x.2.2.1) (fA l x.1) (fR l x.1) (fC l)) 351,own (.slice x.2.1 x.2.2.2.length x.2.2.1) 3 1 x.2.2.2.length (flat fI x.2.2.2)]) _ (fun x=>16-x.1) ((1,none,0,[])) (by exact⟨aq _,by decide,rfl⟩) (by exact gA) Zb (fun⟨w,q2,c2,sg⟩ ⟨hw1,hw16,hsg⟩=> ?_);refine Da ?_);dsimp only at hw1 hw16 hsg ⊢;rcases iq w 16 with hlt|hge
  ·have hw':(w:Int)-1=((w-1:Nat):Int):=by omega
   have hnb:=UU l hn (w-1) (by omega);have hcb:=aCV l (w-1);have hnf:=aDY l hw1;have hfa:=azC l w;have hfr:=azD l w;rw[←hsg] at hfr;have hsl:sg.length≤4800:=by
    rw[hsg];have h1:=aiD l (w-1);have h2:(w-1)*l.length≤15*320:=jt (by omega) hn;omega
   (repeat' (first|refine We1 ?_|refine Wa ?_|refine We ?_|fail));rw[hnf];refine cM wt (bW rfl rfl rfl rfl aN (by rw[hU];simp;omega) (azA (by omega))) ?_;rintro _ _ ⟨rfl,rfl⟩;rw[hfa];(repeat' (first|refine We1 ?_|refine Wa ?_|refine We ?_|fail));refine cM wt (bW rfl rfl rfl rfl aN (by rw[hU];simp;omega) (azB (by omega))) ?_;rintro _ _ ⟨rfl,rfl⟩;rw[hfr];refine aZ ?_;(refine aC (σ:=Nat×Option Addr×Nat×List Int) (fun x=>x.1≤l.length∧x.2.2.2=sg++idx l w x.1) (fun x=>[(50, .int .i64 (x.1:Int))]) (fun x=>[box b (sY (.slice x.2.1 x.2.2.2.length x.2.2.1) (fA l (w+1)) (fR l (w+1)) (fC l)) 351,own (.slice x.2.1 x.2.2.2.length x.2.2.1) 3 1 x.2.2.2.length (flat fI x.2.2.2)]) _ (fun x=>l.length-x.1) ((0,q2,c2,sg)) (by exact⟨fg _,by rw[asR,List.append_nil]⟩) (by exact gA) Zb (fun⟨i,q3,c3,sg2⟩ ⟨hi,hsg2⟩=> ?_);refine Da ?_);dsimp only at hi hsg2 ⊢;rcases iq i l.length with hlt2|hge2
   ·obtain⟨x,hx⟩: ∃ x,l[i]? =some x:=⟨_,aj hlt2⟩;have hin:=KW (w:=w) hx;have hsl2:sg2.length≤5120:=by
     rw[hsg2,ag];have:=aiC l w i;omega
    by_cases hxw:x=(w:Int)
    ·rw[if_pos hxw] at hin;(repeat' (first|refine We1 ?_|refine Wa ?_|refine We ?_|(refine Wq ?_;intro q)|fail));refine aI wt rfl (by first|exact Ma (fI) [(i:Int)] rfl|exact Mb (fI) [(i:Int)] rfl) ?_;rintro _ _ ⟨q4,c4,rfl,rfl⟩;refine eU ?_;refine cM wt (bW rfl rfl rfl rfl aN (by rw[hU];rfl) (ayZ ..)) ?_;rintro _ _ ⟨rfl,rfl⟩;refine eU ?_;refine Ee ((i+1,q4,c4,sg2++[(i:Int)])) ?_ ?_
     ·exact⟨hlt2,by dsimp only;rw[hin,hsg2,List.append_assoc]⟩
     ·dsimp only;omega
    ·rw[if_neg hxw] at hin;refine aZ ?_;refine Ee ((i+1,q3,c3,sg2)) ?_ ?_
     ·exact⟨hlt2,by dsimp only;rw[hin,hsg2]⟩
     ·dsimp only;omega
   ·have hil:i=l.length:=by omega
    subst hil;refine aZ ?_;refine Ee ((w+1,q3,c3,sg2)) ?_ ?_
    ·refine⟨by omega,by dsimp only;omega, ?_⟩;show sg2=oJ l (w+1-1);rw[hsg2,hsg];obtain⟨v,rfl⟩: ∃ v,w=v+1:=⟨w-1,by omega⟩;rfl
    ·dsimp only;omega
  ·have hw:w=16:=by omega
   subst hw;have hsg':sg=oJ l 15:=hsg;subst hsg';refine aZ ?_;refine gK 2 rfl wt rfl (xD rfl rfl aN (hU ..)) ?_;refine cM wt (cX rfl rfl rfl aN (hU ..) (by rw[hU,hU];rfl) ?_ (rZ (by rw[hU,hU]))) ?_
   ·unfold sY;simp [Value.oneCell']
   rintro _ _ ⟨rfl,rfl⟩;refine eU ?_;exact gU rfl (yT.r1 (eS rfl aN (hU ..))) _ ⟨q2,c2,rfl,rfl⟩ yP
end Go.Proofs.YtbjalbcdbgcgdaaGreat.code
namespace Go.Proofs.YtbjalbcdbgcgdaaGreat.code
open Go.RowKit bG sl lens
attribute [local irreducible] sY
theorem asT: ∀ n:Fin 256,bits BinOp.and IntKind.u8 ((n.val:Nat):Int) 1=((n.val%2:Nat):Int):=by decide +kernel
theorem or1 (K b:Nat) (hK:K<1099511627776) (hb:b<2):bits BinOp.or IntKind.i64 ((K:Int)*2) (b:Int)=((K*2+b:Nat):Int):=by
 have e:bits BinOp.or IntKind.i64 ((K:Int)*2) (b:Int)=wrap64 (((BitVec.ofInt 64 ((K:Int)*2)|||BitVec.ofInt 64 (b:Int)).toNat:Nat):Int):=IntWalk.i64_left _;have e2:(BitVec.ofInt 64 ((K:Int)*2)|||BitVec.ofInt 64 (b:Int)).toNat=K*2+b:=by
  rw[BitVec.toNat_or,show ((K:Int)*2)=((K*2:Nat):Int) by omega,ofInt_u64 (K*2) (by omega),ofInt_u64 b (by omega)];exact nat_join 1 (K*2) b (by omega) (by omega)
 rw[e,e2,IntWalk.wrap64_in _ (by omega)]
def ZA (A C:Nat→Int) (c w v:Nat):Prop:=0<C v∧((c*2^(v-w):Nat):Int)<A v+C v∧A v<((c*2^(v-w):Nat):Int)+((2^(v-w):Nat):Int)
instance (A C:Nat→Int) (c w v:Nat):Decidable (ZA A C c w v):=by unfold ZA;infer_instance
def PL (A C:Nat→Int) (c w:Nat):Bool:=(jn 16).any fun v=>decide (w≤v∧ZA A C c w v)
theorem zW (A C:Nat→Int) (c w:Nat):PL A C c w=true↔ ∃ v,v<16∧w≤v∧ZA A C c w v:=by
 unfold PL;simp [List.any_eq_true]
attribute [local irreducible] box own sl gH aH bC Qt cJ cG dC dG eO
theorem adY (b : Nat) (q : Value) (A R C : Nat → Int) (c w : Nat) (hA : ∀ v, v < 16 → 0 ≤ A v ∧ A v ≤ 100000000) (hC : ∀ v, v < 16 → 0 ≤ C v ∧ C v ≤ 100000000) (hc : c ≤ 65536) (hw : w ≤ 15) :
    Ct Tryz.prog 315 [aH b 0, .int .i64 (c : Int), .int .i64 (w : Int)] [box b (sY q A R C) 351] fun v H' => v = .bool (PL A C c w) ∧ H' = [box b (sY q A R C) 351] := by
  (refine Ye Tryz.func315 Tryz.ntmps315 ?_; intro Fr)
  refine aZ ?_
  (refine cK (σ := Nat) (fun v => w ≤ v ∧ v ≤ 16 ∧ ∀ u, w ≤ u → u < v → ¬ ZA A C c w u) (fun v => [(7, .int .i64 (v : Int))]) (fun v => 16 - v) (w) (by exact ⟨aq _, by omega, fun u h1 h2 => absurd h1 (by omega)⟩) (by exact gA) (fun v ⟨hv1, hv2, hno⟩ => ?_); refine Da ?_)
  rcases iq v 16 with hlt | hge
  · have hj : (v : Int) - (w : Int) = ((v - w : Nat) : Int) := by omega
    obtain ⟨a1, a2⟩ := hA v hlt
    obtain ⟨c1, c2⟩ := hC v hlt
    have hp : 2 ^ (v - w) ≤ 2 ^ 15 := ib (by decide) (by omega)
    have hT : ZA A C c w v ↔ 0 < C v ∧ ((c * 2 ^ (v - w) : Nat) : Int) < A v + C v ∧ A v < ((c * 2 ^ (v - w) : Nat) : Int) + ((2 ^ (v - w) : Nat) : Int) := Iff.rfl
    obtain ⟨p2, hp2⟩ : ∃ p2, 2 ^ (v - w) = p2 := ⟨_, rfl⟩
    have h2i : (2 : Int) ^ (v - w) = (p2 : Int) := by rw [← hp2]; push_cast; rfl
    rw [hp2] at hT hp
    have hlo : c * p2 ≤ 65536 * 32768 := jt hc hp
    have hr1 : IntKind.i64.wrap ((c : Int) * 2 ^ (v - w)) = ((c * p2 : Nat) : Int) := by
      rw [h2i, show (c : Int) * (p2 : Int) = ((c * p2 : Nat) : Int) by push_cast; rfl]
      generalize c * p2 = z at *
      exact pS (by omega)
    have hr2 : IntKind.i64.wrap ((1 : Int) * 2 ^ (v - w)) = (p2 : Int) := by
      rw [h2i, Int.one_mul]
      exact pS (by omega)
    generalize c * p2 = lo at *
    clear h2i
    (repeat' (first | refine We1 ?_ | refine Wa ?_ | refine Wk ?_ | refine We ?_ | (refine Ws ?_ ?_ <;> intro h) | fail))
    all_goals first
      | (have e : PL A C c w = true := (zW A C c w).2 ⟨v, hlt, hv1, hT.2 ⟨by omega, by omega, by omega⟩⟩
         rw [e]
         exact Ea (x := ⟨rfl, rfl⟩))
      | (refine Ee (v + 1) ?_ ?_
         · refine ⟨by omega, by omega, fun u h1 h2 => ?_⟩
           rcases iq u v with h3 | h3
           · exact hno u h1 h3
           · have h4 : u = v := by omega
             subst h4
             rw [hT]
             rintro ⟨_, _, _⟩
             omega
         · omega)
  · have hv : v = 16 := by omega
    subst hv
    have e : PL A C c w = false := by
      rw [jr, Ne, zW]
      rintro ⟨u, h1, h2, h3⟩
      exact hno u h2 h1 h3
    rw [e]
    refine aZ ?_
    exact Ea (x := ⟨rfl, rfl⟩)
theorem asU {A C:Nat→Int} {c:Nat} (h: ¬ (A 15≤(c:Int)∧(c:Int)<A 15+C 15)):PL A C c 15=false:=by
 rw[jr,Ne,zW];rintro⟨v,h1,h2,h3⟩;have hv:v=15:=by omega
 subst hv;unfold ZA at h3;rw[Nat.sub_self,Nat.pow_zero,Nat.mul_one] at h3;omega
def alY (s:List UInt8) (k:Nat):Nat:=(s.getD (k/8) 0).toNat/2^(k%8)%2
def PM (A R C:Nat→Int) (sg:List Int) (s:List UInt8):Nat→Nat→Nat→Nat→Int×Nat×Int
 |0,_,_,_=>(0,0,7)
 |k+1,w,c,at'=>if 0<w∧A w≤(c:Int)∧(c:Int)<A w+C w then (sg.getD (R w+c-A w).toNat 0,at',0)
  else if PL A C c w=false then (0,0,7)
  else if 8*s.length≤at' then (0,0,3)
  else PM A R C sg s k (w+1) (c*2+alY s at') (at'+1)
theorem azF (b:Nat) (q:Option Addr) (c:Nat) (sg:List Int) (A R C:Nat→Int) (s:List UInt8) (at':Nat) (hA: ∀ v,v<16→0≤A v∧A v≤100000000) (hC: ∀ v,v<16→0≤C v∧C v≤100000000) (hR: ∀ v,v<16→0≤R v∧R v+C v≤(sg.length:Int)) (hsg:sg.length≤100000000) (hs:s.length≤140737488351232) (qE:at'≤8*s.length):
  Ct Tryz.prog 265 [aH b 0, .string (str s), .int .i64 (at':Int)] [box b (sY (.slice q sg.length c) A R C) 351,sl 1 (.slice q sg.length c) (sg.map fI)]
   fun v H'=>v= .tuple #[.int .i64 (PM A R C sg s 16 0 0 at').1, .int .i64 ((PM A R C sg s 16 0 0 at').2.1:Int), .int .i64 (PM A R C sg s 16 0 0 at').2.2]∧H'=[box b (sY (.slice q sg.length c) A R C) 351]:=by
 generalize hr:PM A R C sg s 16 0 0 at'=r;obtain⟨r1,r2,r3⟩:=r;(refine Ye Tryz.func265 Tryz.ntmps265 ?_;intro Fr);refine aZ ?_;(refine aC (σ:=Nat×Nat×Nat) (fun x=>x.1≤15∧x.2.1<2^x.1∧x.2.2≤8*s.length∧PM A R C sg s (16-x.1) x.1 x.2.1 x.2.2=(r1,r2,r3)) (fun x=>[(10, .int .i64 (x.1:Int)),(9, .int .i64 (x.2.1:Int)),(2, .int .i64 (x.2.2:Int))]) (fun x=>[box b (sY (.slice q sg.length c) A R C) 351]) _ (fun x=>15-x.1) ((0,0,at')) (by exact⟨fg _,Nat.zero_lt_one,qE,hr⟩) (by exact gA) Zb (fun⟨w,cc,k⟩ ⟨hw,hcc,hk,hone⟩=> ?_);refine Da ?_);dsimp only at hw hcc hk hone ⊢;have hf:16-w=(15-w)+1:=by omega
 rw[hf,PM] at hone;have hp:2^w≤2^15:=ib (by decide) hw;obtain⟨a1,a2⟩:=hA w (by omega);obtain⟨c1,c2⟩:=hC w (by omega);obtain⟨d1,d2⟩:=hR w (by omega);have L0:=adY b (.slice q sg.length c) A R C cc w hA hC (by omega) hw;by_cases h1:0<w∧A w≤(cc:Int)∧(cc:Int)<A w+C w
 ·rw[if_pos h1] at hone;obtain⟨g1,g2,g3⟩:=h1;cases hone;obtain⟨j,hj⟩: ∃ j:Nat,R w+cc-A w=(j:Int):=⟨(R w+cc-A w).toNat,by omega⟩;have hjl:j<sg.length:=by omega
  obtain⟨x,hx⟩: ∃ x,sg[j]? =some x:=⟨_,aj hjl⟩;have hxx:sg.getD (R w+cc-A w).toNat 0=x:=by rw[hj,fq,iw,hx];rfl
  rw[hxx];(repeat' (first|refine We1 ?_|refine Wa ?_|refine Wk ?_|refine We ?_|refine Wz ?_|fail));(refine aA 19 ?_;refine aU _ rfl rfl wt (by decide +kernel) iS rfl (jF (i:=j) rfl rfl rfl aN hj Zu) ?_);refine pT ?_;exact Ea (x:=⟨rfl,rfl⟩)
 ·rw[if_neg h1] at hone;by_cases h2:PL A C cc w=false
  ·rw[if_pos h2] at hone;cases hone;rw[h2] at L0;(repeat' (first|refine We1 ?_|refine Wa ?_|refine Wk ?_|refine We ?_|(refine Ws ?_ ?_<;>intro h)|fail));all_goals ((refine Ca (L0) ?_;rintro _ _ ⟨_,⟨rfl,rfl⟩,rfl⟩;refine Da ?_))
   all_goals (refine aZ ?_)
   all_goals (exact Ea (x:=⟨rfl,rfl⟩))
  ·rw[if_neg h2] at hone;have h2':PL A C cc w=true:=by simpa using h2
   rw[h2'] at L0;have hw14:w≤14:=by
    rcases iq w 15 with h|h
    ·omega
    ·have hw15:w=15:=by omega
     subst hw15;rw[asU fun h=>h1 ⟨by omega,h⟩] at h2';cases h2'
   by_cases h3:8*s.length≤k
   ·rw[if_pos h3] at hone;cases hone;(repeat' (first|refine We1 ?_|refine Wa ?_|refine Wk ?_|refine We ?_|(refine Ws ?_ ?_<;>intro h)|fail));all_goals ((refine Ca (L0) ?_;rintro _ _ ⟨_,⟨rfl,rfl⟩,rfl⟩;refine Da ?_))
    all_goals (refine aZ ?_)
    all_goals (exact Ea (x:=⟨rfl,rfl⟩))
   ·rw[if_neg h3] at hone;obtain⟨y,hy⟩: ∃ y,s[k/8]? =some y:=⟨_,aj (by omega)⟩;have hbit:alY s k=y.toNat/2^(k%8)%2:=by unfold alY;rw[iw,hy];rfl
    rw[hbit] at hone;have hy8:=UInt8.toNat_lt y;have hq8:(k:Int)/8=((k/8:Nat):Int):=by omega
    have hr8:(k:Int)%8=((k%8:Nat):Int):=by omega
    have hm8:k%8<8:=fc _ (by decide);obtain⟨z,hz⟩: ∃ z,y.toNat/2^(k%8)=z:=⟨_,rfl⟩;have hz256:z<256:=by
     rw[←hz];exact jq (js _ _) hy8
    have hshr:(y.toNat:Int)/2^(k%8)=(z:Int):=by rw[←hz];push_cast;rfl
    have hand:bits BinOp.and IntKind.u8 (z:Int) 1=((z%2:Nat):Int):=asT ⟨z,hz256⟩;rw[hz] at hone;have hb2:z%2<2:=fc _ (by decide);generalize z%2=t at*;have hor:=or1 cc t (by omega) hb2;have hcc2:cc*2+t<2^(w+1):=by rw[gu];omega
    (repeat' (first|refine We1 ?_|refine Wa ?_|refine Wk ?_|refine We ?_|(refine Ws ?_ ?_<;>intro h)|fail));all_goals ((refine Ca (L0) ?_;rintro _ _ ⟨_,⟨rfl,rfl⟩,rfl⟩;refine Da ?_))
    all_goals ((repeat' (first|refine We1 ?_|refine Wa ?_|refine We ?_|fail)))
    all_goals (refine Ee ((w+1,cc*2+t,k+1)) ?_ ?_)
    all_goals first
     |exact⟨by dsimp only;omega,hcc2,by dsimp only;omega,by dsimp only;rw[show 16-(w+1)=15-w by omega];exact hone⟩
     |(dsimp only;omega)
end Go.Proofs.YtbjalbcdbgcgdaaGreat.code
namespace Go.Proofs.YtbjalbcdbgcgdaaGreat.code
open Go.RowKit bG sl lens
attribute [local irreducible] sY
theorem UW (l:List Int) (w:Nat): ∀ k,k≤l.length→(idx l w k).length=cnt (l.take k) w:=by
 intro k;induction k with
 |zero=>intro _;rfl
 |succ k ih=>
  intro hk;obtain⟨x,hx⟩: ∃ x,l[k]? =some x:=⟨_,aj (by omega)⟩;rw[KW hx,qT hx];split
  ·rw[ag,df,ih (by omega)]
  ·rw[ih (by omega),Nat.add_zero]
theorem ZB (l:List Int) (a:Nat): ∀ b,a≤b→(oJ l a).length≤(oJ l b).length:=by
 intro b h;induction b with
 |zero=>rw[show a=0 by omega];exact aq _
 |succ b ih=>
  rcases iq a (b+1) with h1|h1
  ·have:=ih (by omega);rw[oJ,ag];omega
  ·rw[show a=b+1 by omega];exact aq _
theorem aEB {l:List Int} (hl:l.length≤320): ∀ v,v<16→0≤fA l 16 v∧fA l 16 v≤100000000:=by
 intro v hv;have:=UU l hl v (by omega);unfold fA;rw[if_pos hv];omega
theorem aEC {l:List Int} (hl:l.length≤320): ∀ v,v<16→0≤fC l v∧fC l v≤100000000:=by
 intro v hv;have:=aCV l v;omega
theorem aED (l:List Int): ∀ v,v<16→0≤fR l 16 v∧fR l 16 v+fC l v≤((oJ l 15).length:Int):=by
 intro v hv;unfold fR fC;rw[if_pos hv];cases v with
 |zero=>rw[if_pos rfl];exact⟨Int.le_refl _,by show (0:Int)+0≤_;omega⟩
 |succ v=>
  have h1:=ZB l (v+1) 15 (by omega);have h2:=UW l (v+1) l.length (aq _);rw[jb] at h2;have h3:(oJ l (v+1)).length=(oJ l v).length+cnt l (v+1):=by rw[oJ,ag,h2]
  rw[if_neg (by omega),jo];omega
def one (l:List Int) (s:List UInt8) (k:Nat):Int×Nat×Int:=PM (fA l 16) (fR l 16) (fC l) (oJ l 15) s 16 0 0 k
theorem iL {l:List Int} (h:cH l=0):l.length≤320∧ ∀ x∈l,0≤x∧x≤15:=by
 have h1:dL l=0:=by
  unfold cH at h;split at h
  ·rename_i h9;exact absurd h h9
  ·rename_i h9;exact ir.1 h9
 unfold dL at h1;split at h1
 ·cases h1
 ·rename_i h2;split at h1
  ·cases h1
  ·rename_i h3;exact⟨by omega,fun x hx=>qR (by simpa using h3) hx⟩
theorem eW {P:Program} {f:FuncId} {args:List Value} {H:List Ent} {R R':Value→List Ent→Prop} (h:Ct P f args H R) (k: ∀ v H',R v H'→R' v H'):Ct P f args H R':=⟨fun Fr w hw=>(h.go Fr w hw).mono fun e w' ⟨v,H',h1,h2,h3⟩=>⟨v,H',h1,k v H' h2,h3⟩⟩
end Go.Proofs.YtbjalbcdbgcgdaaGreat.code
namespace Go.Proofs.YtbjalbcdbgcgdaaGreat.flip
open Go.RowKit
def fZ (n:Nat):Nat→Nat
 |0=>0
 |k+1=>fZ n k*2+n/2^k%2
theorem zX (n k:Nat):fZ n k<2^k:=by
 induction k with
 |zero=>simp [fZ]
 |succ k ih=>rw[fZ,gu];omega
theorem RI (n k i:Nat):(fZ n k).testBit i=(decide (i<k)&&n.testBit (k-1-i)):=by
 induction k generalizing i with
 |zero=>simp [fZ]
 |succ k ih=>
  cases i with
  |zero=>
   rw[fZ,Nat.testBit_zero,Nat.testBit_eq_decide_div_mod_eq];simp
  |succ i=>
   rw[fZ,Nat.testBit_succ];have e:(fZ n k*2+n/2^k%2)/2=fZ n k:=by omega
   rw[e,ih];by_cases h:i<k
   ·have e2:k-1-i=k+1-1-(i+1):=by omega
    simp [h,e2]
   ·simp [h]
attribute [local go_sem] bG.TX bG.HU
theorem pK (a b:Nat) (ha:a<18446744073709551616) (hb:b<9223372036854775808):bits BinOp.or IntKind.u64 (IntKind.u64.wrap ((b:Int)*2)) (bits BinOp.and IntKind.u64 (a:Int) 1)=((b*2+a%2:Nat):Int):=by
 have e1:bits BinOp.and IntKind.u64 (a:Int) 1=((a%2:Nat):Int):=by
  rw[show (1:Int)=((1:Nat):Int) from rfl,u64_and_nat a 1 ha (by decide),nat_mask1]
 have e2:IntKind.u64.wrap ((b:Int)*2)=((b*2:Nat):Int):=by
  rw[IntKind.wrap_u64];omega
 rw[e1,e2,u64_or_nat _ _ (by omega) (by omega)];congr 1;exact nat_join 1 (b*2) (a%2) (by omega) (by omega)
theorem asV (n:Nat) (w:Int) (h1:n<18446744073709551616) (W:World):Calls Tryz.prog 340 #[.int .u64 n, .int .i64 w] W fun e w'=>e= .returned (.int .u64 (fZ n (max 0 (min 64 w)).toNat))∧W=w':=by
 obtain⟨m,hm⟩: ∃ m:Nat,max 0 (min 64 w)=(m:Int):=⟨(max 0 (min 64 w)).toNat,by omega⟩;have hm64:m≤64:=by omega
 have HM:=Lib.hid hm;clear hm
 go_enter Tryz.func340,Tryz.ntmps340
 go_wp2_with (fail)
 rw[HM.out]
 go_loop [0,5,10] (fun x y i=> ∃ k:Nat,k≤m∧i= .int .i64 k∧x= .int .u64 ((n/2^k:Nat):Int)∧y= .int .u64 (fZ n k)) (fun _ _ i=>(64-intOf i).toNat)
 case atStart=>exact⟨0,by omega,rfl,by simp,rfl⟩
 case round=>
  obtain⟨k,hk,rfl,rfl,rfl⟩:=hrel;by_cases hlt:k<m
  ·go_wp2
   go_round
   case rel=>
    refine⟨k+1,by omega,by go_num, ?_, ?_⟩
    ·refine bG.lA ?_;rw[gu, ←Nat.div_div_eq_div_mul];rfl
    ·have hb:fZ n k<2^63:=Nat.lt_of_lt_of_le (zX n k) (ib (by omega) (by omega));have ha:n/2^k<18446744073709551616:=jq (js _ _) h1;exact bG.lA (pK _ _ ha hb)
   case measure=>simp [intOf];omega
  ·obtain rfl:k=m:=by omega
   go_wp2
   go_ret
   exact⟨by rw[HM.out];rfl,rfl⟩
end Go.Proofs.YtbjalbcdbgcgdaaGreat.flip
namespace Go.Proofs.YtbjalbcdbgcgdaaGreat.code
open Go.RowKit bG sl lens flip
def GS (p:Int×Int):List Value:=[.int .u64 p.1, .int .i64 p.2]
theorem azG (p:Int×Int): ∀ u∈GS p,u.oneCell'=true:=by simp [GS,Value.oneCell']
theorem azH (n w:Nat) (h1:n<18446744073709551616) (hw:w≤64):Ct Tryz.prog 340 [.int .u64 (n:Int), .int .i64 (w:Int)] [] fun v H'=>v= .int .u64 ((fZ n w:Nat):Int)∧H'=[]:=
 aW fun W _=>(asV n w h1 W).mono fun e w' ⟨h1,h2⟩=>⟨by rw[h1,show (max 0 (min 64 (w:Int))).toNat=w by omega],by rw[h2];exact Below.refl _ _⟩
def KZ (l:List Int) (x:Int):Prop:=0≤x∧l.getD x.toNat 0≠0
instance (l:List Int) (x:Int):Decidable (KZ l x):=by unfold KZ;infer_instance
def iA (l:List Int) (x:Int):Int×Int:=((fZ (fM l x.toNat) (l.getD x.toNat 0).toNat:Nat),l.getD x.toNat 0)
def wrF (l:List Int):List Int→List (Int×Int)→List (Int×Int)×Int
 |[],out=>(out,0)
 |x::t,out=>if KZ l x then wrF l t (out++[iA l x]) else ([],1)
def oK (l cF:List Int):List (Int×Int)×Int:=if cH l=0 then wrF l cF [] else ([],(cH l:Int))
theorem azJ {l:List Int} (h:l.length≤320) (hb: ∀ x∈l,0≤x∧x≤15) (i:Nat):fM l i≤41943360:=by
 rcases iq i l.length with hi|hi
 ·have hx:l[i]? =some l[i]:=aj hi;obtain⟨h0,h15⟩:=hb _ (List.getElem_mem hi);obtain⟨m,hm⟩:=iy h0;rw[hm] at hx;rcases Nat.eq_zero_or_pos m with hz|hp
  ·subst hz;rw[RH hx];omega
  ·rw[zV hx hp];exact aCU l h i m (by omega)
 ·unfold fM;rw[dz hi];exact fg _
theorem asW (l:List Int) {i:Nat} (h:i<l.length):(sX l)[i]? =some ((fM l i:Nat):Int):=by
 unfold sX;rw[List.getElem?_map,List.getElem?_range h];rfl
attribute [local irreducible] box own sl gH aH bC Qt cJ cG dC dG eO
theorem jR (q qs:Option Addr) (c cs:Nat) (l cF:List Int) (hg: ∀ x∈l,(Lit.int .i64 x).wf=true) (hn:l.length≤1000000000000000) (hs:cF.length≤1000000):
  Ct Tryz.prog 306 [.slice q l.length c, .slice qs cF.length cs] [sl 1 (.slice q l.length c) (l.map fI),sl 1 (.slice qs cF.length cs) (cF.map fI)]
   fun v H'=> ∃ q2 c2,v= .tuple #[.slice q2 (oK l cF).1.length c2, .int .i64 (oK l cF).2]∧H'=[own (.slice q2 (oK l cF).1.length c2) 394 2 (oK l cF).1.length (flat GS (oK l cF).1)]:=by
 have C0:=YZ q c l hg hn;by_cases hc:cH l=0
 ·obtain⟨hl,hb⟩:=iL hc;have e:oK l cF=wrF l cF []:=by unfold oK;rw[if_pos hc]
  rw[e];have C1:Ct Tryz.prog 313 [.slice q l.length c] [sl 1 (.slice q l.length c) (l.map fI)] fun v H'=> ∃ q c,v= .tuple #[.slice q l.length c, .int .i64 0]∧H'=[own (.slice q l.length c) 3 1 l.length (flat fI (sX l))]:=eW C0 fun v H' h=>by
   rcases h with⟨h1,_⟩|⟨_,h2⟩
   ·exact absurd hc h1
   ·exact h2
  have hcl:=alV l;have hca:=fun i=>asW l (i:=i)
  obtain⟨r,hr⟩: ∃ r,wrF l cF []=r:=⟨_,rfl⟩;rw[hr];(refine Ye Tryz.func306 Tryz.ntmps306 ?_;intro Fr);refine aZ ?_;(refine Ca (C1) ?_;rintro _ _ ⟨_,⟨q1,c1,rfl,rfl⟩,rfl⟩;refine Da ?_);refine aZ ?_;refine aT (aY _ 394 2) ?_;(refine aC (σ:=Nat×Option Addr×Nat×List (Int×Int)) (fun x=>x.1≤cF.length∧x.2.2.2.length=x.1∧wrF l (cF.drop x.1) x.2.2.2=r) (fun x=>[(21, .int .i64 (x.1:Int)),(8, .slice x.2.1 x.2.2.2.length x.2.2.1)]) (fun x=>[own (.slice x.2.1 x.2.2.2.length x.2.2.1) 394 2 x.2.2.2.length (flat GS x.2.2.2)]) _ (fun x=>cF.length-x.1) ((0,none,0,[])) (by exact⟨fg _,rfl,hr⟩) (by exact gA) Zb (fun⟨i,q3,c3,out⟩ ⟨hi,hol,hwr⟩=> ?_);refine Da ?_);dsimp only at hi hol hwr ⊢;rcases iq i cF.length with hlt|hge
  ·obtain⟨x,hx⟩: ∃ x,cF[i]? =some x:=⟨_,aj hlt⟩;have hdr:cF.drop i=x::cF.drop (i+1):=by
    rw[List.drop_eq_getElem_cons hlt];have:cF[i]=x:=(List.getElem?_eq_some_iff.1 hx).2;rw[this]
   rw[hdr,wrF] at hwr;by_cases hh:KZ l x
   ·rw[if_pos hh] at hwr;obtain⟨h0,h1⟩:=hh;obtain⟨j,rfl⟩:=iy h0;have hjl:j<l.length:=by
     rcases iq j l.length with h|h
     ·exact h
     ·rw[fq,iw,dz h] at h1;exact absurd rfl h1
    obtain⟨y,hy⟩: ∃ y,l[j]? =some y:=⟨_,aj hjl⟩;have hyd:l.getD j 0=y:=by rw[iw,hy];rfl
    obtain⟨y0,y15⟩:=hb y (jm hy);obtain⟨m,rfl⟩:=iy y0;rw[fq,hyd] at h1;have hcb:=azJ hl hb j;have hcj:=hca j hjl;have F0:=azH (fM l j) m (by omega) (by omega);have hpc:iA l (j:Int)=(((fZ (fM l j) m:Nat):Int),(m:Int)):=by
     unfold iA;rw[fq,hyd,fq]
    rw[hpc] at hwr;have hm0: ¬ ((m:Int)=0):=h1;generalize fM l j=cj at*;have hone: ∀ y, ∀ u∈GS y,u.oneCell'=true:=azG;refine dN ?_;(refine aB (Hq:=[_,_]) [1,2] [] rfl (by kernel_rfl) Za ?_);(repeat' (first|refine Wk ?_|refine Wc (F0 ..) ?_|refine Wz ?_|fail));(refine aA 16 ?_;refine Oa (l:=by exact aM rfl rfl rfl (by exact lE) rfl rfl (by decide) rfl) (k:= ?_);rintro _ _ ⟨q9,rfl,rfl⟩;refine Te ?_;(try refine Da ?_));(refine aA 17 ?_;refine Oa (l:=by exact (by first|exact Ma (GS) [(((fZ cj m:Nat):Int),(m:Int))] rfl|exact Mb (GS) [(((fZ cj m:Nat):Int),(m:Int))] rfl)) (k:= ?_);rintro _ _ ⟨q4,c4,rfl,rfl⟩;refine Te ?_;(try refine Da ?_));refine pT ?_;refine Ee ((i+1,q4,c4,out++[(((fZ cj m:Nat):Int),(m:Int))])) ?_ ?_
    ·exact⟨hlt,by dsimp only;rw[ag,df,hol],hwr⟩
    ·dsimp only;omega
   ·rw[if_neg hh] at hwr;subst hwr;by_cases hx0:x<0
    ·refine aZ ?_;exact Ea (x:=⟨none,0,rfl,rfl⟩)
    ·obtain⟨j,rfl⟩:=iy (by omega:0≤x);rcases iq j l.length with hjl|hjl
     ·obtain⟨y,hy⟩: ∃ y,l[j]? =some y:=⟨_,aj hjl⟩;have hyd:l.getD j 0=y:=by rw[iw,hy];rfl
      have hy0:y=0:=by
       unfold KZ at hh;rw[fq,hyd] at hh;exact jh fun h=>hh ⟨by omega,h⟩
      subst hy0;refine aZ ?_;exact Ea (x:=⟨none,0,rfl,rfl⟩)
     ·refine aZ ?_;exact Ea (x:=⟨none,0,rfl,rfl⟩)
  ·have hil:i=cF.length:=by omega
   subst hil;rw[List.drop_length,wrF] at hwr;subst hwr;refine aZ ?_;exact Ea (x:=⟨q3,c3,rfl,rfl⟩)
 ·have e:oK l cF=([],(cH l:Int)):=by unfold oK;rw[if_neg hc]
  rw[e];have C1:Ct Tryz.prog 313 [.slice q l.length c] [sl 1 (.slice q l.length c) (l.map fI)] fun v H'=>v= .tuple #[.slice none 0 0, .int .i64 (cH l:Int)]∧H'=[]:=eW C0 fun v H' h=>by
   rcases h with⟨_,h2⟩|⟨h1,_⟩
   ·exact h2
   ·exact absurd h1 hc
  generalize cH l=ce at*;(refine Ye Tryz.func306 Tryz.ntmps306 ?_;intro Fr);(repeat' (first|refine Wa ?_|refine We ?_|refine Wc (C1 ..) ?_|fail));exact Ea (x:=⟨none,0,rfl,rfl⟩)
end Go.Proofs.YtbjalbcdbgcgdaaGreat.code
