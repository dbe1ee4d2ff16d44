/- FsOps, packed. -/
import Derived.Test.YtbjalbcdbgcgdaaGreatOQ
import Derived.Test.YtbjalbcdbgcgdaaGreatO13
import Derived.Test.YtbjalbcdbgcgdaaGreatO14
import Derived.Test.YtbjalbcdbgcgdaaGreatO00
open List renaming getElem?_eq_getElem->ak,getElem?_eq_some_iff->aj,getElem?_take_of_lt->abm,length_append->ae,length_take->ar
open Nat renaming lt_or_ge->ig,zero_le->fe
set_option linter.unusedVariables false
set_option maxRecDepth 100000
set_option maxHeartbeats 8000000
namespace Go.Proofs.YtbjalbcdbgcgdaaGreat
open Go.RowKit bA bO file sl use
namespace fs
def aPQ (pl:List (Int×Int)) (olds:List (List UInt8)) (i:Nat) (t:List UInt8) (p:tF):Prop:=
 (t=[]∧p=⟨(0,0),[],false⟩)∨(t≠[]∧olds[i]? =some t∧ ∃ q,pl[i]? =some q∧p=⟨q,[],false⟩)∨(t≠[]∧olds[i]? ≠some t∧ ∃ u,mI.tL t u∧p=⟨(0,0),u,true⟩)
structure pR (pl:List (Int×Int)) (olds news:List (List UInt8)) (ps:List tF):Prop where
 len:ps.length=news.length
 one: ∀ i t p,news[i]? =some t→ps[i]? =some p→aPQ pl olds i t p
theorem LG {pl:List (Int×Int)} {olds news:List (List UInt8)} {ps:List tF} {i:Nat} {t:List UInt8} {p:tF} (h:pR pl olds (news.take i) ps) (ht:news[i]? =some t) (hp:aPQ pl olds i t p):pR pl olds (news.take (i+1)) (ps++[p]):=by
 have hi:=(aj.1 ht).1;have hl:ps.length=i:=by rw[h.len,ar];omega
 refine⟨by rw[ae,List.length_singleton,hl,ar];omega,fun j u q hu hq=> ?_⟩;rcases ig j i with hj|hj
 ·rw[List.getElem?_append_left Z8] at hq;rw[abm Z8] at hu;exact h.one j u q (by rw[abm hj];exact hu) hq
 ·have zy:j=i:=by
   have:=(aj.1 hu).1;rw[ar] at this;omega
  subst zy;rw[abm Z8,ht] at hu;cases hu;rw[List.getElem?_append_right Z8,hl,Nat.sub_self] at hq;cases hq;exact hp
attribute [local irreducible] box own sl bL aH bJ Qt cN cM dG dL eQ
theorem wL (n k g z0 zo z:Int) (nq:Option Addr) (nc:Nat) (pl:List (Int×Int)) (qo:Option Addr) (co:Nat) (olds:List (List UInt8)) (qn:Option Addr) (cn:Nat) (news:List (List UInt8)) (hpo:pl.length=olds.length) (hn8:news.length≤1000) (hn: ∀ t∈news,t.length≤512) (ho8:olds.length≤1000):
  Ct Tryz.prog 152 [.int .i64 n, .agg #[.int .i64 k, .int .i64 g, .int .i64 z0, .slice nq pl.length nc], .agg #[.int .i64 zo, .slice qo olds.length co], .agg #[.int .i64 z, .slice qn news.length cn]] [sl 2 (.slice nq pl.length nc) (pl.map jP),sl 1 (.slice qo olds.length co) (olds.map fT),sl 1 (.slice qn news.length cn) (news.map fT)] fun v H'=> ∃ ps q c,pR pl olds news ps∧v= .agg #[.int .i64 n, .int .i64 k, .int .i64 g, .int .i64 z, .slice nq pl.length nc, .slice q ps.length c, .bool false]∧H'=[own (.slice q ps.length c) 289 4 ps.length (flat eX ps)]:=by
 (refine Ye Tryz.func152 Tryz.ntmps152 ?_;intro Fr);(repeat' (first|refine Y4 ?_|(refine Wb ?_;intro b)|fail));rename_i bx bo bn br;refine aO (aS _ 289 4) ?_;(refine aC (σ:=Nat×List tF×Option Addr×Nat) (fun x=>x.1≤news.length∧pR pl olds (news.take x.1) x.2.1∧x.2.1.length=x.1) (fun x=>[(24, .int .i64 (x.1:Int))]) (fun x=>[own (.slice x.2.2.1 x.2.1.length x.2.2.2) 289 4 x.2.1.length (flat eX x.2.1),box b [.int .i64 n, .int .i64 k, .int .i64 g, .int .i64 z, .slice nq pl.length nc, .slice x.2.2.1 x.2.1.length x.2.2.2, .bool false] 237]) _ (fun x=>news.length-x.1) ((0,[],none,0)) (by exact⟨fe _,⟨rfl,fun i t p h=>by simp at h⟩,rfl⟩) Ze Zb (fun⟨i,ps,q,c⟩ ⟨hi,ho,zy⟩=> ?_);refine Da ?_);dsimp only at hi ho zy ⊢;have one: ∀ y, ∀ u∈eX y,u.oneCell'=true:=by simp [eX,Value.oneCell']
 rcases dW news i with⟨t,ht,hlt⟩|hge
 ·by_cases h0:t=[]
  ·subst h0;have hst:=LG ho ht (.inl ⟨rfl,rfl⟩);(refine mW ?_;intro q);(refine aL wt Jb (by first|exact Ma (eX) [⟨(0,0),[],false⟩] rfl|exact Mb (eX) [⟨(0,0),[],false⟩] rfl) ?_;rintro _ _ ⟨q5,c5,rfl,rfl⟩);refine iC ?_;refine Ee ((i+1,ps++[⟨(0,0),[],false⟩],q5,c5)) ?_ ?_
   ·exact⟨hlt,hst,by rw[ae,zy];rfl⟩
   ·dsimp only;omega
  ·have e0:(t==[])=false:=by simpa using h0
   have zw:=hn t (List.mem_of_getElem? ht);by_cases h1:olds[i]? =some t
   ·have zx:=(aj.1 h1).1;obtain⟨q0,zv⟩: ∃ q0,pl[i]? =some q0:=⟨_,ak Z8⟩;have hst:=LG ho ht (.inr (.inl ⟨h0,h1,q0,zv,rfl⟩));have e1:(t==t)=true:=Ja
    refine kB ?_;(refine aD (Hq:=[_,_]) [5,6] [] rfl Jd Za ?_);refine jV ?_;(refine aB 1 ?_;refine cD 8 Jd ?_ ?_)
    ·(refine Oc (l:=by exact (iA (sH rfl rfl aU rfl))) (k:= ?_);rintro _ _ ⟨rfl,rfl⟩;refine Te ?_;(try refine Da ?_));(refine aB 8 ?_;refine Oa (l:=by exact aT rfl rfl rfl Zp rfl rfl Z9 rfl) (k:= ?_);rintro _ _ ⟨q8,rfl,rfl⟩;refine Te ?_;(try refine Da ?_));(refine aB 9 ?_;refine Oa (l:=by exact (by first|exact Ma (eX) [⟨q0,[],false⟩] rfl|exact Mb (eX) [⟨q0,[],false⟩] rfl)) (k:= ?_);rintro _ _ ⟨q5,c5,rfl,rfl⟩;refine Te ?_;(try refine Da ?_));refine sO ?_;refine Ee ((i+1,ps++[⟨q0,[],false⟩],q5,c5)) ?_ ?_
     ·exact⟨hlt,hst,by rw[ae,zy];rfl⟩
     ·dsimp only;omega
    ·(refine Oc (l:=by exact aT rfl rfl rfl Zp rfl rfl Z9 rfl) (k:= ?_);rintro _ _ ⟨q8,rfl,rfl⟩;refine Te ?_;(try refine Da ?_));(refine aB 1 ?_;refine Oa (l:=by exact (iA (sH rfl rfl aU rfl))) (k:= ?_);rintro _ _ ⟨rfl,rfl⟩;refine Te ?_;(try refine Da ?_));(refine aB 9 ?_;refine Oa (l:=by exact (by first|exact Ma (eX) [⟨q0,[],false⟩] rfl|exact Mb (eX) [⟨q0,[],false⟩] rfl)) (k:= ?_);rintro _ _ ⟨q5,c5,rfl,rfl⟩;refine Te ?_;(try refine Da ?_));refine sO ?_;refine Ee ((i+1,ps++[⟨q0,[],false⟩],q5,c5)) ?_ ?_
     ·exact⟨hlt,hst,by rw[ae,zy];rfl⟩
     ·dsimp only;omega
   ·have PR:=mI.axD t zw;have hst:=fun u hu=>LG ho ht (.inr (.inr ⟨h0,h1,u,hu,rfl⟩))
    rcases ig i olds.length with zx|zx
    ·obtain⟨u0,zu⟩: ∃ u0,olds[i]? =some u0:=⟨_,ak zx⟩;have e1:(u0==t)=false:=by
      rw[beq_eq_false_iff_ne];rintro rfl;exact h1 zu
     clear h1;refine kB ?_;(refine Ca (PR) ?_;rintro _ _ ⟨_,⟨u,hu,rfl,rfl⟩,rfl⟩;refine Da ?_);(repeat' (first|refine Wa ?_|(refine Wq ?_;intro q)|fail));(refine aL wt Jb (by first|exact Ma (eX) [⟨(0,0),u,true⟩] rfl|exact Mb (eX) [⟨(0,0),u,true⟩] rfl) ?_;rintro _ _ ⟨q5,c5,rfl,rfl⟩);refine iC ?_;refine Ee ((i+1,ps++[⟨(0,0),u,true⟩],q5,c5)) ?_ ?_
     ·exact⟨hlt,hst u hu,by rw[ae,zy];rfl⟩
     ·dsimp only;omega
    ·clear h1;refine kB ?_;(refine Ca (PR) ?_;rintro _ _ ⟨_,⟨u,hu,rfl,rfl⟩,rfl⟩;refine Da ?_);(repeat' (first|refine Wa ?_|(refine Wq ?_;intro q)|fail));(refine aL wt Jb (by first|exact Ma (eX) [⟨(0,0),u,true⟩] rfl|exact Mb (eX) [⟨(0,0),u,true⟩] rfl) ?_;rintro _ _ ⟨q5,c5,rfl,rfl⟩);refine iC ?_;refine Ee ((i+1,ps++[⟨(0,0),u,true⟩],q5,c5)) ?_ ?_
     ·exact⟨hlt,hst u hu,by rw[ae,zy];rfl⟩
     ·dsimp only;omega
 ·obtain rfl:i=news.length:=Z8
  rw[List.take_length] at ho;refine bM ?_;exact Ea (x:=⟨ps,q,c,ho,rfl,rfl⟩)
end fs
namespace fs
open dZ cO cK dir uU
def AJ (T:List UInt8):List (List UInt8):=if T=[] then [] else [T]
theorem VC {E:List bH} (h:kY E):wrD E=gG E∧(gG E).length≤336:=by
 obtain⟨h1,h2,h3⟩:=h;have:=ajW (l:=E) fun p hp=>(cQ (h2 p hp)).1.2.2.2.1
 exact⟨by unfold wrD;rw[Jg ((eI E).2 ⟨h1,h2,h3⟩)],Z8⟩
attribute [local irreducible] box own sl bL aH bJ Qt cN cM dG dL eQ
theorem uX (b:Nat) (d:FD) (s t f o:Value) (n:Nat) (x:Nd) (l:List UInt8) (h:eN d n x l) {E:List bH} (hE:kY E) (q:Option Addr) (c:Nat) (qe:Option Addr) (ce:Nat):
  Ct Tryz.prog 146 [aH b 0, .int .i64 (n:Int), .agg #[.int .i64 (kI l), .int .i64 (gI l), .int .i64 (zI l), .slice q (pI l).length c], .slice qe E.length ce] (bC b d s t f o::sl 2 (.slice q (pI l).length c) ((pI l).map jP)::sl 2 (.slice qe E.length ce) (E.map fE)::aX d)
   fun v H'=> ∃ ps q' c',pR (pI l) x.parts (AJ (gG E)) ps∧v= .tuple #[.agg #[.int .i64 (n:Int), .int .i64 (kI l), .int .i64 (gI l), .int .i64 ((gG E).length:Int), .slice q (pI l).length c, .slice q' ps.length c', .bool false], .int .i64 0]∧H'=[bC b d s t f o,own (.slice q' ps.length c') 289 4 ps.length (flat eX ps)]:=by
 obtain⟨hw,hlen⟩:=VC hE;have zv:=uV h.data h.small;have D0:=IB b d s t f o n x.size (kI l) (gI l) q c (pI l) x.parts h.told.mM h.small h.data;rw[←h.size] at D0;have W0:=dir.kJ qe ce E (by have:=hE.1;omega) (fun p hp=>by have:=(cQ (hE.2.1 p hp)).1.2.2.2.1;omega);rw[hw,(eI E).2 hE] at W0;have zx:(pI l).length=x.parts.length:=h.data.2.1.symm;have zw:x.parts.length≤1000:=by have:=h.data.1;have:=h.small;unfold aQ at*;omega
 generalize gG E=T at*;obtain⟨a,ca,cs,w,cw,wl,m,cm,at',qg,cg,aA⟩:=d;unfold bC aX at*;dsimp only at D0 ⊢;clear zv hw;by_cases hT:T=[]
 ·subst hT;have TN:=fun qo co qn cn=>wL (n:Int) (kI l) (gI l) (zI l) (zI l) (([]:List UInt8).length:Int) q c (pI l) qo co x.parts qn cn [] zx (fe _) Ja zw
  have e0:(([]:List UInt8)==[])=true:=rfl;rw[show AJ []=[] from rfl];(refine Ye Tryz.func146 Tryz.ntmps146 ?_;intro Fr);(repeat' (first|refine Y4 ?_|(refine Wb ?_;intro b)|refine Wc (W0 ..) ?_|fail));(refine aD (Hq:=[_]) [1] [] rfl Jd Za ?_);refine jV ?_;(refine aB 5 ?_;refine cD 9 Jd ?_ ?_)
  ·(refine Cd 5 (D0) ?_;rintro _ _ ⟨_,⟨q5,c5,rfl,rfl⟩,rfl⟩;refine Te ?_;(try refine Da ?_));(repeat' (first|refine Y1 ?_|(refine Wb ?_;intro b)|fail));(refine Ca (TN _ _ _ _) ?_;rintro _ _ ⟨_,⟨ps,q7,c7,zy,rfl,rfl⟩,rfl⟩;refine Da ?_);refine iC ?_;exact Ea (x:=⟨ps,q7,c7,zy,rfl,rfl⟩)
  ·(refine Oc (l:=by exact gV rfl) (k:= ?_);rintro _ _ ⟨b5,rfl,rfl⟩;refine Te ?_;(try refine Da ?_));refine jV ?_;(refine Cc 5 (D0) ?_;rintro _ _ ⟨_,⟨q5,c5,rfl,rfl⟩,rfl⟩;refine Te ?_;(try refine Da ?_));(refine JG ?_;intro b);(refine Ca (TN _ _ _ _) ?_;rintro _ _ ⟨_,⟨ps,q7,c7,zy,rfl,rfl⟩,rfl⟩;refine Da ?_);refine iC ?_;exact Ea (x:=⟨ps,q7,c7,zy,rfl,rfl⟩)
 ·have TN:=fun qo co qn cn=>wL (n:Int) (kI l) (gI l) (zI l) (zI l) (T.length:Int) q c (pI l) qo co x.parts qn cn [T] zx Ja (fun t ht=>by rw[List.mem_singleton] at ht;subst ht;omega) zw
  have e0:(T==[])=false:=by simpa using hT
  rw[show AJ T=[T] from Jf hT];(refine Ye Tryz.func146 Tryz.ntmps146 ?_;intro Fr);(repeat' (first|refine Y4 ?_|(refine Wb ?_;intro b)|refine Wc (W0 ..) ?_|fail));(refine aD (Hq:=[_]) [1] [] rfl Jd Za ?_);refine jV ?_;(refine aB 5 ?_;refine cD 9 Jd ?_ ?_)
  ·(refine Cd 5 (D0) ?_;rintro _ _ ⟨_,⟨q5,c5,rfl,rfl⟩,rfl⟩;refine Te ?_;(try refine Da ?_));(repeat' (first|refine Y1 ?_|(refine Wb ?_;intro b)|(refine Wq ?_;intro q)|fail));(refine Ca (TN _ _ _ _) ?_;rintro _ _ ⟨_,⟨ps,q7,c7,zy,rfl,rfl⟩,rfl⟩;refine Da ?_);refine iC ?_;exact Ea (x:=⟨ps,q7,c7,zy,rfl,rfl⟩)
  ·(refine Oc (l:=by exact gV rfl) (k:= ?_);rintro _ _ ⟨b5,rfl,rfl⟩;refine Te ?_;(try refine Da ?_));refine jV ?_;(refine Cc 5 (D0) ?_;rintro _ _ ⟨_,⟨q5,c5,rfl,rfl⟩,rfl⟩;refine Te ?_;(try refine Da ?_));(repeat' (first|refine Y1 ?_|(refine Wb ?_;intro b)|(refine Wq ?_;intro q)|fail));(refine Ca (TN _ _ _ _) ?_;rintro _ _ ⟨_,⟨ps,q7,c7,zy,rfl,rfl⟩,rfl⟩;refine Da ?_);refine iC ?_;exact Ea (x:=⟨ps,q7,c7,zy,rfl,rfl⟩)
end fs
