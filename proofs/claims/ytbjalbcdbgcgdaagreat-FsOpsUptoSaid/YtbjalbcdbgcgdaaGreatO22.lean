/- FsOps, packed. -/
import Derived.Test.YtbjalbcdbgcgdaaGreatOQ
import Derived.Test.YtbjalbcdbgcgdaaGreatO19
import Derived.Test.YtbjalbcdbgcgdaaGreatO20
import Derived.Test.YtbjalbcdbgcgdaaGreatO18
import Derived.Test.YtbjalbcdbgcgdaaGreatO00
import Derived.Test.YtbjalbcdbgcgdaaGreatO21
import Derived.Test.YtbjalbcdbgcgdaaGreatO15
import Derived.Test.YtbjalbcdbgcgdaaGreatO01
import Derived.Laws.Pointers
import Derived.Test.YtbjalbcdbgcgdaaGreatO11
import Derived.Test.YtbjalbcdbgcgdaaGreatO02
open Go.Proofs.Tryz renaming prog->lk
open List renaming append_assoc->fu,cons_append->dw,find?_some->afy,getElem?_append_left->lu,getElem?_eq_getElem->ak,getElem?_eq_some_iff->aj,getElem?_range->abn,length_append->ae,length_drop->bq,length_map->gp,length_pos_iff->mf,length_singleton->gk,mem_map->fa,mem_of_getElem?->jg,mem_range->ace,nil_append->dz,not_mem_nil->ck,perm_append_comm->afs,range->mn,take_add_one->ib
open Nat renaming le_refl->df,zero_le->fe
open Option renaming isNone_iff_eq_none->afx,some.inj->a7
open ByteArray renaming empty->aew,size->kh
open Bool renaming and_eq_true->ir
open Go.Value renaming int->gh,string->afw
open Go.Lit renaming int->kg
set_option linter.unusedVariables false
set_option maxRecDepth 100000
set_option maxHeartbeats 8000000
namespace Go.Proofs.YtbjalbcdbgcgdaaGreat
open Go.RowKit bA bO sl use
namespace fs
open cK dZ cO file dir uU
def kG (tab:cT) (ra rb:List (List UInt8)×Int):Int ⊕ cT:=
 if ra.2≠0 then .inl ra.2 else if rb.2≠0 then .inl rb.2 else
 if (aJ tab 0 ra.1).1≠0 then .inl (aJ tab 0 ra.1).1 else
 if ra.1=[] then .inl 1 else
 if ra.1<+:rb.1 then (if ra.1.length=rb.1.length then .inl 0 else .inl 17) else
 if rb.1=[] then .inl 13 else
 if (aJ tab 0 rb.1.dropLast).1≠0 then .inl (aJ tab 0 rb.1.dropLast).1 else
 match tab (aJ tab 0 ra.1.dropLast).2,tab (aJ tab 0 rb.1.dropLast).2 with
 |some y,some x=>
  if x.kind≠2 then .inl 15 else
  if cS x.aP (rb.1.getLastD [])=0 then .inl 13 else
  if 8<rb.1.length+yK tab (aJ tab 0 ra.1).2 then .inl 2 else
  if (aJ tab 0 ra.1.dropLast).2≠(aJ tab 0 rb.1.dropLast).2∧x.aP.length=24 then .inl 10 else
  .inr (eO tab (aJ tab 0 ra.1.dropLast).2 y (ra.1.getLastD []) (aJ tab 0 rb.1.dropLast).2 x (rb.1.getLastD []) (aJ tab 0 ra.1).2)
 |_,_=> .inl 18
def BE (b:Nat) (X:iV) (o:Int ⊕ cT) (v:Value) (H':List Ent):Prop:=
 (∃ e:Int,o= .inl e∧v= .int .i64 e∧H'=bI b X)∨(∃ T,o= .inr T∧hU b X T X.d.aA 9 4 v H')
theorem jT {α:Type} {l:List α} {d x:α} {k:Nat} (hk:l.length=k+1) (hx:l[k]? =some x):l.getLastD d=x∧l.dropLast=l.take k∧l=l.take k++[x]:=by
 have h1:l=l.take k++[x]:=by
  have:=ib (l:=l) (i:=k);rw[hx,List.take_of_length_le Z8] at this;exact this
 refine⟨?_, ?_,h1⟩
 ·rw[h1,List.getLastD_concat]
 ·rw[List.dropLast_eq_take,hk];rfl
theorem VW {tab:cT} {La Lb:List (List UInt8)} (h:(aJ tab 0 La).1≠0):kG tab (La,0) (Lb,0)= .inl (aJ tab 0 La).1:=by
 unfold kG;rw[Jf Ja,Jf Ja,Jg h]
theorem VX {tab:cT} {La Lb:List (List UInt8)} (h:(aJ tab 0 La).1=0) (h1:La=[]):kG tab (La,0) (Lb,0)= .inl 1:=by
 unfold kG;rw[Jf Ja,Jf Ja,Jf Z5,Jg h1]
theorem NS {tab:cT} {La Lb:List (List UInt8)} (h:(aJ tab 0 La).1=0) (h1:La≠[]) (h2:La<+:Lb):kG tab (La,0) (Lb,0)=if La.length=Lb.length then .inl 0 else .inl 17:=by
 unfold kG;rw[Jf Ja,Jf Ja,Jf Z5,Jf h1,Jg h2]
theorem VY {tab:cT} {La Lb:List (List UInt8)} (h:(aJ tab 0 La).1=0) (h1:La≠[]) (h2: ¬ La<+:Lb):kG tab (La,0) (Lb,0)=if Lb=[] then .inl 13 else if (aJ tab 0 Lb.dropLast).1≠0 then .inl (aJ tab 0 Lb.dropLast).1 else match tab (aJ tab 0 La.dropLast).2,tab (aJ tab 0 Lb.dropLast).2 with
  |some y,some x=>if x.kind≠2 then .inl 15 else if cS x.aP (Lb.getLastD [])=0 then .inl 13 else if 8<Lb.length+yK tab (aJ tab 0 La).2 then .inl 2 else if (aJ tab 0 La.dropLast).2≠(aJ tab 0 Lb.dropLast).2∧x.aP.length=24 then .inl 10 else .inr (eO tab (aJ tab 0 La.dropLast).2 y (La.getLastD []) (aJ tab 0 Lb.dropLast).2 x (Lb.getLastD []) (aJ tab 0 La).2)
  |_,_=> .inl 18:=by
 unfold kG;rw[Jf Ja,Jf Ja,Jf Z5,Jf h1,Jf h2]
attribute [local irreducible] box own sl bL aH bJ Qt cN cM dG dL eQ
theorem aHZ (qa qb:Option Addr) (ca cb:Nat) (xs ys:List (List UInt8)) (hx:xs.length≤1000000) (hy:ys.length≤1000000):
  Ct lk 136 [.slice qa xs.length ca, .slice qb ys.length cb] [sl 1 (.slice qa xs.length ca) (xs.map fT),sl 1 (.slice qb ys.length cb) (ys.map fT)] fun v H'=>v= .bool (decide (xs<+:ys))∧H'=[]:=by
 rcases Nat.lt_or_ge ys.length xs.length with hl|hl
 ·have hd:decide (xs<+:ys)=false:=decide_eq_false fun h=>by have:=h.length_le;omega
  rw[hd];clear hd;(refine Ye Tryz.func136 Tryz.ntmps136 ?_;intro Fr);refine aF ?_;exact Ea (x:=⟨rfl,rfl⟩)
 ·obtain⟨R,hR⟩: ∃ R,decide (xs<+:ys)=R:=⟨_,rfl⟩;have zv: ∀ i x y,xs[i]? =some x→ys[i]? =some y→x≠y→R=false:=fun i x y h1 h2 zu=>by
   rw[←hR];refine decide_eq_false fun⟨t,ht⟩=>zu ?_
   rw[←ht,lu (aj.1 h1).1,h1] at h2;exact a7 h2
  have zy:xs.take xs.length=ys.take xs.length→R=true:=fun h=>by
   rw[←hR];refine decide_eq_true ⟨ys.drop xs.length, ?_⟩;rw[List.take_length] at h;have:=List.take_append_drop xs.length ys;rw[←h] at this;exact this
  rw[hR];clear hR;(refine Ye Tryz.func136 Tryz.ntmps136 ?_;intro Fr);refine aM ?_;(refine cU (σ:=Nat) (fun i=>i≤xs.length∧xs.take i=ys.take i) (fun i=>[(13, .int .i64 (i:Int))]) (fun i=>xs.length-i) (0) ZD Ze (fun i ⟨hi,ht⟩=> ?_);refine Da ?_);rcases dW xs i with⟨x,zx,hlt⟩|hge
  ·obtain⟨y,zw⟩: ∃ y,ys[i]? =some y:=⟨_,ak Z8⟩;by_cases he:x=y
   ·subst he;have e0:(x==x)=true:=Ja
    have hst:xs.take (i+1)=ys.take (i+1):=by rw[ib,ib,zx,zw,ht]
    refine aM ?_;(refine aD (Hq:=[_,_]) [0,1] [] rfl Jd Za ?_);refine aF ?_;refine Ee (i+1) ?_ ?_
    ·exact⟨hlt,hst⟩
    ·omega
   ·have e0:(x==y)=false:=by simpa using he
    have hf:=zv i x y zx zw he;subst hf;refine aM ?_;(refine aD (Hq:=[_,_]) [0,1] [] rfl Jd Za ?_);refine aF ?_;exact Ea (x:=⟨rfl,rfl⟩)
  ·obtain rfl:i=xs.length:=Z8
   have hf:=zy ht;subst hf;refine aF ?_;exact Ea (x:=⟨rfl,rfl⟩)
theorem aIA (b:Nat) (X:iV) {tab:cT} (hI:Inv X tab) (hT:LI tab) (zk:X.ops.length≤1000) (s t:List UInt8) (hs:s.length≤1000000000000000) (ht:t.length≤1000000000000000) {La Lb:List (List UInt8)} {ea eb:Int} (ha:nH.aV s=(La,ea)) (hb:nH.aV t=(Lb,eb)):
  Ct lk 60 [aH b 0, .string (str s), .string (str t)] (bI b X) (BE b X (kG tab (La,ea) (Lb,eb))):=by
 have SA:=fF hs ha;have SB:=fF ht hb;obtain⟨zx,hA8⟩:=cW ha;obtain⟨zw,hB8⟩:=cW hb;have BAD: ∀ e:Int,kG tab (La,ea) (Lb,eb)= .inl e→BE b X (kG tab (La,ea) (Lb,eb)) (.int .i64 e) (bI b X):=fun e h=> .inl ⟨e,h,rfl,rfl⟩
 have YES: ∀ T v H',kG tab (La,ea) (Lb,eb)= .inr T→hU b X T X.d.aA 9 4 v H'→BE b X (kG tab (La,ea) (Lb,eb)) v H':=fun T v H' h1 h2=> .inr ⟨T,h1,h2⟩
 have hint:=fun T v H'=>gK (b:=b) (x:=X) (tab':=T) (G:=X.d.aA) (N:=9) (keep:=4) (v:=v) (H':=H')
 refine gH (R:=BE b X (kG tab (La,ea) (Lb,eb))) ?_ fun _ _ h=>h
 generalize BE b X (kG tab (La,ea) (Lb,eb))=RR at*;clear ha hb;by_cases yp:ea=0
 case neg=>
  have zy:=BAD ea (by unfold kG;rw[Jg yp]);obtain⟨d,s0,tn,qf,cf,F,qo,co,Lo⟩:=X;obtain⟨a,ca,cs,w,cw,wl,m,cm,at1,qg,cg,aA⟩:=d;unfold bI bC aX at*;dsimp only[dw,dz] at*;(refine Ye Tryz.func60 Tryz.ntmps60 ?_;intro Fr);refine aM ?_;(refine Ca (SA) ?_;rintro _ _ ⟨_,⟨q1,c1,rfl,rfl⟩,rfl⟩;refine Da ?_);refine aF ?_;exact Ea (x:=zy)
 subst yp;by_cases yo:eb=0
 case neg=>
  have zy:=BAD eb (by unfold kG;rw[Jf Ja,Jg yo]);obtain⟨d,s0,tn,qf,cf,F,qo,co,Lo⟩:=X;obtain⟨a,ca,cs,w,cw,wl,m,cm,at1,qg,cg,aA⟩:=d;unfold bI bC aX at*;dsimp only[dw,dz] at*;(refine Ye Tryz.func60 Tryz.ntmps60 ?_;intro Fr);refine aM ?_;(refine Ca (SA) ?_;rintro _ _ ⟨_,⟨q1,c1,rfl,rfl⟩,rfl⟩;refine Da ?_);refine aM ?_;(refine Ca (SB) ?_;rintro _ _ ⟨_,⟨q2,c2,rfl,rfl⟩,rfl⟩;refine Da ?_);refine aF ?_;exact Ea (x:=zy)
 subst yo;have zj: ∀ s∈La,s.length≤1000000:=fun s hs=>by have:=(zx s hs).2.2.2.1;omega
 have zh: ∀ s∈Lb,s.length≤1000000:=fun s hs=>by have:=(zw s hs).2.2.2.1;omega
 have WA:=fun qL cL=>iK b X.d (.int .i64 X.gJ) (.int .i64 X.turn) (.slice X.qf X.fr.length X.cf) (.slice X.qo X.ops.length X.co) tab hI.pM hI.shut qL cL La Z8 zj
 obtain⟨R,hR⟩: ∃ R,aJ tab 0 La=R:=⟨_,rfl⟩;obtain⟨re,ino⟩:=R;rw[hR] at WA;unfold nV at WA;have UN:=fun qa ca qb cb=>aHZ qa qb ca cb La Lb Z8 Z8
 by_cases h0:re=0
 case neg=>
  have zy:=BAD re (by rw[VW (by rw[hR];exact h0),hR]);obtain⟨d,s0,tn,qf,cf,F,qo,co,Lo⟩:=X;obtain⟨a,ca,cs,w,cw,wl,m,cm,at1,qg,cg,aA⟩:=d;unfold bI bC aX at*;dsimp only[dw,dz] at*;(refine Ye Tryz.func60 Tryz.ntmps60 ?_;intro Fr);refine aM ?_;(refine Ca (SA) ?_;rintro _ _ ⟨_,⟨q1,c1,rfl,rfl⟩,rfl⟩;refine Da ?_);refine aM ?_;(refine Ca (SB) ?_;rintro _ _ ⟨_,⟨q2,c2,rfl,rfl⟩,rfl⟩;refine Da ?_);refine aM ?_;(refine Ca (WA _ _) ?_;rintro _ _ ⟨_,hr,rfl⟩;(try refine Da ?_));rcases hr with⟨_,rfl,rfl⟩|⟨y',l,q,c,⟨h1,_,_⟩,rfl,rfl⟩
  ·refine Da ?_;(refine fH ?_;intro b);exact Ea (x:=zy)
  ·exact absurd h1 h0
 subst h0;have z8:(aJ tab 0 La).1=0:=by rw[hR]
 by_cases zg:La=[]
 ·have zy:=BAD 1 (VX z8 zg);have hz:La.length=0:=by rw[zg];rfl
  obtain⟨d,s0,tn,qf,cf,F,qo,co,Lo⟩:=X;obtain⟨a,ca,cs,w,cw,wl,m,cm,at1,qg,cg,aA⟩:=d;unfold bI bC aX at*;dsimp only[dw,dz] at*;(refine Ye Tryz.func60 Tryz.ntmps60 ?_;intro Fr);refine aM ?_;(refine Ca (SA) ?_;rintro _ _ ⟨_,⟨q1,c1,rfl,rfl⟩,rfl⟩;refine Da ?_);refine aM ?_;(refine Ca (SB) ?_;rintro _ _ ⟨_,⟨q2,c2,rfl,rfl⟩,rfl⟩;refine Da ?_);refine aM ?_;(refine Ca (WA _ _) ?_;rintro _ _ ⟨_,hr,rfl⟩;(try refine Da ?_));rcases hr with⟨h1,_,_⟩|⟨y',l,q,c,⟨_,_,_⟩,rfl,rfl⟩
  ·exact absurd rfl h1
  ·refine Da ?_;(refine fH ?_;intro b);exact Ea (x:=zy)
 have hLa:0<La.length:=mf.2 zg;by_cases zl:La<+:Lb
 ·have M1:=NS (tab:=tab) z8 zg zl;have hd:decide (La<+:Lb)=true:=decide_eq_true zl;rw[hd] at UN;by_cases ym:La.length=Lb.length
  ·rw[Jg ym] at M1;have zy:=BAD 0 M1;obtain⟨d,s0,tn,qf,cf,F,qo,co,Lo⟩:=X;obtain⟨a,ca,cs,w,cw,wl,m,cm,at1,qg,cg,aA⟩:=d;unfold bI bC aX at*;dsimp only[dw,dz] at*;(refine Ye Tryz.func60 Tryz.ntmps60 ?_;intro Fr);refine aM ?_;(refine Ca (SA) ?_;rintro _ _ ⟨_,⟨q1,c1,rfl,rfl⟩,rfl⟩;refine Da ?_);refine aM ?_;(refine Ca (SB) ?_;rintro _ _ ⟨_,⟨q2,c2,rfl,rfl⟩,rfl⟩;refine Da ?_);refine aM ?_;(refine Ca (WA _ _) ?_;rintro _ _ ⟨_,hr,rfl⟩;(try refine Da ?_));rcases hr with⟨h1,_,_⟩|⟨y',l,q,c,⟨_,_,_⟩,rfl,rfl⟩
   ·exact absurd rfl h1
   ·refine Da ?_;(refine zA ?_;intro b);exact Ea (x:=zy)
  ·rw[Jf ym] at M1;have zy:=BAD 17 M1;obtain⟨d,s0,tn,qf,cf,F,qo,co,Lo⟩:=X;obtain⟨a,ca,cs,w,cw,wl,m,cm,at1,qg,cg,aA⟩:=d;unfold bI bC aX at*;dsimp only[dw,dz] at*;(refine Ye Tryz.func60 Tryz.ntmps60 ?_;intro Fr);refine aM ?_;(refine Ca (SA) ?_;rintro _ _ ⟨_,⟨q1,c1,rfl,rfl⟩,rfl⟩;refine Da ?_);refine aM ?_;(refine Ca (SB) ?_;rintro _ _ ⟨_,⟨q2,c2,rfl,rfl⟩,rfl⟩;refine Da ?_);refine aM ?_;(refine Ca (WA _ _) ?_;rintro _ _ ⟨_,hr,rfl⟩;(try refine Da ?_));rcases hr with⟨h1,_,_⟩|⟨y',l,q,c,⟨_,_,_⟩,rfl,rfl⟩
   ·exact absurd rfl h1
   ·refine Da ?_;(refine zA ?_;intro b);exact Ea (x:=zy)
 have hd:decide (La<+:Lb)=false:=decide_eq_false zl;rw[hd] at UN;have M2:=VY (tab:=tab) z8 zg zl;rw[hR] at M2;dsimp only at M2;by_cases z7:Lb=[]
 ·rw[Jg z7] at M2;have zy:=BAD 13 M2;have hz:Lb.length=0:=by rw[z7];rfl
  obtain⟨d,s0,tn,qf,cf,F,qo,co,Lo⟩:=X;obtain⟨a,ca,cs,w,cw,wl,m,cm,at1,qg,cg,aA⟩:=d;unfold bI bC aX at*;dsimp only[dw,dz] at*;(refine Ye Tryz.func60 Tryz.ntmps60 ?_;intro Fr);refine aM ?_;(refine Ca (SA) ?_;rintro _ _ ⟨_,⟨q1,c1,rfl,rfl⟩,rfl⟩;refine Da ?_);refine aM ?_;(refine Ca (SB) ?_;rintro _ _ ⟨_,⟨q2,c2,rfl,rfl⟩,rfl⟩;refine Da ?_);refine aM ?_;(refine Ca (WA _ _) ?_;rintro _ _ ⟨_,hr,rfl⟩;(try refine Da ?_));rcases hr with⟨h1,_,_⟩|⟨y',l,q,c,⟨_,_,_⟩,rfl,rfl⟩
  ·exact absurd rfl h1
  ·refine Da ?_;(refine zA ?_;intro b);exact Ea (x:=zy)
 rw[Jf z7] at M2;obtain⟨ka,yz⟩: ∃ k,La.length=k+1:=⟨La.length-1,Z8⟩;obtain⟨kb,yl⟩: ∃ k,Lb.length=k+1:=⟨Lb.length-1,by have:=mf.2 z7;omega⟩;obtain⟨bL,hold⟩: ∃ z,La[ka]? =some z:=⟨_,ak Z8⟩;obtain⟨name,zv⟩: ∃ z,Lb[kb]? =some z:=⟨_,ak Z8⟩;obtain⟨ga,da,ea⟩:=jT (d:=[]) yz hold;obtain⟨gb,db,eb⟩:=jT (d:=[]) yl zv;rw[ga,da,gb,db] at M2;have yx:=zw name (jg zv);have yi:aJ tab 0 (La.take ka++[bL])=(0,ino):=by rw[←ea];exact hR
 obtain⟨pm,yv,zf⟩:=(dK hT.shut).1 yi;obtain⟨y,hy,xW,yk⟩:=id zf;have yj:=(cI hT.shut hy xW).1;have hf:cS y.aP bL=0:=(uY yj (cQ (yj.2.1 _ yk)).1 yk).1;have zq:=nW hT.once zf;obtain⟨zi,hzi⟩:=oS hT.shut zf;rw[yv,hy] at M2;have AB:=fun qL cL=>qZ b X.d (.int .i64 X.gJ) (.int .i64 X.turn) (.slice X.qf X.fr.length X.cf) (.slice X.qo X.ops.length X.co) tab hI.pM hI.shut qL cL Lb Z8 zh yl zv
 obtain⟨R2,yu⟩: ∃ R,aJ tab 0 (Lb.take kb)=R:=⟨_,rfl⟩;obtain⟨r2,pn⟩:=R2;rw[yu] at AB M2;dsimp only at M2;unfold yG at AB;have TL:=aND b X.d (.int .i64 X.gJ) (.int .i64 X.turn) (.slice X.qf X.fr.length X.cf) (.slice X.qo X.ops.length X.co) hI.pM hI.shut ino (hT.aGY hR);have ht8:=(akG hT hR 0).2;have CF:=fun qL cL (yt:pm≠pn) ex (yh:kY ex) h24 zt k2 g2 z2 q m c qe ce=>aoW b X hI qL cL La Z8 zx yz hold yv hy xW hf yt (ex:=ex) yh h24 yx zt ino zq.2 k2 g2 z2 q m c qe ce
 have C1:=fun qL cL x (hM:jD tab (La.take ka) pm y bL (Lb.take kb) pn x name ino) lx zn q c qe ce=>fun (e:pm=pn)=>ayJ b X hI zk qL cL La Z8 zx yz hold (B:=Lb.take kb) (pn:=pn) (ino:=ino) (x:=x) (y:=y) (name:=name) (by rw[e] at hM;exact hM) (lx:=lx) zn q c qe ce
 have C2:=fun qL cL x (hM:jD tab (La.take ka) pm y bL (Lb.take kb) pn x name ino) yt lx zn q c qe ce=>ayK b X hI zk qL cL La Z8 zx yz hold hM yt (lx:=lx) zn q c qe ce
 generalize yg:yK tab ino=tl at*;clear z8 yg;obtain⟨d,s0,tn,qf,cf,F,qo,co,Lo⟩:=X;obtain⟨a,ca,cs,w,cw,wl,m,cm,at1,qg,cg,aA⟩:=d;unfold bI bC aX at*;dsimp only[dw,dz] at*;(refine Ye Tryz.func60 Tryz.ntmps60 ?_;intro Fr);refine aM ?_;(refine Ca (SA) ?_;rintro _ _ ⟨_,⟨q1,c1,rfl,rfl⟩,rfl⟩;refine Da ?_);refine aM ?_;refine aN (bB (v:= .slice q1 La.length c1) (e:=9) (m:=La.length) (f:=fT) (ys:=La) aU (fun _=>rfl) rfl) ?_;(refine Ca (SB) ?_;rintro _ _ ⟨_,⟨q2,c2,rfl,rfl⟩,rfl⟩;refine Da ?_);refine aM ?_;refine aN (bB (v:= .slice q2 Lb.length c2) (e:=9) (m:=Lb.length) (f:=fT) (ys:=Lb) aU (fun _=>rfl) rfl) ?_;(refine Ca (WA _ _) ?_;rintro _ _ ⟨_,hr,rfl⟩;(try refine Da ?_));rcases hr with⟨h1,_,_⟩|⟨z',l,q,c,⟨_,_,_⟩,rfl,rfl⟩
 ·exact absurd rfl h1
 refine Da ?_;(refine zA ?_;intro b);(refine Ca (AB _ _) ?_;rintro _ _ ⟨_,hr,rfl⟩;(try refine Da ?_));rcases hr with⟨h1,rfl,rfl⟩|⟨x,l2,q3,c3,⟨rfl,hx,zn,hxk⟩,rfl,rfl⟩|⟨x,l2,q3,c3,qe,ce,⟨rfl,hx,zn,hxk,hE⟩,rfl,rfl⟩
 ·rw[Jg h1] at M2;have zy:=BAD r2 M2;refine Da ?_;(refine fH ?_;intro b);exact Ea (x:=zy)
 ·rw[Jf Ja,hx] at M2;dsimp only at M2;rw[Jg hxk] at M2;have zy:=BAD 15 M2;refine Da ?_;(refine fH ?_;intro b);exact Ea (x:=zy)
 rw[Jf Ja,hx] at M2;dsimp only at M2;rw[Jf (by simp [hxk])] at M2;have zr:=mU hE;have FN:=fun q c=>dir.yC q c x.aP name (by have:=zr.1;omega) (fun p hp=>by have:=(cQ (zr.2.1 p hp)).1.2.2.2.1;omega) (by have:=yx.2.2.2.1;omega)
 by_cases zt:cS x.aP name=0
 ·rw[Jg zt] at M2;have zy:=BAD 13 M2;rw[zt] at FN;refine Da ?_;(refine YS ?_;intro b);exact Ea (x:=zy)
 rw[Jf zt] at M2;refine Da ?_;(refine YS ?_;intro b);(refine Ca (TL) ?_;rintro _ _ ⟨_,⟨rfl,rfl⟩,rfl⟩;refine Da ?_);by_cases ze:8<Lb.length+tl
 ·rw[Jg ze] at M2;have zy:=BAD 2 M2;have yf:(8:Int)<(Lb.length:Int)+(tl:Int):=Z8
  refine aF ?_;exact Ea (x:=zy)
 rw[Jf ze] at M2;have yf: ¬ (8:Int)<(Lb.length:Int)+(tl:Int):=Z8
 refine aN (bB (v:= .slice qe x.aP.length ce) (e:=204) (m:=x.aP.length) (f:=fE) (ys:=x.aP) aU (fun _=>rfl) rfl) ?_;refine aN (bB (v:= .slice q3 (pI l2).length c3) (e:=77) (m:=(pI l2).length) (f:=jP) (ys:=pI l2) aU (fun _=>rfl) rfl) ?_;by_cases zu:pm=pn
 ·have zb:lO pm pn x bL=jO x.aP bL:=Jg zu;have ye:y=x:=by rw[zu,hx] at hy;exact (a7 hy).symm
  have za:tO x.aP bL=true:=by rw[←ye];exact (iJ hf).2.2
  have hM:jD tab (La.take ka) pm y bL (Lb.take kb) pn x name ino:=⟨hT,yv,hy,xW,zf,yu,hx,hxk,by rw[←ea, ←eb];exact zl,by rw[zb];exact akD zr za yx zt zq.2⟩;have K1:=C1 q1 c1 x hM l2 zn q3 c3 qe ce zu;rw[Jf (by simp [zu])] at M2;have zm:=fun e H'=>YES _ (.int .i64 e) H' M2
  have yr:=hint (eO tab pm y bL pn x name ino);have K2:eO tab pn y bL pn x name ino=eO tab pm y bL pn x name ino:=by rw[zu]
  rw[K2] at K1;generalize eO tab pm y bL pn x name ino=T2 at*;clear C1 C2 CF hM AB TL WA SA SB UN BAD YES K2 za zb zr FN;refine aF ?_;refine Cb (K1) ?_;rintro _ _ ⟨_,hm,rfl⟩;obtain⟨e2,rfl⟩:=yr _ _ hm;refine aN (cA afs) ?_;refine Da ?_;refine aF ?_;exact Ec (x:=zm _ _ hm)
 ·by_cases h24:x.aP.length=24
  ·rw[Jg ⟨zu,h24⟩] at M2;have zy:=BAD 10 M2;have K1:=CF q1 c1 zu x.aP zr h24 zt (kI l2) (gI l2) (zI l2) q3 (pI l2).length c3 qe ce;clear C1 C2 CF AB WA SA SB UN BAD YES zr FN;refine aF ?_;refine Cb (K1) ?_;rintro _ _ ⟨_,⟨rfl,rfl⟩,rfl⟩;refine Da ?_;refine aF ?_;exact Ea (x:=zy)
  ·have zb:lO pm pn x bL=x.aP:=Jf zu;have hM:jD tab (La.take ka) pm y bL (Lb.take kb) pn x name ino:=⟨hT,yv,hy,xW,zf,yu,hx,hxk,by rw[←ea, ←eb];exact zl,by rw[zb];exact asV zr yx zt h24 zq.2⟩;have K1:=C2 q1 c1 x hM zu l2 zn q3 c3 qe ce;rw[Jf (fun h=>h24 h.2)] at M2;have zm:=fun e H'=>YES _ (.int .i64 e) H' M2
   have yr:=hint (eO tab pm y bL pn x name ino);generalize eO tab pm y bL pn x name ino=T2 at*;clear C1 C2 CF hM AB TL WA SA SB UN BAD YES zb zr FN;refine aF ?_;refine Cb (K1) ?_;rintro _ _ ⟨_,hm,rfl⟩;obtain⟨e2,rfl⟩:=yr _ _ hm;refine aN (cA afs) ?_;refine Da ?_;refine aF ?_;exact Ec (x:=zm _ _ hm)
end fs
namespace fs
open cK dZ cO file dir uU
structure LQ where
 err:Int
 text:List UInt8
 kind:Int
 num:Int
 names:List (List UInt8)
def LQ.val (a:LQ) (q:Option Addr) (c:Nat):Value:=DR a.err a.text a.kind a.num q a.names.length c
def nI (e:Int):LQ:=⟨e,[],0,0,[]⟩
structure sD where
 kind:Int
 path:List UInt8
 other:List UInt8
 at':Int
 num:Int
 text:List UInt8
def sD.val (c:sD):Value:=jG c.kind c.path (str c.other) c.at' c.num c.text
inductive apJ where
 |DS (a:LQ)
 |comm (T:cT) (G:List Int)
def IP (tab:cT) (aA:List Int) (L:List (List UInt8)) (n:Nat):apJ:=match tab (aJ tab 0 L.dropLast).2 with
 |none=> .DS (nI 18)
 |some y=> .comm (dU tab (aJ tab 0 L.dropLast).2 y (L.getLastD []) n) (aA.set n (aA[n]?.getD 0+1))
def akV (tab:cT) (aA:List Int) (ino:Nat) (L:List (List UInt8)) (kind:Int):apJ:=
 if L=[] then .DS (nI 13) else if tA tab (ino=0) (aJ tab 0 L.dropLast) (L.getLastD [])≠0 then .DS (nI (tA tab (ino=0) (aJ tab 0 L.dropLast) (L.getLastD []))) else match tab (aJ tab 0 L.dropLast).2 with
 |none=> .DS (nI 18)
 |some y=> .comm (kE tab (aJ tab 0 L.dropLast).2 y (L.getLastD []) ino kind (aA[ino]?.getD 0)) aA
def akW (tab:cT) (aA:List Int) (c:sD) (L:List (List UInt8)) (n:Nat) (x:Nd):apJ:=
 if c.kind=9 then (if x.kind=2 then .DS ⟨0,[],0,0,x.aP.map (·.1)⟩ else .DS (nI 15))
 else if c.kind=10 then (if x.kind=2 then .DS ⟨0,[],2,(x.aP.length:Int),[]⟩ else .DS ⟨0,[],1,(x.size:Int),[]⟩)
 else if c.kind=6 then (if x.kind=2 then .DS (nI 14) else IP tab aA L n)
 else if c.kind=7 then (if x.kind≠2 then .DS (nI 15) else if L=[] then .DS (nI 1) else if x.aP≠[] then .DS (nI 16) else IP tab aA L n)
 else if x.kind=2 then .DS (nI 14)
 else if c.kind=4 then .DS ⟨rdE c.at' c.num,rdT x c.at' c.num,0,0,[]⟩
 else if c.kind=3 then (if wrE c.at' c.text≠0∨c.text=[] then .DS (nI (wrE c.at' c.text)) else .comm (mJ tab n (some ⟨1,x.gen,kX x.size c.at'.toNat c.text,oG x.size c.at'.toNat c.text x.parts⟩)) aA)
 else (if ctE c.num≠0∨c.num=(x.size:Int) then .DS (nI (ctE c.num)) else .comm (mJ tab n (some ⟨1,x.gen,c.num.toNat,fD c.num.toNat x.parts⟩)) aA)
def takeN (tab:cT) (aA:List Int):Nat:=((mn 48).find? fun n=>decide (1≤n)&&(tab n).isNone&&decide (aA[n]?.getD 0<2147483647)).getD 0
def stepT (tab:cT) (aA:List Int) (c:sD):apJ:=
 if c.kind<1∨10<c.kind then .DS (nI 1)
 else if c.kind = 8 then (match kG tab (nH.aV c.path) (nH.aV c.other) with
  | .inl e=> .DS (nI e)
  | .inr T => .comm T aA)
 else if (nH.aV c.path).2≠0 then .DS (nI (nH.aV c.path).2)
 else if c.kind≤2 then akV tab aA (takeN tab aA) (nH.aV c.path).1 c.kind
 else if (aJ tab 0 (nH.aV c.path).1).1≠0 then .DS (nI (aJ tab 0 (nH.aV c.path).1).1)
 else match tab (aJ tab 0 (nH.aV c.path).1).2 with
 |none=> .DS (nI 18)
 |some x=>akW tab aA c (nH.aV c.path).1 (aJ tab 0 (nH.aV c.path).1).2 x
theorem take_take {x:iV} {tab:cT} (hI:Inv x tab):VD x.d.at' x.d.aA (takeN tab x.d.aA):=by
 have hm:=hI.pM.map;have zw: ∀ n,n<48→(BB x.d.at' x.d.aA n↔tab n=none∧x.d.aA[n]?.getD 0<2147483647):=fun n hn=>by
  obtain⟨g,hg⟩: ∃ g,x.d.aA[n]? =some g:=⟨_,ak (by have:=hm.2.1;omega)⟩;constructor
  ·intro h;refine⟨VG hI h, ?_⟩;obtain⟨p,g',h1,h2,h3,h4⟩:=h;rw[h2];exact h4
  ·rintro⟨h1,h2⟩;rw[hg] at h2;exact⟨(0,0),g,hI.pM.none n hn h1,hg,rfl,h2⟩
 have hp: ∀ n,n<48→((decide (1≤n)&&(tab n).isNone&&decide (x.d.aA[n]?.getD 0<2147483647))=true↔1≤n∧BB x.d.at' x.d.aA n):=fun n hn=>by
  rw[zw n hn];simp only[ir,decide_eq_true_eq,afx];exact⟨fun⟨⟨a,b⟩,c⟩=>⟨a,b,c⟩,fun⟨a,b,c⟩=>⟨⟨a,b⟩,c⟩⟩
 unfold takeN;cases hf:(mn 48).find? fun n=>decide (1≤n)&&(tab n).isNone&&decide (x.d.aA[n]?.getD 0<2147483647) with
 |none=>
  refine .inr ⟨rfl,fun j h1 h2 zv=> ?_⟩;have:=List.find?_eq_none.1 hf j (ace.2 h2);exact this ((hp j h2).2 ⟨h1,zv⟩)
 |some n=>
  have h0:=afy hf;obtain⟨h1,az,bz,h2,h3⟩:=List.find?_eq_some_iff_append.1 hf;have hn:n<48:=ace.1 (by rw[h2];exact List.mem_append.2 (.inr List.mem_cons_self));obtain⟨h4,h5⟩:=(hp n hn).1 h0;refine .inl ⟨h4,hn,h5,fun j j1 j2 hj=> ?_⟩;have j3:j<n:=j2;clear j2;have zu:j∈az:=by
   have zx:(mn 48)[j]? =some j:=by rw[abn Z8]
   have zy:(mn 48)[az.length]? =some n:=by rw[h2,List.getElem?_append_right (df _),Nat.sub_self];rfl
   have hal:az.length=n:=by
    have:=(aj.1 zy).1;rw[abn (by simpa using this)] at zy;exact a7 zy
   rw[h2,lu Z8] at zx;exact jg zx
  have:=h3 j zu;rw[(hp j Z8).2 ⟨j1,hj⟩] at this;cases this
end fs
namespace fs
open cK dZ cO file dir uU
attribute [local irreducible] box own sl bL aH bJ Qt cN cM dG dL eQ
theorem akX (b:Nat) (x:iV) {tab:cT} (hI:Inv x tab) (k:Int) (hk:k=3∨k=4∨k=5∨k=6) (s:List UInt8) (hs:s.length≤1000000000000000) {L:List (List UInt8)} (h:nH.aV s=(L,0)) {ino:Nat} (zw:aJ tab 0 L=(0,ino)) {z:Nd} (hz:tab ino=some z) (zv:z.kind=2) (s2:ByteArray) (at' N:Int) (text:List UInt8):
  Ct lk 15 [aH b 0,jG k s s2 at' N text] (bI b x) fun v H'=>v=eS 14∧H'=bI b (aE x):=by
 have S0:=fF hs h;obtain⟨zy,hl8⟩:=cW h;have FA:=gX;have W0:=fun qL cL=>iK b (aE x).d (.int .i64 (aE x).gJ) (.int .i64 (aE x).turn) (.slice (aE x).qf (aE x).fr.length (aE x).cf) (.slice (aE x).qo (aE x).ops.length (aE x).co) tab hI.pM hI.shut qL cL L Z8 (fun s hs=>by have:=(zy s hs).2.2.2.1;omega)
 rw[zw] at W0;unfold eS at*;unfold nV at W0;unfold aE at*;unfold jG;obtain⟨d,s0,tn,qf,cf,F,qo,co,Lo⟩:=x;obtain⟨a,ca,cs,w,cw,wl,m,cm,at1,qg,cg,aA⟩:=d;unfold bI bC aX at*;dsimp only[dw,dz] at*;rcases hk with rfl|rfl|rfl|rfl;all_goals
  (refine Ye Tryz.func15 Tryz.ntmps15 ?_;intro Fr);refine aO (aS _ 87 3) ?_;(repeat' (first|refine Y2 ?_|(refine Wb ?_;intro b)|(refine Wq ?_;intro q)|(refine Ws ?_ ?_<;>intro h)|refine Wz ?_|fail));(refine Ca (S0) ?_;rintro _ _ ⟨_,⟨q1,c1,rfl,rfl⟩,rfl⟩;refine Da ?_);refine aM ?_;(refine Ca (W0 _ _) ?_;rintro _ _ ⟨_,hr,rfl⟩;(try refine Da ?_));rcases hr with⟨h0,rfl,rfl⟩|⟨y',l,q,c,⟨_,zx,zu⟩,rfl,rfl⟩
  ·exact absurd rfl h0
  ·rw[hz] at zx;cases zx;have zt:kI l=2:=by rw[zu.kind];exact zv
   rw[zt];refine Da ?_;(refine YR ?_;intro b);exact Ea (x:=⟨rfl,rfl⟩)
theorem aeO (b:Nat) (x:iV) {tab:cT} (hI:Inv x tab) (s:List UInt8) (hs:s.length≤1000000000000000) {L:List (List UInt8)} (h:nH.aV s=(L,0)) {ino:Nat} (zw:aJ tab 0 L=(0,ino)) {z:Nd} (hz:tab ino=some z) (zv:z.kind=1) (s2:ByteArray) (at' N:Int) (text:List UInt8):
  Ct lk 15 [aH b 0,jG 9 s s2 at' N text] (bI b x) fun v H'=>v=eS 15∧H'=bI b (aE x):=by
 have S0:=fF hs h;obtain⟨zy,hl8⟩:=cW h;have FA:=gX;have W0:=fun qL cL=>iK b (aE x).d (.int .i64 (aE x).gJ) (.int .i64 (aE x).turn) (.slice (aE x).qf (aE x).fr.length (aE x).cf) (.slice (aE x).qo (aE x).ops.length (aE x).co) tab hI.pM hI.shut qL cL L Z8 (fun s hs=>by have:=(zy s hs).2.2.2.1;omega)
 rw[zw] at W0;have LF:=fun n k gn z2 hk q m c=>azC b (aE x).d (.int .i64 (aE x).gJ) (.int .i64 (aE x).turn) (.slice (aE x).qf (aE x).fr.length (aE x).cf) (.slice (aE x).qo (aE x).ops.length (aE x).co) n k gn z2 hk q m c
 unfold eS at*;unfold nV at W0;unfold aE at*;unfold jG;obtain⟨d,s0,tn,qf,cf,F,qo,co,Lo⟩:=x;obtain⟨a,ca,cs,w,cw,wl,m,cm,at1,qg,cg,aA⟩:=d;unfold bI bC aX at*;dsimp only[dw,dz] at*
 ·(refine Ye Tryz.func15 Tryz.ntmps15 ?_;intro Fr);refine aO (aS _ 87 3) ?_;(repeat' (first|refine Y2 ?_|(refine Wb ?_;intro b)|(refine Wq ?_;intro q)|(refine Ws ?_ ?_<;>intro h)|refine Wz ?_|fail));(refine Ca (S0) ?_;rintro _ _ ⟨_,⟨q1,c1,rfl,rfl⟩,rfl⟩;refine Da ?_);refine aM ?_;(refine Ca (W0 _ _) ?_;rintro _ _ ⟨_,hr,rfl⟩;(try refine Da ?_));rcases hr with⟨h0,rfl,rfl⟩|⟨y',l,q,c,⟨_,zx,zu⟩,rfl,rfl⟩
  ·exact absurd rfl h0
  ·rw[hz] at zx;cases zx;have LF1:=LF (ino:Int) (kI l) (gI l) (zI l) (by rw[zu.kind,zv];decide) q (pI l).length c;refine Da ?_;(refine bD ?_;intro b);(refine Ca (LF1) ?_;rintro _ _ ⟨_,⟨rfl,rfl⟩,rfl⟩;refine Da ?_);refine aF ?_;exact Ea (x:=⟨rfl,rfl⟩)
theorem akY (b:Nat) (x:iV) {tab:cT} (hI:Inv x tab) (s:List UInt8) (hs:s.length≤1000000000000000) {L:List (List UInt8)} (h:nH.aV s=(L,0)) {ino:Nat} (zv:aJ tab 0 L=(0,ino)) {z:Nd} (hz:tab ino=some z) (zx:z.kind=2) (s2:ByteArray) (at' N:Int) (text:List UInt8):
  Ct lk 15 [aH b 0,jG 9 s s2 at' N text] (bI b x) fun v H'=> ∃ q c,v=DR 0 [] 0 0 q (z.aP.map (·.1)).length c∧H'=own (.slice q (z.aP.map (·.1)).length c) 9 1 (z.aP.map (·.1)).length (flat fT (z.aP.map (·.1)))::bI b (aE x):=by
 have S0:=fF hs h;obtain⟨zy,hl8⟩:=cW h;have FA:=gX;have W0:=fun qL cL=>iK b (aE x).d (.int .i64 (aE x).gJ) (.int .i64 (aE x).turn) (.slice (aE x).qf (aE x).fr.length (aE x).cf) (.slice (aE x).qo (aE x).ops.length (aE x).co) tab hI.pM hI.shut qL cL L Z8 (fun s hs=>by have:=(zy s hs).2.2.2.1;omega)
 rw[zv] at W0;have LD:=fun l (hl:eN (aE x).d ino z l) q c=>aHV b (aE x).d (.int .i64 (aE x).gJ) (.int .i64 (aE x).turn) (.slice (aE x).qf (aE x).fr.length (aE x).cf) (.slice (aE x).qo (aE x).ops.length (aE x).co) ino z l hl zx (cI hI.shut hz zx).2 q c
 unfold DR at LD ⊢;unfold eS at*;unfold nV at W0;unfold aE at*;unfold jG;obtain⟨d,s0,tn,qf,cf,F,qo,co,Lo⟩:=x;obtain⟨a,ca,cs,w,cw,wl,m,cm,at1,qg,cg,aA⟩:=d;unfold bI bC aX at*;dsimp only[dw,dz] at*
 ·(refine Ye Tryz.func15 Tryz.ntmps15 ?_;intro Fr);refine aO (aS _ 87 3) ?_;(repeat' (first|refine Y2 ?_|(refine Wb ?_;intro b)|(refine Wq ?_;intro q)|(refine Ws ?_ ?_<;>intro h)|refine Wz ?_|fail));(refine Ca (S0) ?_;rintro _ _ ⟨_,⟨q1,c1,rfl,rfl⟩,rfl⟩;refine Da ?_);refine aM ?_;(refine Ca (W0 _ _) ?_;rintro _ _ ⟨_,hr,rfl⟩;(try refine Da ?_));rcases hr with⟨h0,rfl,rfl⟩|⟨y',l,q,c,⟨_,zw,zu⟩,rfl,rfl⟩
  ·exact absurd rfl h0
  ·rw[hz] at zw;cases zw;have LD1:=LD l zu q c;refine Da ?_;(refine bD ?_;intro b);(refine Ca (LD1) ?_;rintro _ _ ⟨_,⟨q5,c5,rfl,rfl⟩,rfl⟩;refine Da ?_);refine aF ?_;exact Ea (x:=⟨_,_,rfl,rfl⟩)
theorem akZ (b:Nat) (x:iV) {tab:cT} (hI:Inv x tab) (s:List UInt8) (hs:s.length≤1000000000000000) {L:List (List UInt8)} (h:nH.aV s=(L,0)) {ino:Nat} (zu:aJ tab 0 L=(0,ino)) {z:Nd} (hz:tab ino=some z) (zx:z.kind=2) (s2:ByteArray) (at' N:Int) (text:List UInt8):
  Ct lk 15 [aH b 0,jG 10 s s2 at' N text] (bI b x) fun v H'=>v=DR 0 [] 2 (z.aP.length:Int) none 0 0∧H'=bI b (aE x):=by
 have S0:=fF hs h;obtain⟨zy,hl8⟩:=cW h;have FA:=gX;have W0:=fun qL cL=>iK b (aE x).d (.int .i64 (aE x).gJ) (.int .i64 (aE x).turn) (.slice (aE x).qf (aE x).fr.length (aE x).cf) (.slice (aE x).qo (aE x).ops.length (aE x).co) tab hI.pM hI.shut qL cL L Z8 (fun s hs=>by have:=(zy s hs).2.2.2.1;omega)
 rw[zu] at W0;have LD:=fun l (hl:eN (aE x).d ino z l) q c=>aHW b (aE x).d (.int .i64 (aE x).gJ) (.int .i64 (aE x).turn) (.slice (aE x).qf (aE x).fr.length (aE x).cf) (.slice (aE x).qo (aE x).ops.length (aE x).co) ino z l hl zx (cI hI.shut hz zx).2 q c
 unfold DR at LD ⊢;unfold eS at*;unfold nV at W0;unfold aE at*;unfold jG;obtain⟨d,s0,tn,qf,cf,F,qo,co,Lo⟩:=x;obtain⟨a,ca,cs,w,cw,wl,m,cm,at1,qg,cg,aA⟩:=d;unfold bI bC aX at*;dsimp only[dw,dz] at*
 ·(refine Ye Tryz.func15 Tryz.ntmps15 ?_;intro Fr);refine aO (aS _ 87 3) ?_;(repeat' (first|refine Y2 ?_|(refine Wb ?_;intro b)|(refine Wq ?_;intro q)|(refine Ws ?_ ?_<;>intro h)|refine Wz ?_|fail));(refine Ca (S0) ?_;rintro _ _ ⟨_,⟨q1,c1,rfl,rfl⟩,rfl⟩;refine Da ?_);refine aM ?_;(refine Ca (W0 _ _) ?_;rintro _ _ ⟨_,hr,rfl⟩;(try refine Da ?_));rcases hr with⟨h0,rfl,rfl⟩|⟨y',l,q,c,⟨_,zw,zv⟩,rfl,rfl⟩
  ·exact absurd rfl h0
  ·rw[hz] at zw;cases zw;have LD1:=LD l zv q c;have zt:kI l=2:=by rw[zv.kind];exact zx
   rw[zt];refine Da ?_;(refine bD ?_;intro b);(refine Ca (LD1) ?_;rintro _ _ ⟨_,⟨rfl,rfl⟩,rfl⟩;refine Da ?_);refine aF ?_;exact Ea (x:=⟨rfl,rfl⟩)
theorem XP (b:Nat) (x:iV) {tab:cT} (hI:Inv x tab) (s:List UInt8) (hs:s.length≤1000000000000000) {L:List (List UInt8)} (h:nH.aV s=(L,0)) {ino:Nat} (zw:aJ tab 0 L=(0,ino)) {z:Nd} (hz:tab ino=some z) (zv:z.kind=1) (s2:ByteArray) (at' N:Int) (text:List UInt8):
  Ct lk 15 [aH b 0,jG 7 s s2 at' N text] (bI b x) fun v H'=>v=eS 15∧H'=bI b (aE x):=by
 have S0:=fF hs h;obtain⟨zy,hl8⟩:=cW h;have FA:=gX;have W0:=fun qL cL=>iK b (aE x).d (.int .i64 (aE x).gJ) (.int .i64 (aE x).turn) (.slice (aE x).qf (aE x).fr.length (aE x).cf) (.slice (aE x).qo (aE x).ops.length (aE x).co) tab hI.pM hI.shut qL cL L Z8 (fun s hs=>by have:=(zy s hs).2.2.2.1;omega)
 rw[zw] at W0;have LF:=fun qL mL cL n k gn z2 hk q m c=>apG b (aE x).d (.int .i64 (aE x).gJ) (.int .i64 (aE x).turn) (.slice (aE x).qf (aE x).fr.length (aE x).cf) (.slice (aE x).qo (aE x).ops.length (aE x).co) qL mL cL n k gn z2 hk q m c
 unfold eS at*;unfold nV at W0;unfold aE at*;unfold jG;obtain⟨d,s0,tn,qf,cf,F,qo,co,Lo⟩:=x;obtain⟨a,ca,cs,w,cw,wl,m,cm,at1,qg,cg,aA⟩:=d;unfold bI bC aX at*;dsimp only[dw,dz] at*
 ·(refine Ye Tryz.func15 Tryz.ntmps15 ?_;intro Fr);refine aO (aS _ 87 3) ?_;(repeat' (first|refine Y2 ?_|(refine Wb ?_;intro b)|(refine Wq ?_;intro q)|(refine Ws ?_ ?_<;>intro h)|refine Wz ?_|fail));(refine Ca (S0) ?_;rintro _ _ ⟨_,⟨q1,c1,rfl,rfl⟩,rfl⟩;refine Da ?_);refine aM ?_;(refine Ca (W0 _ _) ?_;rintro _ _ ⟨_,hr,rfl⟩;(try refine Da ?_));rcases hr with⟨h0,rfl,rfl⟩|⟨y',l,q,c,⟨_,zx,zu⟩,rfl,rfl⟩
  ·exact absurd rfl h0
  ·rw[hz] at zx;cases zx;have LF1:=LF q1 L.length c1 (ino:Int) (kI l) (gI l) (zI l) (by rw[zu.kind,zv];decide) q (pI l).length c;refine Da ?_;(refine bD ?_;intro b);(refine Ca (LF1) ?_;rintro _ _ ⟨_,⟨rfl,rfl⟩,rfl⟩;refine Da ?_);refine lG ?_;exact Ea (x:=⟨rfl,rfl⟩)
theorem NT (b:Nat) (x:iV) {tab:cT} (hI:Inv x tab) (s:List UInt8) (hs:s.length≤1000000000000000) {L:List (List UInt8)} (h:nH.aV s=(L,0)) {ino:Nat} (zv:aJ tab 0 L=(0,ino)) {z:Nd} (hz:tab ino=some z) (zx:z.kind=2) (zu:L.length=0∨z.aP≠[]) (s2:ByteArray) (at' N:Int) (text:List UInt8):
  Ct lk 15 [aH b 0,jG 7 s s2 at' N text] (bI b x) fun v H'=>v=eS (if L.length=0 then 1 else 16)∧H'=bI b (aE x):=by
 have S0:=fF hs h;obtain⟨zy,hl8⟩:=cW h;have FA:=gX;have W0:=fun qL cL=>iK b (aE x).d (.int .i64 (aE x).gJ) (.int .i64 (aE x).turn) (.slice (aE x).qf (aE x).fr.length (aE x).cf) (.slice (aE x).qo (aE x).ops.length (aE x).co) tab hI.pM hI.shut qL cL L Z8 (fun s hs=>by have:=(zy s hs).2.2.2.1;omega)
 rw[zv] at W0;have LD:=fun qL cL l (hl:eN (aE x).d ino z l) q c=>aHX b (aE x).d (.int .i64 (aE x).gJ) (.int .i64 (aE x).turn) (.slice (aE x).qf (aE x).fr.length (aE x).cf) (.slice (aE x).qo (aE x).ops.length (aE x).co) qL L.length cL ino z l hl zx (cI hI.shut hz zx).2 zu q c
 unfold eS at*;unfold nV at W0;unfold aE at*;unfold jG;obtain⟨d,s0,tn,qf,cf,F,qo,co,Lo⟩:=x;obtain⟨a,ca,cs,w,cw,wl,m,cm,at1,qg,cg,aA⟩:=d;unfold bI bC aX at*;dsimp only[dw,dz] at*;generalize (if L.length=0 then (1:Int) else 16)=e9 at*
 ·(refine Ye Tryz.func15 Tryz.ntmps15 ?_;intro Fr);refine aO (aS _ 87 3) ?_;(repeat' (first|refine Y2 ?_|(refine Wb ?_;intro b)|(refine Wq ?_;intro q)|(refine Ws ?_ ?_<;>intro h)|refine Wz ?_|fail));(refine Ca (S0) ?_;rintro _ _ ⟨_,⟨q1,c1,rfl,rfl⟩,rfl⟩;refine Da ?_);refine aM ?_;(refine Ca (W0 _ _) ?_;rintro _ _ ⟨_,hr,rfl⟩;(try refine Da ?_));rcases hr with⟨h0,rfl,rfl⟩|⟨y',l,q,c,⟨_,zw,zt⟩,rfl,rfl⟩
  ·exact absurd rfl h0
  ·rw[hz] at zw;cases zw;have LD1:=LD q1 c1 l zt q c;refine Da ?_;(refine bD ?_;intro b);(refine Ca (LD1) ?_;rintro _ _ ⟨_,⟨rfl,rfl⟩,rfl⟩;refine Da ?_);refine lG ?_;exact Ea (x:=⟨rfl,rfl⟩)
theorem aNM (b:Nat) (x:iV) {tab:cT} (hI:Inv x tab) (s:List UInt8) (hs:s.length≤1000000000000000) {L:List (List UInt8)} (h:nH.aV s=(L,0)) {ino:Nat} (zv:aJ tab 0 L=(0,ino)) {z:Nd} (hz:tab ino=some z) (zu:z.kind=1) (s2:ByteArray) (at' N:Int) (ha:at'≤9223372036854775807) (hN:N≤9223372036854775807) (text:List UInt8):
  Ct lk 15 [aH b 0,jG 4 s s2 at' N text] (bI b x) fun v H'=>v=DR (rdE at' N) (rdT z at' N) 0 0 none 0 0∧H'=bI b (aE x):=by
 have S0:=fF hs h;obtain⟨zy,hl8⟩:=cW h;have FA:=gX;have W0:=fun qL cL=>iK b (aE x).d (.int .i64 (aE x).gJ) (.int .i64 (aE x).turn) (.slice (aE x).qf (aE x).fr.length (aE x).cf) (.slice (aE x).qo (aE x).ops.length (aE x).co) tab hI.pM hI.shut qL cL L Z8 (fun s hs=>by have:=(zy s hs).2.2.2.1;omega)
 rw[zv] at W0;have RD:=fun l (hl:eN (aE x).d ino z l) q c=>apI b (aE x).d (.int .i64 (aE x).gJ) (.int .i64 (aE x).turn) (.slice (aE x).qf (aE x).fr.length (aE x).cf) (.slice (aE x).qo (aE x).ops.length (aE x).co) hl ⟨s.toArray⟩ s2 at' N ha hN text q c
 unfold DR at RD ⊢;generalize rdE at' N=e9 at*;generalize rdT z at' N=t9 at*;unfold eS at*;unfold nV at W0;unfold aE at*;unfold jG;obtain⟨d,s0,tn,qf,cf,F,qo,co,Lo⟩:=x;obtain⟨a,ca,cs,w,cw,wl,m,cm,at1,qg,cg,aA⟩:=d;unfold bI bC aX at*;dsimp only[dw,dz] at*
 ·(refine Ye Tryz.func15 Tryz.ntmps15 ?_;intro Fr);refine aO (aS _ 87 3) ?_;(repeat' (first|refine Y2 ?_|(refine Wb ?_;intro b)|(refine Wq ?_;intro q)|(refine Ws ?_ ?_<;>intro h)|refine Wz ?_|fail));(refine Ca (S0) ?_;rintro _ _ ⟨_,⟨q1,c1,rfl,rfl⟩,rfl⟩;refine Da ?_);refine aM ?_;(refine Ca (W0 _ _) ?_;rintro _ _ ⟨_,hr,rfl⟩;(try refine Da ?_));rcases hr with⟨h0,rfl,rfl⟩|⟨y',l,q,c,⟨_,zx,zw⟩,rfl,rfl⟩
  ·exact absurd rfl h0
  ·rw[hz] at zx;cases zx;have RD1:=RD l zw q c;have zt:kI l=1:=by rw[zw.kind];exact zu
   rw[zt] at RD1 ⊢;clear RD W0;refine Da ?_;(refine bD ?_;intro b);(refine Ca (RD1) ?_;rintro _ _ ⟨_,⟨rfl,rfl⟩,rfl⟩;refine Da ?_);refine aF ?_;exact Ea (x:=⟨rfl,rfl⟩)
theorem aIF (b:Nat) (x:iV) {tab:cT} (hI:Inv x tab) (hO:VH tab) (s:List UInt8) (hs:s.length≤1000000000000000) {L:List (List UInt8)} (h:nH.aV s=(L,0)) {nm:List UInt8} {k:Nat} (hk:L.length=k+1) (zq:L[k]? =some nm) {rn:Nat} {y:Nd} (hw:aJ tab 0 (L.take k)=(0,rn)) (hy:tab rn=some y) (zv:y.kind=2) (hf:cS y.aP nm=0) {ino:Nat} (zx:ino=(jN y.aP nm).toNat) (zn:aJ tab 0 L=(0,ino)) {z:Nd} (hz:tab ino=some z) (zu:z.kind=2) (zw:z.gen<2147483647) (zt:z.aP=[]) (s2:ByteArray) (at' N:Int) (text:List UInt8):
  Ct lk 15 [aH b 0,jG 7 s s2 at' N text] (bI b x) (VL b (aE x) (dU tab rn y nm ino) ((aE x).d.aA.set ino ((aE x).d.aA[ino]?.getD 0+1)) 3 4):=by
 have S0:=fF hs h;obtain⟨zy,hl8⟩:=cW h;have FA:=gX;have W0:=fun qL cL=>iK b (aE x).d (.int .i64 (aE x).gJ) (.int .i64 (aE x).turn) (.slice (aE x).qf (aE x).fr.length (aE x).cf) (.slice (aE x).qo (aE x).ops.length (aE x).co) tab hI.pM hI.shut qL cL L Z8 (fun s hs=>by have:=(zy s hs).2.2.2.1;omega)
 rw[zn] at W0;have GA:=fun qL cL l hl q c=>aHY b (aE x) (qN hI) hO (fe _) qL cL L Z8 zy hk zq hw hy zv hf zx hz zu zw zt (l:=l) hl (cI hI.shut hz zu).2 q c
 have YES: ∀ (e:Int) H',hU b (aE x) (dU tab rn y nm ino) ((aE x).d.aA.set ino ((aE x).d.aA[ino]?.getD 0+1)) 3 4 (.int .i64 e) H'→VL b (aE x) (dU tab rn y nm ino) ((aE x).d.aA.set ino ((aE x).d.aA[ino]?.getD 0+1)) 3 4 (eS e) H':=fun e H' h=>⟨e,rfl,h⟩
 have hint:=fun v H'=>gK (b:=b) (x:=aE x) (tab':=dU tab rn y nm ino) (G:=((aE x).d.aA.set ino ((aE x).d.aA[ino]?.getD 0+1))) (N:=3) (keep:=4) (v:=v) (H':=H')
 refine gH (R:=VL b (aE x) (dU tab rn y nm ino) ((aE x).d.aA.set ino ((aE x).d.aA[ino]?.getD 0+1)) 3 4) ?_ fun _ _ h=>h
 generalize VL b (aE x) (dU tab rn y nm ino) ((aE x).d.aA.set ino ((aE x).d.aA[ino]?.getD 0+1)) 3 4=RR at*;generalize hU b (aE x) (dU tab rn y nm ino) ((aE x).d.aA.set ino ((aE x).d.aA[ino]?.getD 0+1)) 3 4=CR at*;unfold eS at FA YES;unfold nV at W0;unfold aE at GA W0;unfold jG;clear hw hy zv hf zx zw zt;obtain⟨d,s0,tn,qf,cf,F,qo,co,Lo⟩:=x;obtain⟨a,ca,cs,w,cw,wl,m,cm,at1,qg,cg,aA⟩:=d;unfold bI bC aX at*;dsimp only[dw,dz] at*;(refine Ye Tryz.func15 Tryz.ntmps15 ?_;intro Fr);refine aO (aS _ 87 3) ?_;(repeat' (first|refine Y2 ?_|(refine Wb ?_;intro b)|(refine Wq ?_;intro q)|(refine Ws ?_ ?_<;>intro h)|refine Wz ?_|fail));(refine Ca (S0) ?_;rintro _ _ ⟨_,⟨q1,c1,rfl,rfl⟩,rfl⟩;refine Da ?_);refine aM ?_;(refine Ca (W0 _ _) ?_;rintro _ _ ⟨_,hr,rfl⟩;(try refine Da ?_));rcases hr with⟨h0,rfl,rfl⟩|⟨y',l,q,c,⟨_,zr,zm⟩,rfl,rfl⟩
 ·exact absurd rfl h0
 ·rw[hz] at zr;cases zr;have GA1:=GA q1 c1 l zm q c;clear GA W0;refine Da ?_;(refine bD ?_;intro b);refine aN (bB (v:= .slice q1 L.length c1) (e:=9) (m:=L.length) (f:=fT) (ys:=L) aU (fun _=>rfl) rfl) ?_;refine aN (bB (v:= .slice q (pI l).length c) (e:=77) (m:=(pI l).length) (f:=jP) (ys:=pI l) aU (fun _=>rfl) rfl) ?_;refine Cb (GA1) ?_;rintro _ _ ⟨_,hm,rfl⟩;obtain⟨e2,rfl⟩:=hint _ _ hm;refine aN (cA afs) ?_;refine Da ?_;refine lG ?_;exact Ec (x:=YES e2 _ hm)
theorem aIG {b:Nat} {x:iV} {tab:cT} {n:Nat} {y:Nd} {m:Int} {v:Value} {H':List Ent} (h:CtR b x tab n y m v H'): ∃ e:Int,v=eS e:=by
 rcases h with⟨_,h,_⟩|⟨_,e,h,_⟩
 ·exact⟨_,h⟩
 ·exact⟨e,h⟩
theorem aSC (b:Nat) (x:iV) {tab:cT} (hI:Inv x tab) (s:List UInt8) (hs:s.length≤1000000000000000) {L:List (List UInt8)} (h:nH.aV s=(L,0)) {ino:Nat} (zu:aJ tab 0 L=(0,ino)) {z:Nd} (hz:tab ino=some z) (zx:z.kind=1) (s2:ByteArray) (at' N:Int) (text:List UInt8):
  Ct lk 15 [aH b 0,jG 5 s s2 at' N text] (bI b x) (CtR b (aE x) tab ino z N):=by
 have S0:=fF hs h;obtain⟨zy,hl8⟩:=cW h;have W0:=fun qL cL=>iK b (aE x).d (.int .i64 (aE x).gJ) (.int .i64 (aE x).turn) (.slice (aE x).qf (aE x).fr.length (aE x).cf) (.slice (aE x).qo (aE x).ops.length (aE x).co) tab hI.pM hI.shut qL cL L Z8 (fun s hs=>by have:=(zy s hs).2.2.2.1;omega)
 rw[zu] at W0;have BA:=fun l hl q c=>azD b (aE x) (qN hI) (fe _) hz zx (l:=l) hl ⟨s.toArray⟩ s2 at' N text q c
 have hint:=fun v H'=>aIG (b:=b) (x:=aE x) (tab:=tab) (n:=ino) (y:=z) (m:=N) (v:=v) (H':=H')
 refine gH (R:=CtR b (aE x) tab ino z N) ?_ fun _ _ h=>h
 generalize CtR b (aE x) tab ino z N=RR at*;unfold eS at hint;unfold nV at W0;unfold aE at BA W0;unfold jG;obtain⟨d,s0,tn,qf,cf,F,qo,co,Lo⟩:=x;obtain⟨a,ca,cs,w,cw,wl,m,cm,at1,qg,cg,aA⟩:=d;unfold bI bC aX at*;dsimp only[dw,dz] at*;(refine Ye Tryz.func15 Tryz.ntmps15 ?_;intro Fr);refine aO (aS _ 87 3) ?_;(repeat' (first|refine Y2 ?_|(refine Wb ?_;intro b)|(refine Wq ?_;intro q)|(refine Ws ?_ ?_<;>intro h)|refine Wz ?_|fail));(refine Ca (S0) ?_;rintro _ _ ⟨_,⟨q1,c1,rfl,rfl⟩,rfl⟩;refine Da ?_);refine aM ?_;(refine Ca (W0 _ _) ?_;rintro _ _ ⟨_,hr,rfl⟩;(try refine Da ?_));rcases hr with⟨h0,rfl,rfl⟩|⟨y',l,q,c,⟨_,zw,zv⟩,rfl,rfl⟩
 ·exact absurd rfl h0
 ·rw[hz] at zw;cases zw;have zt:kI l=1:=by rw[zv.kind];exact zx
  have BA1:=BA l zv;rw[zt] at BA1 ⊢;clear BA W0;refine Da ?_;(refine bD ?_;intro b);refine aN (bB (v:= .slice q (pI l).length c) (e:=77) (m:=(pI l).length) (f:=jP) (ys:=pI l) aU (fun _=>rfl) rfl) ?_;refine Cb (BA1 _ _) ?_;rintro _ _ ⟨_,hm,rfl⟩;obtain⟨e2,rfl⟩:=hint _ _ hm;refine aN (cA afs) ?_;refine Da ?_;refine aF ?_;exact Ec (x:=hm)
theorem aNN (b:Nat) (x:iV) {tab:cT} (hI:Inv x tab) (hT:LI tab) (s t:List UInt8) (hs:s.length≤1000000000000000) (ht:t.length≤1000000000000000) (at' N:Int) (text:List UInt8):
  Ct lk 15 [aH b 0,jG 8 s (str t) at' N text] (bI b x) fun v H'=> ∃ e:Int,v=eS e∧BE b (aE x) (kG tab (nH.aV s) (nH.aV t)) (.int .i64 e) H':=by
 have FA:=gX;have MV:=aIA b (aE x) (qN hI) hT (fe _) s t hs ht (La:=(nH.aV s).1) (ea:=(nH.aV s).2) (Lb:=(nH.aV t).1) (eb:=(nH.aV t).2) rfl rfl;rw[show ((nH.aV s).1,(nH.aV s).2)=nH.aV s from rfl,show ((nH.aV t).1,(nH.aV t).2)=nH.aV t from rfl] at MV;generalize kG tab (nH.aV s) (nH.aV t)=o at*;have hint: ∀ v H',BE b (aE x) o v H'→ ∃ e:Int,v= .int .i64 e:=fun v H' h=>by
  rcases h with⟨e,_,h,_⟩|⟨T,_,h⟩
  ·exact⟨e,h⟩
  ·exact gK h
 have YES: ∀ (e:Int) H',BE b (aE x) o (.int .i64 e) H'→ ∃ e':Int,eS e=eS e'∧BE b (aE x) o (.int .i64 e') H':=fun e H' h=>⟨e,rfl,h⟩
 unfold eS at FA YES ⊢;generalize BE b (aE x) o=RR at*;unfold aE at MV;unfold jG;clear hI hT;obtain⟨d,s0,tn,qf,cf,F,qo,co,Lo⟩:=x;obtain⟨a,ca,cs,w,cw,wl,m,cm,at1,qg,cg,aA⟩:=d;unfold bI bC aX at*;dsimp only[dw,dz] at*;(refine Ye Tryz.func15 Tryz.ntmps15 ?_;intro Fr);refine aO (aS _ 87 3) ?_;(repeat' (first|refine Y2 ?_|(refine Wb ?_;intro b)|(refine Wq ?_;intro q)|(refine Ws ?_ ?_<;>intro h)|refine Wz ?_|fail));refine Cb (MV) ?_;rintro _ _ ⟨_,hm,rfl⟩;obtain⟨e2,rfl⟩:=hint _ _ hm;refine aN (cA afs) ?_;refine Da ?_;refine lG ?_;exact Ec (x:=YES e2 _ hm)
end fs
namespace fs
open cK dZ cO file dir uU
def aIH (b:Nat) (x:iV) (o:apJ) (v:Value) (H':List Ent):Prop:=match o with
 | .DS a=> ∃ q c,v=a.val q c∧H'=own (.slice q a.names.length c) 9 1 a.names.length (flat fT a.names)::bI b x
 | .comm T G=> ∃ (e:Int) (H1:List Ent),v=eS e∧hU b x T G 9 4 (.int .i64 e) H1∧H'=own (.slice none 0 0) 9 1 0 []::H1
theorem IQ {P:Program} {f:FuncId} {args:List Value} {H:List Ent} {R:Value→List Ent→Prop} (e sz:Nat) (h:Ct P f args H R):Ct P f args H fun v H'=> ∃ H1,R v H1∧H'=own (.slice none 0 0) e sz 0 []::H1:=
 ⟨fun Fr w hw=>(h.go Fr w hw).mono fun e' w' ⟨v,H',h1,h2,h4⟩=>⟨v,_,h1,⟨H',h2,rfl⟩,aS _ _ _ w' h4⟩⟩
theorem azE {b:Nat} {x:iV} {T:cT} {G:List Int} {N N' keep:Nat} {v:Value} {H':List Ent} (h:hU b x T G N keep v H') (hN:N≤N'):hU b x T G N' keep v H':=by
 rcases h with⟨⟨k,hk,hf⟩,h⟩|⟨x',k,W,⟨hI,⟨hk,zy⟩,hr⟩,h⟩
 ·exact .inl ⟨⟨k,Z8,hf⟩,h⟩
 ·exact .inr ⟨x',k,W,⟨hI,⟨Z8,zy⟩,hr⟩,h⟩
section
variable {b:Nat} {x:iV} {f:FuncId} {args:List Value}
theorem lA {H:List Ent} {e:Int} (h:Ct lk f args H fun v H'=>v=eS e∧H'=bI b x):Ct lk f args H (aIH b x (.DS (nI e))):=
 bY (IQ 9 1 h) fun v H' ⟨H1,⟨h1,h2⟩,h3⟩=>⟨none,0,h1,by rw[h3,h2];rfl⟩
theorem VZ {H:List Ent} {e:Int} {t:List UInt8} {k n:Int} (h:Ct lk f args H fun v H'=>v=DR e t k n none 0 0∧H'=bI b x):Ct lk f args H (aIH b x (.DS ⟨e,t,k,n,[]⟩)):=
 bY (IQ 9 1 h) fun v H' ⟨H1,⟨h1,h2⟩,h3⟩=>⟨none,0,h1,by rw[h3,h2];rfl⟩
theorem rA {H:List Ent} {T:cT} {G:List Int} {N:Nat} (hN:N≤9) (h:Ct lk f args H (VL b x T G N 4)):Ct lk f args H (aIH b x (.comm T G)):=
 bY (IQ 9 1 h) fun v H' ⟨H1,⟨e,h1,h2⟩,h3⟩=>⟨e,H1,h1,azE h2 hN,h3⟩
end
theorem zZ {L:List (List UInt8)} (h:L≠[]): ∃ k nm,L.length=k+1∧L[k]? =some nm∧L.getLastD []=nm∧L.dropLast=L.take k:=by
 have hl:=mf.2 h;obtain⟨k,hk⟩: ∃ k,L.length=k+1:=⟨L.length-1,Z8⟩;obtain⟨nm,hn⟩: ∃ z,L[k]? =some z:=⟨_,ak Z8⟩;obtain⟨h1,h2,_⟩:=jT (d:=[]) hk hn;exact⟨k,nm,hk,hn,h1,h2⟩
structure asW (c:sD):Prop where
 path:c.path.length≤1000000000000000
 other:c.other.length≤1000000000000000
 text:c.text.length≤1000000000000000
 at':c.at'≤9223372036854775807
 num:c.num≤9223372036854775807
theorem azF {x:iV} {tab:cT} (hI:Inv x tab) (zy: ∀ g∈x.d.aA,g<2147483647) {n:Nat} {z:Nd} (hz:tab n=some z):z.gen<2147483647:=by
 obtain⟨l,p,g,_,_,h2,_,_,h5,_⟩:=PO hI.pM hz;rw[←h5];exact zy g (jg h2)
theorem aNO (b:Nat) (x:iV) {tab:cT} (hI:Inv x tab) (hT:LI tab) (zj: ∀ g∈x.d.aA,g<2147483647) (c:sD) (hk:c.kind≠11∧c.kind≠12) (hc:asW c):Ct lk 15 [aH b 0,c.val] (bI b x) (aIH b (aE x) (stepT tab x.d.aA c)):=by
 obtain⟨k,s,t,at',N,text⟩:=c;obtain⟨h1,h2,h3,h4,h5⟩:=hc;dsimp only at hk h1 h2 h3 h4 h5;unfold sD.val stepT;dsimp only;by_cases za:k<1∨10<k
 ·rw[Jg za];exact lA (aSA b x k Z8 s (str t) at' N text)
 rw[Jf za];by_cases z8:k=8
 ·subst z8;rw[Jg rfl];have D:=aNN b x hI hT s t h1 h2 at' N text;cases ho:kG tab (nH.aV s) (nH.aV t) with
  |inl e=>
   rw[ho] at D;refine lA (bY D fun v H' ⟨e',hv,hm⟩=> ?_);rcases hm with⟨e2,he,yv,hH⟩|⟨T,he,_⟩
   ·cases he;cases yv;exact⟨hv,hH⟩
   ·cases he
  |inr T=>
   rw[ho] at D;refine rA (df _) (bY D fun v H' ⟨e',hv,hm⟩=> ?_);rcases hm with⟨e2,he,_⟩|⟨T2,he,hm⟩
   ·cases he
   ·cases he;exact⟨e',hv,hm⟩
 rw[Jf z8];have yu:aHT k:=by unfold aHT;omega
 obtain⟨L,e,zw⟩: ∃ L e,nH.aV s=(L,e):=⟨_,_,rfl⟩;rw[zw];dsimp only;by_cases he:e=0
 case neg=>
  rw[Jg he];exact lA (aeM b x k yu s h1 zw he (str t) at' N text)
 subst he;rw[Jf Ja];obtain⟨hgood,hl8⟩:=cW zw;by_cases z7:k≤2
 ·rw[Jg z7];have zr:k=1∨k=2:=Z8
  unfold akV;by_cases hL:L=[]
  ·rw[Jg hL];subst hL;exact lA (aeN b x k zr s h1 zw (str t) at' N text)
  ·rw[Jf hL];obtain⟨j,nm,hj,zn,e1,e2⟩:=zZ hL;rw[e1,e2];have yz:=take_take hI;have htn:takeN tab x.d.aA<48:=by rcases yz with⟨_,h,_⟩|⟨h,_⟩<;>omega
   obtain⟨g,hg⟩: ∃ g,x.d.aA[takeN tab x.d.aA]? =some g:=⟨_,ak (by have:=hI.pM.map.2.1;omega)⟩;have D:=aNH b x hI k zr s h1 zw hj zn yz hg (str t) at' N text;rw[hg];show Ct _ _ _ _ (aIH b (aE x) (if _ then _ else match _ with|none=>_|some y=>apJ.comm (kE tab _ y nm _ k g) _));by_cases zv:tA tab (takeN tab x.d.aA=0) (aJ tab 0 (L.take j)) nm=0
   ·rw[Jf (by simp [zv])];have hy: ∃ y,tab (aJ tab 0 (L.take j)).2=some y:=by
     unfold tA at zv;split at zv
     ·next h=>exact absurd zv h
     ·split at zv
      ·cases zv
      ·next y hy=>exact⟨y,hy⟩
    obtain⟨y,hy⟩:=hy;rw[hy];dsimp only;refine rA (N:=3) Z8 (bY D fun v H' ⟨e',hv,hm⟩=> ?_);rcases hm with⟨e3,h6,h7,_⟩|⟨y',_,h7,h8⟩
    ·rw[zv] at h7;exact absurd h7.symm h6
    ·rw[hy] at h7;cases h7;exact⟨e',hv,h8⟩
   ·rw[Jg zv];refine lA (bY D fun v H' ⟨e',hv,hm⟩=> ?_);rcases hm with⟨e3,h6,h7,h8,h9⟩|⟨y',h6,_⟩
    ·cases h8;rw[h7];exact⟨hv,h9⟩
    ·exact absurd h6 zv
 rw[Jf z7];have yt:aHU k:=by unfold aHU;omega
 obtain⟨e,n,hw⟩: ∃ e n,aJ tab 0 L=(e,n):=⟨_,_,rfl⟩;rw[hw];dsimp only;by_cases he:e=0
 case neg=>
  rw[Jg he];exact lA (akR b x hI k yt s h1 zw hw he (str t) at' N text)
 subst he;rw[Jf Ja];obtain⟨z,hz⟩:=vA hT.shut hw;rw[hz];dsimp only;have yx:=azF hI zj hz;have zx:=hT.shut.kinds n z hz;have zu:L≠[]→ ∃ j nm rn y,L.length=j+1∧L[j]? =some nm∧aJ tab 0 (L.take j)=(0,rn)∧tab rn=some y∧y.kind=2∧cS y.aP nm=0∧n=(jN y.aP nm).toNat∧IP tab x.d.aA L n= .comm (dU tab rn y nm n) (x.d.aA.set n (x.d.aA[n]?.getD 0+1)):=fun hL=>by
  obtain⟨j,nm,hj,zn,e1,e2⟩:=zZ hL;obtain⟨_,_,e3⟩:=jT (d:=[]) hj zn;rw[e3] at hw;obtain⟨p,y,q1,q2,q3,q4,q5⟩:=VI _ _ hw;refine⟨j,nm,p,y,hj,zn,q1,q2,q3,q4,q5, ?_⟩;unfold IP;rw[e1,e2,q1,q2]
 have zq:z.kind=1→L≠[]:=fun h e=>by
  subst e;rw[dS] at hw;subst hw;obtain⟨z0,q1,q2⟩:=hT.shut.root;rw[hz] at q1;cases q1;omega
 unfold akW;dsimp only;by_cases zh:k=9
 ·rw[Jg zh];subst zh;rcases zx with zy|zy
  ·rw[Jf Z8];exact lA (aeO b x hI s h1 zw hw hz zy (str t) at' N text)
  ·rw[Jg zy];exact bY (akY b x hI s h1 zw hw hz zy (str t) at' N text) fun v H' h=>h
 rw[Jf zh];by_cases zt:k=10
 ·rw[Jg zt];subst zt;rcases zx with zy|zy
  ·rw[Jf Z8];exact VZ (aNI b x hI s h1 zw hw hz zy (str t) at' N text)
  ·rw[Jg zy];exact VZ (akZ b x hI s h1 zw hw hz zy (str t) at' N text)
 rw[Jf zt];by_cases zg:k=6
 ·rw[Jg zg];subst zg;rcases zx with zy|zy
  ·rw[Jf Z8];obtain⟨j,nm,rn,y,q1,q2,q3,q4,q5,q6,q7,q8⟩:=zu (zq zy);rw[q8];exact rA Z8 (aNK b x hI hT.once s h1 zw q1 q2 q3 q4 q5 q6 q7 hw hz zy yx (str t) at' N text)
  ·rw[Jg zy];exact lA (akX b x hI 6 Z8 s h1 zw hw hz zy (str t) at' N text)
 rw[Jf zg];by_cases zf:k=7
 ·rw[Jg zf];subst zf;rcases zx with zy|zy
  ·rw[Jg Z8];exact lA (XP b x hI s h1 zw hw hz zy (str t) at' N text)
  ·rw[Jf (by simp [zy])];by_cases hL:L=[]
   ·rw[Jg hL];have D:=NT b x hI s h1 zw hw hz zy (.inl (by rw[hL];rfl)) (str t) at' N text;rw[Jg (by rw[hL];rfl)] at D;exact lA D
   ·rw[Jf hL];by_cases zm:z.aP=[]
    ·rw[Jf (by simp [zm])];obtain⟨j,nm,rn,y,q1,q2,q3,q4,q5,q6,q7,q8⟩:=zu hL;rw[q8];exact rA Z8 (aIF b x hI hT.once s h1 zw q1 q2 q3 q4 q5 q6 q7 hw hz zy yx zm (str t) at' N text)
    ·rw[Jg zm];have D:=NT b x hI s h1 zw hw hz zy (.inr zm) (str t) at' N text;rw[Jf (by simp [hL])] at D;exact lA D
 rw[Jf zf];rcases zx with zy|zy
 case inr=>
  rw[Jg zy];exact lA (akX b x hI k Z8 s h1 zw hw hz zy (str t) at' N text)
 rw[Jf Z8];by_cases ze:k=4
 ·rw[Jg ze];subst ze;exact VZ (aNM b x hI s h1 zw hw hz zy (str t) at' N h4 h5 text)
 rw[Jf ze];by_cases zb:k=3
 ·rw[Jg zb];subst zb;have D:=aNL b x hI s h1 zw hw hz zy (str t) at' N text h3;by_cases zl:wrE at' text≠0∨text=[]
  ·rw[Jg zl];refine lA (bY D fun v H' hm=> ?_);rcases hm with⟨_,q1,q2⟩|⟨⟨q1,q2⟩,_⟩
   ·exact⟨q1,q2⟩
   ·rcases zl with q3|q3
    ·exact absurd q1 q3
    ·exact absurd q3 q2
  ·rw[Jf zl];refine rA (df _) (bY D fun v H' hm=> ?_);rcases hm with⟨q1,_⟩|⟨_,q2⟩
   ·exact absurd q1 zl
   ·exact q2
 rw[Jf zb];obtain rfl:k=5:=Z8
 have D:=aSC b x hI s h1 zw hw hz zy (str t) at' N text;by_cases zk:ctE N≠0∨N=(z.size:Int)
 ·rw[Jg zk];refine lA (bY D fun v H' hm=> ?_);rcases hm with⟨_,q1,q2⟩|⟨⟨q1,q2⟩,_⟩
  ·exact⟨q1,q2⟩
  ·rcases zk with q3|q3
   ·exact absurd q1 q3
   ·exact absurd q3 q2
 ·rw[Jf zk];refine rA (df _) (bY D fun v H' hm=> ?_);rcases hm with⟨q1,_⟩|⟨_,q2⟩
  ·exact absurd q1 zk
  ·exact q2
end fs
namespace fs
open cK dZ cO file dir uU
theorem aII {tab:cT} (hT:LI tab) {La Lb:List (List UInt8)} {ea eb:Int} (hgA: ∀ t∈La,gU t) (zb: ∀ t∈Lb,gU t) {T:cT} (h:kG tab (La,ea) (Lb,eb)= .inr T): ∃ A bL B name pm pn ino y x,La=A++[bL]∧Lb=B++[name]∧ea=0∧eb=0∧jD tab A pm y bL B pn x name ino∧T=eO tab pm y bL pn x name ino∧Lb.length+yK tab ino≤8∧aJ tab 0 La=(0,ino):=by
 by_cases zm:ea=0
 case neg=>unfold kG at h;rw[Jg zm] at h;cases h
 subst zm;by_cases zl:eb=0
 case neg=>unfold kG at h;rw[Jf Ja,Jg zl] at h;cases h
 subst zl;by_cases h0:(aJ tab 0 La).1=0
 case neg=>rw[VW h0] at h;cases h
 by_cases zw:La=[]
 ·rw[VX h0 zw] at h;cases h
 by_cases zu:La<+:Lb
 ·rw[NS h0 zw zu] at h;split at h<;>cases h
 rw[VY h0 zw zu] at h;by_cases zt:Lb=[]
 ·rw[Jg zt] at h;cases h
 rw[Jf zt] at h;obtain⟨ka,bL,za,hold,ga,da⟩:=zZ zw;obtain⟨kb,name,z8,zy,gb,db⟩:=zZ zt;obtain⟨_,_,ea⟩:=jT (d:=[]) za hold;obtain⟨_,_,eb⟩:=jT (d:=[]) z8 zy;rw[ga,da,gb,db] at h;obtain⟨ino,hR⟩: ∃ n,aJ tab 0 La=(0,n):=⟨(aJ tab 0 La).2,by rw[←h0]⟩;have z7:aJ tab 0 (La.take ka++[bL])=(0,ino):=by rw[←ea];exact hR
 obtain⟨pm,zk,zr⟩:=(dK hT.shut).1 z7;obtain⟨y,hy,xW,zj⟩:=id zr;have zh:=(cI hT.shut hy xW).1;have hf:cS y.aP bL=0:=(uY zh (cQ (zh.2.1 _ zj)).1 zj).1;have zx:=nW hT.once zr;rw[zk,hy,hR] at h;obtain⟨r2,pn,zq⟩: ∃ r n,aJ tab 0 (Lb.take kb)=(r,n):=⟨_,_,rfl⟩;rw[zq] at h;dsimp only at h;by_cases hr:r2=0
 case neg=>rw[Jg hr] at h;cases h
 subst hr;rw[Jf Ja] at h;obtain⟨x,hx⟩:=vA hT.shut zq;rw[hx] at h;dsimp only at h;by_cases hxk:x.kind=2
 case neg=>rw[Jg hxk] at h;cases h
 rw[Jf (by simp [hxk])] at h;have zg:=(cI hT.shut hx hxk).1;by_cases zv:cS x.aP name=0
 ·rw[Jg zv] at h;cases h
 rw[Jf zv] at h;by_cases zf:8<Lb.length+yK tab ino
 ·rw[Jg zf] at h;cases h
 rw[Jf zf] at h;have ze:=zb name (jg zy);by_cases zn:pm≠pn∧x.aP.length=24
 ·rw[Jg zn] at h;cases h
 rw[Jf zn] at h;refine⟨La.take ka,bL,Lb.take kb,name,pm,pn,ino,y,x,ea,eb,rfl,rfl,⟨hT,zk,hy,xW,zr,zq,hx,hxk,by rw[←ea, ←eb];exact zu, ?_⟩,(Sum.inr.inj h).symm,Z8,hR⟩;by_cases he:pm=pn
 ·rw[show lO pm pn x bL=jO x.aP bL from Jg he];have yz:y=x:=by rw[he,hx] at hy;exact (a7 hy).symm
  exact akD zg (by rw[←yz];exact (iJ hf).2.2) ze zv zx.2
 ·rw[show lO pm pn x bL=x.aP from Jf he];exact asV zg ze zv (fun h24=>zn ⟨he,h24⟩) zx.2
theorem alA {tab:cT} {aA:List Int} (hT:LI tab) {ino:Nat} (zx:ino<48) {L:List (List UInt8)} (hg: ∀ t∈L,gU t) {kind:Int} {T:cT} {G:List Int} (h:akV tab aA ino L kind= .comm T G): ∃ A nm rn y,L=A++[nm]∧aJ tab 0 A=(0,rn)∧tab rn=some y∧y.kind=2∧tM y.aP (nm,(ino:Int))=0∧ino≠0∧T=kE tab rn y nm ino kind (aA[ino]?.getD 0)∧G=aA:=by
 unfold akV at h;by_cases hL:L=[]
 ·rw[Jg hL] at h;cases h
 rw[Jf hL] at h;obtain⟨k,nm,hk,zv,e1,e2⟩:=zZ hL;obtain⟨_,_,e3⟩:=jT (d:=[]) hk zv;rw[e1,e2] at h;by_cases hm:tA tab (ino=0) (aJ tab 0 (L.take k)) nm=0
 case neg=>rw[Jg hm] at h;cases h
 rw[Jf (by simp [hm])] at h;obtain⟨r,rn,hr⟩: ∃ r n,aJ tab 0 (L.take k)=(r,n):=⟨_,_,rfl⟩;rw[hr] at h hm;unfold tA at hm;dsimp only at hm h;by_cases zw:r=0
 case neg=>rw[Jg zw] at hm;exact absurd hm zw
 subst zw;rw[Jf Ja] at hm;obtain⟨y,hy⟩:=vA hT.shut hr;rw[hy] at hm h;dsimp only at hm h;by_cases zy:y.kind=2
 case neg=>rw[Jg zy] at hm;cases hm
 rw[Jf (by simp [zy])] at hm;by_cases hf:cS y.aP nm=0
 ·rw[Jg hf] at hm;cases hm
 rw[Jf hf] at hm;by_cases h24:y.aP.length=24
 ·rw[Jg h24] at hm;cases hm
 rw[Jf h24] at hm;by_cases zu:ino=0
 ·rw[Jg zu] at hm;cases hm
 injection h with h1 h2
 exact⟨L.take k,nm,rn,y,e3,hr,hy,zy,akB (cI hT.shut hy zy).2 (hg nm (jg zv)) hf h24 zx,zu,h1.symm,h2.symm⟩
theorem aIJ {tab:cT} {aA:List Int} (hT:LI tab) {L:List (List UInt8)} (hL:L≠[]) {n:Nat} (hw:aJ tab 0 L=(0,n)) {T:cT} {G:List Int} (h:IP tab aA L n= .comm T G): ∃ A nm rn y,L=A++[nm]∧aJ tab 0 A=(0,rn)∧tab rn=some y∧y.kind=2∧tO y.aP nm=true∧Edge tab rn nm n∧T=dU tab rn y nm n∧G=aA.set n (aA[n]?.getD 0+1):=by
 obtain⟨k,nm,hk,zy,e1,e2⟩:=zZ hL;obtain⟨_,_,e3⟩:=jT (d:=[]) hk zy;rw[e3] at hw;obtain⟨rn,h1,h2⟩:=(dK hT.shut).1 hw;obtain⟨y,hy,xW,hp⟩:=id h2;unfold IP at h;rw[e1,e2,h1,hy] at h;injection h with h3 h4
 exact⟨L.take k,nm,rn,y,e3,h1,hy,xW,(sX (cI hT.shut hy xW).1.2.2).2 ⟨_,hp,rfl⟩,h2,h3.symm,h4.symm⟩
theorem apK {tab:cT} {aA:List Int} (h:takeN tab aA≠0):tab (takeN tab aA)=none∧takeN tab aA<48∧1≤takeN tab aA:=by
 unfold takeN at*;cases hf:(mn 48).find? fun n=>decide (1≤n)&&(tab n).isNone&&decide (aA[n]?.getD 0<2147483647) with
 |none=>rw[hf] at h;exact absurd rfl h
 |some n=>
  have h0:=afy hf;simp only[ir,decide_eq_true_eq,afx] at h0;have:=ace.1 (List.mem_of_find?_eq_some hf);exact⟨h0.1.2,this,h0.1.1⟩
theorem aIK {tab:cT} {aA:List Int} (hT:LI tab) {c:sD} {T:cT} {G:List Int} (h:stepT tab aA c= .comm T G) (zk:Shut T):LI T:=by
 unfold stepT at h;by_cases zg:c.kind<1∨10<c.kind
 ·rw[Jg zg] at h;cases h
 rw[Jf zg] at h;obtain⟨L,e,zf⟩: ∃ L e,nH.aV c.path=(L,e):=⟨_,_,rfl⟩;obtain⟨L2,e2,zt⟩: ∃ L e,nH.aV c.other=(L,e):=⟨_,_,rfl⟩;obtain⟨zy,z7⟩:=cW zf;obtain⟨zu,hl82⟩:=cW zt;rw[zf,zt] at h;dsimp only at h;by_cases ze:c.kind=8
 ·rw[Jg ze] at h;cases ho:kG tab (L,e) (L2,e2) with
  |inl e=>rw[ho] at h;cases h
  |inr T'=>
   rw[ho] at h;injection h with h1 h2
   subst h1;obtain⟨A,bL,B,name,pm,pn,ino,y,x,eA,eB,_,_,hM,rfl,ht,hw⟩:=aII hT zy zu ho;refine hM.okT fun r n hr=> ?_
   have:=((akG hT hw L2.length).1).1 ht r n (by rw[eA];exact hr);rw[eB] at this;exact this
 rw[Jf ze] at h;by_cases he:e=0
 case neg=>rw[Jg he] at h;cases h
 rw[Jf (by simp [he])] at h;by_cases zb:c.kind≤2
 ·rw[Jg zb] at h;by_cases za:takeN tab aA=0
  ·obtain⟨A,nm,rn,y,_,_,_,_,_,h6,_⟩:=alA hT Z8 zy h;exact absurd za h6
  ·obtain⟨t1,t2,t3⟩:=apK za;obtain⟨A,nm,rn,y,h1,h2,h3,h4,h5,h6,rfl,_⟩:=alA hT t2 zy h;exact aGT hT zk h3 h4 h5 t1 t3 h2 (by rw[h1,ae,gk] at z7;omega)
 rw[Jf zb] at h;by_cases zj:(aJ tab 0 L).1=0
 case neg=>rw[Jg zj] at h;cases h
 rw[Jf (by simp [zj])] at h;obtain⟨n,hw⟩: ∃ n,aJ tab 0 L=(0,n):=⟨(aJ tab 0 L).2,by rw[←zj]⟩;rw[hw] at h;obtain⟨z,hz⟩:=vA hT.shut hw;dsimp only at h;rw[hz] at h;dsimp only at h;have zr:z.kind=1→L≠[]:=fun h e=>by
  subst e;rw[dS] at hw;subst hw;obtain⟨z0,q1,q2⟩:=hT.shut.root;rw[hz] at q1;cases q1;omega
 have zv:L≠[]→(z.kind=2→z.aP=[])→IP tab aA L n= .comm T G→LI T:=fun hL zq hg=>by
  obtain⟨A,nm,rn,y,h1,h2,h3,h4,h5,h6,rfl,_⟩:=aIJ hT hL hw hg;refine aGX hT zk h3 h4 h5 hz zq h6 (fun e=> ?_) h2;subst e;have:=hT.one h2 hw;rw[h1] at this;have:=congrArg List.length this;rw[ae,gk] at this;omega
 unfold akW at h;rcases hT.shut.kinds n z hz with zw|zw
 ·by_cases zn:c.kind=9
  ·rw[Jg zn,Jf Z8] at h;cases h
  rw[Jf zn] at h;by_cases zx:c.kind=10
  ·rw[Jg zx,Jf Z8] at h;cases h
  rw[Jf zx] at h;by_cases zm:c.kind=6
  ·rw[Jg zm,Jf Z8] at h;exact zv (zr zw) (fun e=>Z8) h
  rw[Jf zm] at h;by_cases zl:c.kind=7
  ·rw[Jg zl,Jg Z8] at h;cases h
  rw[Jf zl,Jf Z8] at h;by_cases z8:c.kind=4
  ·rw[Jg z8] at h;cases h
  rw[Jf z8] at h;split at h
  ·split at h
   ·cases h
   ·injection h with h1 h2
    subst h1;exact asT hT zk hz zw rfl
  ·split at h
   ·cases h
   ·injection h with h1 h2
    subst h1;exact asT hT zk hz zw rfl
 ·by_cases zn:c.kind=9
  ·rw[Jg zn,Jg zw] at h;cases h
  rw[Jf zn] at h;by_cases zx:c.kind=10
  ·rw[Jg zx,Jg zw] at h;cases h
  rw[Jf zx] at h;by_cases zm:c.kind=6
  ·rw[Jg zm,Jg zw] at h;cases h
  rw[Jf zm] at h;by_cases zl:c.kind=7
  ·rw[Jg zl,Jf (by simp [zw])] at h;by_cases hL:L=[]
   ·rw[Jg hL] at h;cases h
   rw[Jf hL] at h;by_cases zh:z.aP=[]
   ·rw[Jf (by simp [zh])] at h;exact zv hL (fun _=>zh) h
   ·rw[Jg zh] at h;cases h
  rw[Jf zl,Jg zw] at h;cases h
end fs
namespace fs
open cK dZ cO file dir uU
structure abX (x:iV) (T:cT) (G:List Int) (N keep:Nat) (x':iV):Prop where
 inv:Inv x' T
 aA:x'.d.aA=G
 turn:x'.turn=x.turn
 cs:x'.d.cs=x.d.cs
 ex: ∃ (k:Nat) (W:List (Int×ByteArray)),k≤N∧k+keep≤x.fr.length∧x'.fr=x.fr.drop k∧x'.gJ=x.gJ+k∧W.length=k∧(∀ p∈W,p.1∈x.fr.take k)∧x'.d.ps=x.d.ps++W∧x'.ops=x.ops++qK W
 log: ∃ l gs,sB x.d x.fr x.gJ l gs∧sZ x.d x'.d x.fr x.gJ l gs∧x'.gJ=x.gJ+gs.length
theorem abY {b:Nat} {x:iV} {T:cT} {G:List Int} {N keep:Nat} {v:Value} {H':List Ent} (h:hU b x T G N keep v H'):((∃ k:Nat,k≤N∧(x.fr.length<k+keep∨2147483647<x.gJ+k))∧v= .int .i64 9∧H'=bI b x)∨ ∃ x',abX x T G N keep x'∧v= .int .i64 0∧H'=bI b x':=by
 rcases h with h|⟨x',k,W,⟨h1,⟨h2,h3⟩,h4,h5,h6,h7,h8,h9,h10,h11,h12,l,gs,h13,h14,h15⟩,hv,hH⟩
 ·exact .inl h
 ·exact .inr ⟨x',⟨h1,h12,h6,h9,⟨k,W,h2,h3,h4,h5,h7,h8,h10,h11⟩,l,gs,h13,h14,by rw[h15];exact h5⟩,hv,hH⟩
inductive BG (x:iV) (tab:cT) (c:sD):LQ→iV→cT→Prop where
 |DS (a:LQ):c.kind≠11∧c.kind≠12→stepT tab x.d.aA c= .DS a→BG x tab c a (aE x) tab
 |comm (T:cT) (G:List Int) (x':iV):c.kind≠11∧c.kind≠12→stepT tab x.d.aA c= .comm T G→abX (aE x) T G 9 4 x'→BG x tab c (nI 0) x' T
 |full (T:cT) (G:List Int):c.kind≠11∧c.kind≠12→stepT tab x.d.aA c= .comm T G→x.fr.length<13→BG x tab c (nI 9) (aE x) tab
 |sync (x':iV):c.kind=11→NZ (aE x) tab x'→BG x tab c (nI 0) x' tab
 |idle (e:Int):c.kind=12→(e=0∨e=9∧x.fr.length<13)→BG x tab c (nI e) (aE x) tab
 |clean (x':iV):c.kind=12→abX (aE x) tab x.d.aA 5 0 x'→BG x tab c (nI 0) x' tab
structure aeT (K:Nat) (x:iV) (tab:cT):Prop where
 inv:Inv x tab
 ok:LI tab
 aA: ∀ g∈x.d.aA,g≤(K:Int)
 gJ:x.gJ≤10*(K:Int)+10
 turn:x.turn≤(K:Int)
theorem azT {tab:cT} {aA:List Int} {c:sD} {T:cT} {G:List Int} (h:stepT tab aA c= .comm T G):G=aA∨ ∃ n,G=aA.set n (aA[n]?.getD 0+1):=by
 unfold stepT at h;have zy: ∀ L n,IP tab aA L n= .comm T G→ ∃ n,G=aA.set n (aA[n]?.getD 0+1):=fun L n h=>by
  unfold IP at h;split at h
  ·cases h
  ·injection h with h1 h2
   exact⟨n,h2.symm⟩
 split at h
 ·cases h
 ·split at h
  ·split at h
   ·cases h
   ·injection h with h1 h2
    exact .inl h2.symm
  ·split at h
   ·cases h
   ·split at h
    ·unfold akV at h;split at h
     ·cases h
     ·split at h
      ·cases h
      ·split at h
       ·cases h
       ·injection h with h1 h2
        exact .inl h2.symm
    ·split at h
     ·cases h
     ·split at h
      ·cases h
      ·unfold akW at h
       repeat' split at h
       all_goals first
        |exact .inr (zy _ _ h)
        |(injection h with h1 h2;exact .inl h2.symm)
        |(cases h;done)
theorem aOB {aA G:List Int} {K:Nat} (h:G=aA∨ ∃ n,G=aA.set n (aA[n]?.getD 0+1)) (hg: ∀ g∈aA,g≤(K:Int)): ∀ g∈G,g≤((K+1:Nat):Int):=fun g hm=>by
 rcases h with rfl|⟨n,rfl⟩
 ·have:=hg g hm;omega
 ·rcases List.mem_or_eq_of_mem_set hm with h|h
  ·have:=hg g h;omega
  ·rw[h];cases hn:aA[n]? with
   |none=>simp;omega
   |some z=>have:=hg z (jg hn);simp;omega
theorem PZ {K:Nat} {x:iV} {tab:cT} (h:aeT K x tab):aeT (K+1) (aE x) tab:=⟨qN h.inv,h.ok,fun g hg=>by have:=h.aA g hg;omega,by have:=h.gJ;show x.gJ≤_;omega,by have:=h.turn;show x.turn≤_;omega⟩
theorem atC {K:Nat} {x:iV} {tab T:cT} {G:List Int} {N keep:Nat} (h:aeT K x tab) {x':iV} (hc:abX (aE x) T G N keep x') (hN:N≤9) (hT:LI T) (hG: ∀ g∈G,g≤((K+1:Nat):Int)):aeT (K+1) x' T:=by
 obtain⟨k,W,h1,_,_,h2,_⟩:=hc.ex;refine⟨hc.inv,hT,by rw[hc.aA];exact hG, ?_, ?_⟩
 ·have:=h.gJ;rw[h2];show x.gJ+k≤_;omega
 ·have:=h.turn;rw[hc.turn];show x.turn≤_;omega
def DoR (b K:Nat) (x:iV) (tab:cT) (c:sD) (v:Value) (H':List Ent):Prop:=
 ∃ a q n x' tab',(BG x tab c a x' tab'∧aeT (K+1) x' tab')∧v=LQ.val a q n∧H'=own (.slice q a.names.length n) 9 1 a.names.length (flat fT a.names)::bI b x'
theorem aSM (b K:Nat) (hK:K≤200000000) (x:iV) {tab:cT} (hO:aeT K x tab) (c:sD) (hc:asW c):Ct lk 15 [aH b 0,c.val] (bI b x) (DoR b K x tab c):=by
 have zy: ∀ g∈x.d.aA,g<2147483647:=fun g hg=>by have:=hO.aA g hg;omega
 by_cases h11:c.kind=11
 ·have D:=aSD b x hO.inv (by have:=hO.turn;omega) c.path (str c.other) c.at' c.num c.text;rw[←h11] at D;refine bY (IQ 9 1 D) fun v H' ⟨H1,⟨x',h1,h2,h3⟩,h4⟩=> ?_
  refine⟨nI 0,none,0,x',tab,⟨.sync x' h11 h1,h1.inv,hO.ok,fun g hg=> ?_, ?_, ?_⟩,h2,by rw[h4,h3];rfl⟩
  ·rw[h1.aA] at hg;have:=hO.aA g hg;omega
  ·rw[h1.gJ];have:=hO.gJ;show x.gJ≤_;omega
  ·rw[h1.turn];have:=hO.turn;show x.turn+1≤_;omega
 by_cases h12:c.kind=12
 ·have D:=aOA b x hO.inv c.path (str c.other) c.at' c.num c.text;rw[←h12] at D;refine bY (IQ 9 1 D) fun v H' ⟨H1,⟨e,h1,h2⟩,h4⟩=> ?_
  rcases h2 with⟨h5,h6⟩|h2
  ·cases h5;exact⟨nI 0,none,0,aE x,tab,⟨.idle 0 h12 (.inl rfl),PZ hO⟩,h1,by rw[h4,h6];rfl⟩
  ·rcases abY h2 with⟨⟨k,k1,k2⟩,h5,h6⟩|⟨x',h5,h6,h7⟩
   ·cases h5;have zx:x.fr.length<13:=by
     have:=hO.gJ;rcases k2 with k2|k2
     ·have k3:x.fr.length<k+0:=k2;omega
     ·have k3:2147483647<x.gJ+k:=k2;omega
    exact⟨nI 9,none,0,aE x,tab,⟨.idle 9 h12 (.inr ⟨rfl,zx⟩),PZ hO⟩,h1,by rw[h4,h6];rfl⟩
   ·cases h6;exact⟨nI 0,none,0,x',tab,⟨.clean x' h12 h5,atC hO h5 Z8 hO.ok fun g hg=>by have:=hO.aA g hg;omega⟩,h1,by rw[h4,h7];rfl⟩
 have D:=aNO b x hO.inv hO.ok zy c ⟨h11,h12⟩ hc;refine bY D fun v H' h=> ?_
 cases ho:stepT tab x.d.aA c with
 |DS a=>
  rw[ho] at h;obtain⟨q,n,h1,h2⟩:=h;exact⟨a,q,n,aE x,tab,⟨.DS a ⟨h11,h12⟩ ho,PZ hO⟩,h1,h2⟩
 |comm T G=>
  rw[ho] at h;obtain⟨e,H1,h1,h2,h3⟩:=h;rcases abY h2 with⟨⟨k,h4,h5⟩,h6,h7⟩|⟨x',h5,h6,h7⟩
  ·cases h6;have zx:x.fr.length<13:=by
    have:=hO.gJ;rcases h5 with h5|h5
    ·have zw:x.fr.length<k+4:=h5;omega
    ·have zw:2147483647<x.gJ+k:=h5;omega
   exact⟨nI 9,none,0,aE x,tab,⟨.full T G ⟨h11,h12⟩ ho zx,PZ hO⟩,h1,by rw[h3,h7];rfl⟩
  ·cases h6;exact⟨nI 0,none,0,x',T,⟨.comm T G x' ⟨h11,h12⟩ ho h5,atC hO h5 (df _) (aIK hO.ok ho h5.inv.shut) (aOB (azT ho) hO.aA)⟩,h1,by rw[h3,h7];rfl⟩
end fs
namespace XS
open fs
theorem OC: ∀ (W:List (Int×ByteArray)) {cs:List ByteArray} {ps:List (Int×ByteArray)},bA.Good cs (ps++W)→pV (cs,ps) (qK W)=some (cs,ps++W)
 |[],cs,ps,_=>by rw[List.append_nil];rfl
 |p::W,cs,ps,hg=>by
  have hw:bR cs ps p.1 p.2=0:=IF hg;have ih:=OC W (cs:=cs) (ps:=ps++[p]) (by rw[fu];exact hg);show pV (cs,ps) ((1,p.1,p.2)::qK W)=_;rw[pV];have hs:step1 (cs,ps) (1,p.1,p.2)=some (cs,ps++[p]):=by
   unfold step1;dsimp only;rw[Jg rfl,Jg hw]
  rw[hs];dsimp only;rw[ih,fu];rfl
theorem abZ {x x':iV} {T:cT} {G:List Int} {N keep:Nat} (h:abX (aE x) T G N keep x'):pV (x.d.cs,x.d.ps) x'.ops=some (x'.d.cs,x'.d.ps):=by
 obtain⟨k,W,_,_,_,_,_,_,h1,h2⟩:=h.ex;have hc:x'.d.cs=x.d.cs:=h.cs;have hp:x'.d.ps=x.d.ps++W:=h1;have ho:x'.ops=qK W:=h2;rw[hc,hp,ho];refine OC W ?_;rw[←hp, ←hc];exact h.inv.pM.mM
theorem azV {x x':iV} {tab:cT} (hI:Inv x tab) (ht:x.turn<2147483647) (h:NZ (aE x) tab x'):pV (x.d.cs,x.d.ps) x'.ops=some (x'.d.cs,x'.d.ps):=by
 obtain⟨F,zy,_⟩:=WH (serial:=x.gJ) (turn:=x.turn) hI.pM hI.two ⟨hI.gJ,hI.ayF⟩ ⟨by have:=hI.turn;omega,ht⟩;have hw:=zy.wr;have hc:x'.d.cs=syF x.d x.gJ x.turn:=h.cs;have ho:x'.ops=[(2,0,aew),(1,(x.turn+1)%2,ptF x.d x.gJ x.turn),(2,0,aew)]:=h.ops;rw[hc,h.ps,ho];have s1:step1 (x.d.cs,x.d.ps) (2,0,aew)=some (land (fun _=>true) 0 x.d.cs x.d.ps,[]):=rfl;have s2:step1 (land (fun _=>true) 0 x.d.cs x.d.ps,[]) (1,(x.turn+1)%2,ptF x.d x.gJ x.turn)=some (land (fun _=>true) 0 x.d.cs x.d.ps,[((x.turn+1)%2,ptF x.d x.gJ x.turn)]):=by
  unfold step1;dsimp only;rw[Jg rfl,Jg hw];rfl
 rw[pV,s1];dsimp only;rw[pV,s2];rfl
theorem azW {x x':iV} {tab tab':cT} {c:sD} {a:LQ} (hI:Inv x tab) (ht:x.turn<2147483647) (h:BG x tab c a x' tab'):pV (x.d.cs,x.d.ps) x'.ops=some (x'.d.cs,x'.d.ps):=by
 cases h with
 |DS=>rfl
 |comm T G x' _ _ hc=>exact abZ hc
 |full=>rfl
 |sync x' _ hs=>exact azV hI ht hs
 |idle=>rfl
 |clean x' _ hc=>exact abZ hc
end XS
namespace XS
open fs
theorem azX {tab:cT} {aA:List Int} {c:sD} {T:cT} {G:List Int} (h:fs.stepT tab aA c=apJ.comm T G):c.kind≠4∧c.kind≠9∧c.kind≠10:=by
 have key: ¬ (c.kind=4∨c.kind=9∨c.kind=10):=fun hk=>by
  unfold fs.stepT at h;rw[Jf Z8,Jf Z8] at h;split at h
  ·cases h
  ·rw[Jf Z8] at h;split at h
   ·cases h
   ·split at h
    ·cases h
    ·unfold akW at h
     repeat' split at h
     all_goals first
      |(cases h;done)
      |(exfalso;omega)
 exact⟨fun h=>key (.inl h),fun h=>key (.inr (.inl h)),fun h=>key (.inr (.inr h))⟩
structure aJA (x:iV) (c:sD) (a:LQ) (x':iV):Prop where
 aUQ:x'.ops≠[]→a.err=0∧c.kind≠4∧c.kind≠9∧c.kind≠10
 sync:c.kind=11→a.err=0→x'.d.ps=[]∧x'.ops≠[]
 aPT: ¬ (c.kind=11∧a.err=0)→(∀ o∈x'.ops,o.1=1)∧x'.fr.length≤x.fr.length∧x.fr.length≤x'.fr.length+10
theorem aJB (W:List (Int×ByteArray)): ∀ o∈qK W,o.1=1:=fun o ho=>by
 unfold qK at ho;obtain⟨p,_,rfl⟩:=fa.1 ho;rfl
theorem aeU {x:iV} {c:sD} {a:LQ} (h:c.kind≠11):aJA x c a (aE x) where
 aUQ h:=absurd rfl h
 sync h1:=absurd h1 h
 aPT _:=⟨fun o ho=>absurd ho ck,df _,Nat.le_add_right _ _⟩
theorem atD {x:iV} {c:sD} {T:cT} {G:List Int} {N keep:Nat} {x':iV} (h:c.kind≠11) (hk:c.kind≠4∧c.kind≠9∧c.kind≠10) (hN:N≤10) (hc:abX (aE x) T G N keep x'):aJA x c (nI 0) x':=by
 obtain⟨k,W,h1,h2,h3,h4,h5,h6,h7,h8⟩:=hc.ex;have hf:x'.fr=x.fr.drop k:=h3;have hl:k+keep≤x.fr.length:=h2;have ho:x'.ops=qK W:=h8;refine⟨fun _=>⟨rfl,hk⟩,fun e=>absurd e h,fun _=>⟨?_, ?_, ?_⟩⟩
 ·rw[ho];exact aJB W
 ·rw[hf,bq];omega
 ·rw[hf,bq];omega
theorem azY {x x':iV} {tab tab':cT} {c:sD} {a:LQ} (h:BG x tab c a x' tab'):aJA x c a x':=by
 cases h with
 |DS _ hk _=>exact aeU hk.1
 |comm T G x' hk hs hc=>exact atD hk.1 (azX hs) Z8 hc
 |full T G hk _ _=>exact aeU hk.1
 |sync x' hk hs=>
  have ho:x'.ops=[(2,0,aew),(1,(x.turn+1)%2,ptF x.d x.gJ x.turn),(2,0,aew)]:=hs.ops;exact⟨fun _=>⟨rfl,Z8,Z8,Z8⟩,fun _ _=>⟨hs.ps,by rw[ho];exact List.cons_ne_nil _ _⟩,fun h=>absurd ⟨hk,rfl⟩ h⟩
 |idle e hk _=>exact aeU Z8
 |clean x' hk hc=>exact atD Z8 Z8 Z8 hc
theorem aOE {x x':iV} {tab tab':cT} {c:sD} {a:LQ} (h:BG x tab c a x' tab'):x'.ops.length≤10:=by
 cases h with
 |DS=>exact fe _
 |comm T G x' hk hs hc=>
  obtain⟨k,W,h1,_,_,_,h5,_,_,h8⟩:=hc.ex;have ho:x'.ops=qK W:=h8;rw[ho];unfold qK;rw[gp];omega
 |full=>exact fe _
 |sync x' hk hs=>
  have ho:x'.ops=[(2,0,aew),(1,(x.turn+1)%2,ptF x.d x.gJ x.turn),(2,0,aew)]:=hs.ops;rw[ho];simp
 |idle=>exact fe _
 |clean x' hk hc=>
  obtain⟨k,W,h1,_,_,_,h5,_,_,h8⟩:=hc.ex;have ho:x'.ops=qK W:=h8;rw[ho];unfold qK;rw[gp];omega
end XS
namespace fs
open cK
theorem aSR {P:Program} {n:Nat} {F:eE} {H:List Ent} {o:Oper} {x y:Operand} {T T':TypeId} {b i:Nat} (ho:o.op= .binOp .neq T x y T') (hx:ev F x=some (aH b i)) (hy:ev F y=some (.pointer none)) (hT:P.underlying T=some (.pointer (P.pointee T))):Qt P n o F H (.bool true):=fun a w ha _=>by
 have h1:=run_neq_pointer_nil (P:=P) w T (some ⟨b,i,none⟩) hT;simp only[aH] at hx;simp [execOp,ho,ha.eval hx,ha.eval hy,eqGuard,h1]
theorem acA {n:Nat} {x:Nd} (h:tB n=some x):n=0∧x.aP=[]:=by
 unfold tB mJ at h;split at h
 ·next e=>cases h;exact⟨e,rfl⟩
 ·cases h
theorem aJD:LI tB:=by
 refine⟨LY,aAB,fun L n h=> ?_,fun n x h=>⟨[], ?_⟩⟩
 ·cases L with
  |nil=>exact fe _
  |cons a L=>
   obtain⟨k,⟨x,hx,_,hp⟩,_⟩:=(iL LY).1 h;rw[(acA hx).2] at hp;exact absurd hp ck
 ·rw[(acA h).1];exact dS.2 rfl
theorem aJE {n:Nat} {v:Value} {H':List Ent} (h:aSP n v H'): ∃ b x,(aeT 0 x tB∧n≤x.fr.length+11∧x.ops.length≤10∧x.d.ps=[]∧x.turn=0)∧v= .tuple #[aH b 0, .int .i64 0]∧H'=bI b x:=by
 obtain⟨b,x,⟨h1,h2,h3,h4,h5,h6,h7⟩,hv,hH⟩:=h;refine⟨b,x,⟨⟨h1,aJD,fun g hg=> ?_,Z8,Z8⟩,h2,h3,h7,h6⟩,hv,hH⟩;rw[h4] at hg;rw[List.eq_of_mem_replicate hg];exact Int.le_refl _
theorem aAD (k:Int) (n:Nat) (h1:1≤n) (h2:n≤1000000):Ct lk 26 [.int .i64 k, .int .i64 (n:Int)] [] fun v H'=>v= .int .i64 (within.wG k (n:Int))∧H'=[]:=
 bK fun W _=>(within.aoA k (n:Int) Z8 Z8 W).mono fun e w' ⟨h1,h2⟩=>⟨h1,by rw[h2];exact Below.refl _ _⟩
def aJF (n:Nat) (v:Value) (H':List Ent):Prop:= ∃ b x,(aeT 0 x tB∧n≤x.fr.length+11∧x.ops.length≤10∧x.d.ps=[]∧x.turn=0)∧v= .tuple #[aH b 0, .bool true]∧H'=bI b x
attribute [local irreducible] box own sl bL aH bJ Qt cN cM dG dL eQ
theorem aJG (n:Nat) (hn:32≤n∧n≤128):Ct lk 29 [.int .i64 (n:Int)] [] (aJF n):=by
 have NW:=aSQ n hn;(refine Ye Tryz.func29 Tryz.ntmps29 ?_;intro Fr);refine aM ?_;refine Cb (NW) ?_;rintro _ _ ⟨_,zy,rfl⟩;obtain⟨b,x,hx,rfl,rfl⟩:=aJE zy;have Y:aJF n (.tuple #[aH b 0, .bool true]) (bI b x):=⟨b,x,hx,rfl,rfl⟩;generalize bI b x=H0 at*;refine aF ?_;refine eK wt rfl (aSR rfl rfl rfl Jd) ?_;refine aF ?_;exact qE rfl JD _ Y (HSub.refl _)
end fs
namespace lawFsOps
open cK fs XS
def fC (c:sD):List Value:=[.int .i64 c.kind, .string (str c.path), .string (str c.other), .int .i64 c.at', .int .i64 c.num, .string (str c.text)]
def toC (p:Int×ByteArray×ByteArray×Int×Int×ByteArray):sD:=⟨p.1,p.2.1.data.toList,p.2.2.1.data.toList,p.2.2.2.1,p.2.2.2.2.1,p.2.2.2.2.2.data.toList⟩
theorem aUT {P:Program} {n:Nat} {F:eE} {H:List Ent} {o:Oper} {x y:Operand} {T T':TypeId} {b i:Nat} (ho:o.op= .binOp .eql T x y T') (hx:ev F x=some (aH b i)) (hy:ev F y=some (.pointer none)) (hT:P.underlying T=some (.pointer (P.pointee T))):Qt P n o F H (.bool false):=fun a w ha _=>by
 have h1:=run_eql_pointer_nil (P:=P) w T (some ⟨b,i,none⟩) hT;simp only[aH] at hx;simp [execOp,ho,ha.eval hx,ha.eval hy,eqGuard,h1]
structure LSt where
 li:Nat
 lx:iV
 lt:cT
attribute [local irreducible] box own sl bL aH bJ Qt cN cM dG dL eQ
theorem aOJ (k:Int) (hk:(kg .i64 k).wf=true) (q:Option Addr) (c:Nat) (l:List sD) (hl:l.length≤1048576) (hc: ∀ y∈l,asW y):
  Ct lk 8 [.int .i64 k, .slice q l.length c] [sl 6 (.slice q l.length c) (l.map fC)] fun v H'=>v= .bool true∧H'=[]:=by
 have WI:=aAD k 97 Z8 Z8;have hz:((97:Nat):Int)=97:=rfl;rw[hz] at WI;have zq:=within.UJ k 97 Z8;generalize within.wG k 97=r at*;obtain⟨n,hn⟩: ∃ n:Nat,32+r=(n:Int):=⟨(32+r).toNat,Z8⟩;have ST:=aJG n ⟨Z8,Z8⟩;(refine Ye Tryz.func8 Tryz.ntmps8 ?_;intro Fr);(repeat' (first|refine Y1 ?_|(refine Wb ?_;intro b)|(refine Wq ?_;intro q)|refine Wc (WI ..) ?_|(refine Ws ?_ ?_<;>intro h)|refine Wz ?_|fail));rw[hn];clear hn zq WI;refine Cb (ST) ?_;rintro _ _ ⟨_,⟨bs,x0,⟨zv,_⟩,rfl,rfl⟩,rfl⟩;clear ST;unfold bI bC aX;dsimp only[dw,dz];refine aM ?_;refine eK wt rfl (aUT rfl rfl rfl Jd) ?_;refine aM ?_;(refine aC (σ:=LSt) (fun s=>s.li≤l.length∧aeT s.li s.lx s.lt) (fun s=>[(31, .int .i64 (s.li:Int))]) (fun s=>[box bs [.slice s.lx.d.a s.lx.d.cs.length s.lx.d.ca, .slice s.lx.d.w s.lx.d.ps.length s.lx.d.cw, .slice s.lx.d.m s.lx.d.at'.length s.lx.d.cm, .slice s.lx.d.g s.lx.d.aA.length s.lx.d.cg, .int .i64 s.lx.gJ, .int .i64 s.lx.turn, .slice s.lx.qf s.lx.fr.length s.lx.cf, .slice s.lx.qo s.lx.ops.length s.lx.co] 136,sl 1 (.slice s.lx.d.a s.lx.d.cs.length s.lx.d.ca) (s.lx.d.cs.map fS),sl 2 (.slice s.lx.d.w s.lx.d.ps.length s.lx.d.cw) (s.lx.d.ps.map fP),sl 2 (.slice s.lx.d.m s.lx.d.at'.length s.lx.d.cm) (s.lx.d.at'.map jP),sl 1 (.slice s.lx.d.g s.lx.d.aA.length s.lx.d.cg) (s.lx.d.aA.map fI),sl 1 (.slice s.lx.qf s.lx.fr.length s.lx.cf) (s.lx.fr.map fI),own (.slice s.lx.qo s.lx.ops.length s.lx.co) 87 3 s.lx.ops.length (flat FM s.lx.ops)]) _ (fun s=>l.length-s.li) ((⟨0,x0,tB⟩)) (by exact⟨fe _,zv⟩) Ze Zb (fun⟨i,x,tab⟩ ⟨hi,zx⟩=> ?_);refine Da ?_);clear zv;dsimp only at hi zx ⊢;rcases dW l i with⟨y,hy,hlt⟩|hge
 ·have zt:=hc y (jg hy);have hg:=zx.inv.pM.mM;have hn1:=hg.n1;have hw4:=hg.wait;have DO:=aSM bs i Z8 x zx y zt;have D0:=atF bs x.d (.int .i64 x.gJ) (.int .i64 x.turn) (.slice x.qf x.fr.length x.cf) (.slice x.qo x.ops.length x.co) Z8 Z8;have F0:=atE bs x.d (.int .i64 x.gJ) (.int .i64 x.turn) (.slice x.qo x.ops.length x.co) x.qf x.fr.length x.cf;unfold sD.val jG at DO;unfold bI bC aX at*;dsimp only[dw,dz] at*;(refine bD ?_;intro b);dsimp only[fC];refine aM ?_;(refine Ca (D0) ?_;rintro _ _ ⟨_,⟨qa,ca,qw,cw,rfl,rfl⟩,rfl⟩;refine Da ?_);(refine bD ?_;intro b);(refine Ca (F0) ?_;rintro _ _ ⟨_,⟨rfl,rfl⟩,rfl⟩;refine Da ?_);refine aM ?_;refine Cb (DO) ?_;rintro _ _ ⟨_,⟨a,qn,cn,x',tab',⟨hst,zy⟩,rfl,rfl⟩,rfl⟩;clear DO D0 F0;have zu:=zy.inv.pM.mM;have hn1':=zu.n1;have hw4':=zu.wait;have hfew:=aOE hst;have hfl:=aeG zx.inv;have OK:=azY hst;have PL:=fun q c=>aOD qa qw q ca cw c x.d.cs x.d.ps x'.ops hg Z8 (azW zx.inv (by have:=zx.turn;omega) hst)
  have SM:=fun a w a2 w2 ca cw ca2 cw2=>aOH a w a2 w2 ca cw ca2 cw2 x'.d.cs x'.d.ps Z8 Z8
  have D1:=atF bs x'.d (.int .i64 x'.gJ) (.int .i64 x'.turn) (.slice x'.qf x'.fr.length x'.cf) (.slice x'.qo x'.ops.length x'.co) Z8 Z8;have O1:=aSN bs x'.d (.int .i64 x'.gJ) (.int .i64 x'.turn) (.slice x'.qf x'.fr.length x'.cf) x'.ops x'.qo x'.co Z8;have F1:=atE bs x'.d (.int .i64 x'.gJ) (.int .i64 x'.turn) (.slice x'.qo x'.ops.length x'.co) x'.qf x'.fr.length x'.cf;have CN0:=fun h q c=>alM q c x'.ops Z8 h
  unfold bI bC aX at*;unfold LQ.val fs.DR;dsimp only[dw,dz] at*;clear hst hg zu zx zt;(refine bD ?_;intro b);(refine Ca (D1) ?_;rintro _ _ ⟨_,⟨qb,cb,qx,cx,rfl,rfl⟩,rfl⟩;refine Da ?_);refine aM ?_;(refine Ca (O1) ?_;rintro _ _ ⟨_,⟨qd,cd,rfl,rfl⟩,rfl⟩;refine Da ?_);(refine bD ?_;intro b);(refine Ca (PL _ _) ?_;rintro _ _ ⟨_,⟨qe,ce,qg,cg,rfl,rfl⟩,rfl⟩;refine Da ?_);clear PL D1 O1;by_cases zw:y.kind=11∧a.err=0
  ·obtain⟨k1,k2⟩:=zw;obtain⟨p1,p2⟩:=OK.sync k1 k2;have hpl:x'.d.ps.length=0:=by rw[p1];rfl
   have zr:0<x'.ops.length:=mf.2 p2;clear OK CN0 F1 p1 p2;(repeat' (first|refine Y1 ?_|(refine Wb ?_;intro b)|(refine Wq ?_;intro q)|refine Wc (SM ..) ?_|(refine Ws ?_ ?_<;>intro h)|refine Wz ?_|fail));refine Ee ((⟨i+1,x',tab'⟩:LSt)) ?_ ?_
   ·exact⟨hlt,zy⟩
   ·dsimp only;omega
  ·obtain⟨e1,e2,e3⟩:=OK.aPT zw;have CN:=CN0 e1;clear CN0 e1;by_cases ho:x'.ops=[]
   ·have zr:x'.ops.length=0:=by rw[ho];rfl
    clear OK ho;by_cases hk:y.kind=11
    ·have hae:a.err≠0:=fun h=>zw ⟨hk,h⟩
     clear zw;(refine JL ?_;intro b);(refine Ca (F1) ?_;rintro _ _ ⟨_,⟨rfl,rfl⟩,rfl⟩;refine Da ?_);refine aM ?_;(refine Ca (F1) ?_;rintro _ _ ⟨_,⟨rfl,rfl⟩,rfl⟩;refine Da ?_);refine aF ?_;refine Ee ((⟨i+1,x',tab'⟩:LSt)) ?_ ?_
     ·exact⟨hlt,zy⟩
     ·dsimp only;omega
    ·clear zw;(refine JL ?_;intro b);(refine Ca (F1) ?_;rintro _ _ ⟨_,⟨rfl,rfl⟩,rfl⟩;refine Da ?_);refine aM ?_;(refine Ca (F1) ?_;rintro _ _ ⟨_,⟨rfl,rfl⟩,rfl⟩;refine Da ?_);refine aF ?_;refine Ee ((⟨i+1,x',tab'⟩:LSt)) ?_ ?_
     ·exact⟨hlt,zy⟩
     ·dsimp only;omega
   ·obtain⟨k1,k2,k3,k4⟩:=OK.aUQ ho;have zr:0<x'.ops.length:=mf.2 ho;have hk:y.kind≠11:=fun h=>zw ⟨h,k1⟩
    clear OK ho zw;(refine JL ?_;intro b);(refine Ca (F1) ?_;rintro _ _ ⟨_,⟨rfl,rfl⟩,rfl⟩;refine Da ?_);refine aM ?_;(refine Ca (F1) ?_;rintro _ _ ⟨_,⟨rfl,rfl⟩,rfl⟩;refine Da ?_);refine aF ?_;refine Ee ((⟨i+1,x',tab'⟩:LSt)) ?_ ?_
    ·exact⟨hlt,zy⟩
    ·dsimp only;omega
 ·obtain rfl:i=l.length:=Z8
  refine aF ?_;exact Ea (x:=⟨rfl,rfl⟩)
theorem WS (s:ByteArray):str s.data.toList=s:=by cases s;rfl
theorem aSS:(fun p:Int×ByteArray×ByteArray×Int×Int×ByteArray=>[gh .i64 p.1,afw p.2.1,afw p.2.2.1,gh .i64 p.2.2.2.1,gh .i64 p.2.2.2.2.1,afw p.2.2.2.2.2])=fun p=>fC (toC p):=by
 funext p;unfold fC toC;rw[WS,WS,WS]
theorem aST {p:Int×ByteArray×ByteArray×Int×Int×ByteArray} (zy:(kg .i64 p.2.2.2.1).wf=true) (zx:(kg .i64 p.2.2.2.2.1).wf=true) (h:p.2.1.size≤1048576∧p.2.2.1.size≤1048576∧p.2.2.2.2.2.size≤1048576):asW (toC p):=by
 obtain⟨h1,h2,h3⟩:=h;have e: ∀ s:ByteArray,s.data.toList.length=s.size:=fun s=>by cases s;simp [kh]
 simp [Lit.wf,IntKind.min,IntKind.max,IntKind.signed,IntKind.bits] at zy zx;refine⟨?_, ?_, ?_, ?_, ?_⟩
 ·show p.2.1.data.toList.length≤_;rw[e];omega
 ·show p.2.2.1.data.toList.length≤_;rw[e];omega
 ·show p.2.2.2.2.2.data.toList.length≤_;rw[e];omega
 ·show p.2.2.2.1≤_;omega
 ·show p.2.2.2.2.1≤_;omega
theorem walk (W:World) (a:Int) (ha:(kg .i64 a).wf=true) (v:Value) (xs:List (Int×ByteArray×ByteArray×Int×Int×ByteArray)) (hs:bX W 6 v (xs.map fun p:Int×ByteArray×ByteArray×Int×Int×ByteArray=>[gh .i64 p.1,afw p.2.1,afw p.2.2.1,gh .i64 p.2.2.2.1,gh .i64 p.2.2.2.2.1,afw p.2.2.2.2.2])) (hg: ∀ p∈xs,(kg .i64 p.1).wf=true∧p.2.1.size≤maxLen∧p.2.2.1.size≤maxLen∧(kg .i64 p.2.2.2.1).wf=true∧(kg .i64 p.2.2.2.2.1).wf=true∧p.2.2.2.2.2.size≤maxLen) (hn:xs.length≤1048576) (hb: ∀ p∈xs,p.2.1.size≤1048576∧p.2.2.1.size≤1048576∧p.2.2.2.2.2.size≤1048576):Calls lk 8 #[.int .i64 a,v] W fun e w'=>e= .returned (.bool true)∧Below W.heap.size W w':=by
 obtain ⟨q, c, rfl⟩ := afR hs;rw [aSS, show (fun p => fC (toC p)) = fC ∘ toC from rfl, ← List.map_map] at hs;simp only [gp] at hs ⊢;have L := aOJ a ha q c (xs.map toC) (by rw [gp]; exact hn) (fun y hy => by
  obtain ⟨p, hp, rfl⟩ := fa.1 hy;obtain ⟨_, _, _, h4, h5, _⟩ := hg p hp;exact aST h4 h5 (hb p hp))
 rw[gp] at L;exact atO (aKC hs aPX) L
end lawFsOps
