/- Law HandStale: its texts, packed. -/
import Derived.Test.YtbjalbcdbgcgdaaGreatK33
import Derived.Test.YtbjalbcdbgcgdaaGreatK14
import Derived.Test.YtbjalbcdbgcgdaaGreatK07
import Derived.Test.YtbjalbcdbgcgdaaGreatK13
import Derived.Test.YtbjalbcdbgcgdaaGreatK11
open List renaming Perm.swap->oz,drop->n5,drop_eq_nil_of_le->ou,drop_left'->oy,getElem?_eq_getElem->aj,getElem?_eq_some_iff->ah,length_append->ag,length_cons->fb,length_drop->eu,length_singleton->df,length_take->b9,mem_of_getElem?->jm,take->o0,takeWhile_cons->ox,take_append_drop->il,take_left'->ow,take_of_length_le->dc,take_take->ot
open Nat renaming add_mul->an,le_refl->aq,lt_irrefl->o7,lt_or_ge->iq,min_eq_left->gi
set_option linter.unusedVariables false
set_option maxRecDepth 100000
set_option maxHeartbeats 8000000
namespace Go.Proofs.YtbjalbcdbgcgdaaGreat.dir
open Go.RowKit bG sl yQ
theorem avN (z:Value) (k:Nat):(mQ z k).length=k*z.cells.size:=by simp [mQ]
theorem afN (p:bA):(fE p).length=2:=rfl
theorem cY (l:List bA):(flat fE l).length=l.length*2:=kB fE 2 afN l
theorem BG (l:List bA) (i:Nat):(flat fE l).take (i*2)=flat fE (l.take i):=by
 rcases iq i l.length with h|h
 ·have e:flat fE l=flat fE (l.take i)++flat fE (l.drop i):=by rw[←nW,il]
  rw[e];exact ow (by rw[cY,b9];omega)
 ·rw[dc (by rw[cY];omega),dc h]
theorem VW (l:List bA) (i:Nat):(flat fE l).drop (i*2)=flat fE (l.drop i):=by
 rcases iq i l.length with h|h
 ·have e:flat fE l=flat fE (l.take i)++flat fE (l.drop i):=by rw[←nW,il]
  rw[e];exact oy (by rw[cY,b9];omega)
 ·rw[ou (by rw[cY];omega),ou h];rfl
theorem uO (l:List bA): ∀ v∈flat fE l,v.oneCell'=true:=by
 intro u hu;unfold flat at hu;obtain⟨a,ha,hul⟩:=List.mem_flatten.1 hu;obtain⟨y,_,rfl⟩:=List.mem_map.1 ha;exact xH y u hul
theorem vV {raw:List Value} {xs:List bA} (h:raw.take (xs.length*2)=flat fE xs) {i k:Nat} (hk:i+k≤xs.length):(raw.drop (i*2)).take (k*2)=flat fE ((xs.drop i).take k):=by
 rw[←BG, ←VW, ←h,List.drop_take,ot];congr 1;omega
theorem EA {raw:List Value} {xs:List bA} (h:raw.take (xs.length*2)=flat fE xs) {i:Nat} (hi:i≤xs.length):raw.take (i*2)=flat fE (xs.take i):=by
 rw[←BG, ←h,ot];congr 1;omega
theorem aoD {A B C:List Value} {n:Nat} (h:n=A.length+B.length):(A++B++C).take n=A++B:=by
 subst h;rw[←ag];exact ow rfl
theorem IX {raw:List Value} {ys zs:List bA} {a:Nat} (h:raw.take (ys.length*2)=flat fE ys) (ha:a≤ys.length) (hl:(a+zs.length)*2≤raw.length):(raw.take (a*2)++flat fE zs++raw.drop (a*2+zs.length*2)).take ((a+zs.length)*2)=flat fE (ys.take a++zs):=by
 rw[EA h ha,aoD,nW];rw[cY,cY,b9,gi ha,an]
theorem aEV {raw:List Value} {ys zs:List bA} {a:Nat} (h:raw.take (ys.length*2)=flat fE ys) (ha:a+zs.length≤ys.length):(raw.take (a*2)++flat fE zs++raw.drop (a*2+zs.length*2)).take (ys.length*2)=flat fE (ys.take a++zs++ys.drop (a+zs.length)):=by
 rw[EA h (by omega),List.take_append, ←an,nW,nW];congr 1
 ·refine dc ?_;rw[ag,cY,cY,b9, ←an];exact Nat.mul_le_mul_right _ (by omega)
 ·have e:(ys.length*2-(flat fE (ys.take a)++flat fE zs).length)=(ys.length-(a+zs.length))*2:=by
   rw[ag,cY,cY,b9];omega
  rw[e,vV h (by omega)];congr 1;exact dc Zk
theorem avO (args:Array Value) (w:World):(callFunc 256 args).run Tryz.prog w=((Extern.SlicesOverlaps.overlaps #[200,200] #[4] args).run Tryz.prog w).andThen fun v w'=> .ok (.value v) w':=
 run_callFunc_extern Tryz.func256 (by kernel_rfl) (by kernel_rfl) (by kernel_rfl) (by kernel_rfl) args w
theorem aoE {f:FuncId} {args:List Value} {Rs:Value→List Ent→Prop} {q:Option Addr} {e sz m c:Nat} {xs:List Value} {E:Ent} {H:List Ent} {P:Program} (k:m≤c→c≤maxLen→(q=none∧c=0∨ ∃ g,q=some ⟨g,0,none⟩)→Ct P f args (E::own (.slice q m c) e sz m xs::H) Rs):Ct P f args (E::own (.slice q m c) e sz m xs::H) Rs:=
 rT (H:=own (.slice q m c) e sz m xs::E::H) (fun Fr=>bO (oz _ _ _)) (rW fun h1 h2 h3=>rT (H:=E::own (.slice q m c) e sz m xs::H) (fun Fr=>bO (oz _ _ _)) (k h1 h2 h3))
attribute [local irreducible] box own sl gH aH bC Qt cJ cG dC dG eO
theorem IQ (q qv:Option Addr) (c i:Nat) (xs:List bA) (x:bA) (hn:xs.length≤24) (hi:i≤xs.length):
  Ct Tryz.prog 212 [.slice q xs.length c, .int .i64 (i:Int), .slice qv 1 1] [own (.slice q xs.length c) 204 2 xs.length (flat fE xs),own (.slice qv 1 1) 204 2 1 (flat fE [x])] fun v H'=> ∃ q' c',v= .slice q' (xs.length+1) c'∧H'=[own (.slice q' (xs.length+1) c') 204 2 (xs.length+1) (flat fE (xs.take i++x::xs.drop i))]:=by
 refine rW fun hmc hcm hq=> ?_
 refine aoE fun _ _ hqv=> ?_
 obtain⟨gv,rfl⟩: ∃ g,qv=some ⟨g,0,none⟩:=hqv.resolve_left (by rintro⟨_,h⟩;omega);clear hqv;unfold maxLen at hcm;rcases iq i xs.length with hlt|hge
 ·obtain⟨g,rfl⟩: ∃ g,q=some ⟨g,0,none⟩:=hq.resolve_left (by rintro⟨_,h⟩;omega);by_cases hroom:c<xs.length+1
  ·clear hq;(refine Ye Tryz.func212 Tryz.ntmps212 ?_;intro Fr);refine aZ ?_;refine dJ wt (by rfl) (fL rfl rfl rfl rfl (by omega)) ?_;refine aZ ?_;refine DD .here fun raw hrl hrt _ _=> ?_
   (refine aI wt rfl (DE (k:=xs.length+1-i) rfl rfl rfl (by omega) .here (by omega) (by omega) rfl (by omega) (by omega) (by show (i+(xs.length+1-i))*24≤_;omega) (by rw[avN];rfl)) ?_;rintro _ _ ⟨g2,c2,rfl,rfl⟩);have hsrc:=vV (i:=i) (k:=xs.length-i) hrt (by omega);rw[dc (l:=xs.drop i) (by rw[eu];exact aq _)] at hsrc;rw[EA hrt hi,show i+(xs.length+1-i)=xs.length+1 from by omega];refine DD .here fun raw2 hrl2 hrt2 hc2 _=> ?_
   have hf2:raw2.take ((xs.take i).length*2)=flat fE (xs.take i):=by
    have h:=congrArg (o0 (i*2)) hrt2;rw[ot,gi (by omega),ow (by rw[cY,b9];omega)] at h;rw[b9,gi hi];exact h
   have e1:=IX (zs:=[x]) (a:=i) hf2 (by rw[b9];omega) (by rw[hrl2,df];omega);obtain⟨raw3,hraw3⟩: ∃ raw3,raw2.take (i*2)++flat fE [x]++raw2.drop (i*2+[x].length*2)=raw3:=⟨_,rfl⟩;rw[hraw3,ot,Nat.min_self] at e1;have hl3:(xs.take i++[x]).length=i+1:=by rw[ag,b9,df];omega
   rw[df, ←hl3] at e1;have hraw3l:raw3.length=c2*2:=by
    rw[←hraw3,ag,ag,b9,eu,cY,df];omega
   have e2:=IX (zs:=xs.drop i) (a:=i+1) e1 (by omega) (by rw[hraw3l,eu];omega);rw[eu,show i+1+(xs.length-i)=xs.length+1 from by omega,dc (l:=xs.take i++[x]) (by omega),show xs.take i++[x]++xs.drop i=xs.take i++x::xs.drop i from by simp] at e2;refine aZ ?_;refine dJ wt (by rfl) (fL (i:=i) rfl rfl rfl rfl (by omega)) ?_;rw[fF (by omega)];refine eU ?_;(refine aI wt rfl (rY (k:=1) rfl rfl rfl .here (.there .here) (by show min _ _=_;omega) (by omega) (by show 0+1*2≤2;omega) (uO [x])) ?_;rintro _ _ ⟨rfl,rfl⟩);rw[show (o0 (1*2) (n5 0 (flat fE [x])))=flat fE [x] from rfl,show i*2+1*2=i*2+[x].length*2 from rfl,hraw3];refine dN ?_;(refine aB (Hq:=[]) [] [] rfl (by kernel_rfl) Za ?_);refine gX ?_;(refine aA 4 ?_;refine aU _ rfl rfl wt (by decide +kernel) iS rfl (fL (i:=i+1) rfl rfl rfl rfl (by omega)) ?_);refine gX ?_;(refine aA 7 ?_;refine aU _ rfl rfl wt (by decide +kernel) iS rfl (fL (i:=i) rfl rfl rfl rfl (by omega)) ?_);rw[fF (by omega),fF (by omega)];(refine aA 8 ?_;refine Oa (l:=by exact (rY (k:=xs.length-i) rfl rfl rfl .here .here (by show min _ _=_;omega) (by omega) (by rw[hrl];omega) (by rw[hsrc];exact uO _))) (k:= ?_);rintro _ _ ⟨rfl,rfl⟩;refine Te ?_;(try refine Da ?_));rw[hsrc];refine KA ?_;refine lC (jB.refl _) (qN (m:=xs.length+1) (by omega) e2) ?_;exact Ea (x:=⟨some ⟨g2,0,none⟩,c2,rfl,rfl⟩)
  ·clear hq;(refine Ye Tryz.func212 Tryz.ntmps212 ?_;intro Fr);refine aZ ?_;refine dJ wt (by rfl) (fL rfl rfl rfl rfl (by omega)) ?_;refine aZ ?_;refine dJ wt (by rfl) (fL (i:=i+1) rfl rfl rfl rfl (by omega)) ?_;rw[fF (by omega)];refine DD .here fun raw hrl hrt _ _=> ?_
   (refine aI wt rfl (adV rfl rfl (u:= .bool false) fun w hw=>by rw[avO];erw [US (e:=204) (sz:=2) (.there .here) .here hw (by omega)];rfl) ?_;rintro _ _ ⟨rfl,rfl⟩);have hself:=vV (i:=i) (k:=xs.length-i) hrt (by omega);rw[dc (l:=xs.drop i) (by rw[eu];exact aq _)] at hself;have hend:=IX (zs:=xs.drop i) (a:=i+1) hrt (by omega) (by rw[hrl,eu];omega);rw[eu] at hend;obtain⟨raw1,hraw1⟩: ∃ raw1,raw.take ((i+1)*2)++flat fE (xs.drop i)++raw.drop ((i+1)*2+(xs.length-i)*2)=raw1:=⟨_,rfl⟩;rw[hraw1,show i+1+(xs.length-i)=xs.length+1 from by omega] at hend;have hyl:(xs.take (i+1)++xs.drop i).length=xs.length+1:=by rw[ag,b9,eu];omega
   rw[←hyl] at hend;have hin:=aEV (zs:=[x]) (a:=i) hend (by rw[hyl,df];omega);have hys:(xs.take (i+1)++xs.drop i).take i++[x]++(xs.take (i+1)++xs.drop i).drop (i+[x].length)=xs.take i++x::xs.drop i:=by
    have e1:(xs.take (i+1)++xs.drop i).take i=xs.take i:=by rw[List.take_append_of_le_length (by rw[b9];omega),ot];congr 1;omega
    have e2:(xs.take (i+1)++xs.drop i).drop (i+[x].length)=xs.drop i:=oy (by rw[b9,df];omega);rw[e1,e2];simp
   rw[hys,hyl] at hin;have hraw1l:raw1.length=c*2:=by
    rw[←hraw1,ag,ag,b9,eu,cY,eu];omega
   refine dN ?_;(refine aB (Hq:=[]) [] [] rfl (by kernel_rfl) Za ?_);refine gX ?_;(refine aA 4 ?_;refine aU _ rfl rfl wt (by decide +kernel) iS rfl (fL (i:=i+1) rfl rfl rfl rfl (by omega)) ?_);refine gX ?_;(refine aA 7 ?_;refine aU _ rfl rfl wt (by decide +kernel) iS rfl (fL (i:=i) rfl rfl rfl rfl (by omega)) ?_);rw[fF (by omega),fF (by omega)];(refine aA 8 ?_;refine Oa (l:=by exact (PJ (k:=xs.length-i) rfl rfl rfl .here (by show min _ _=_;omega) (by omega) (by rw[hrl];omega) (by rw[hself];exact uO _))) (k:= ?_);rintro _ _ ⟨rfl,rfl⟩;refine Te ?_;(try refine Da ?_));rw[hself,hraw1];refine KA ?_;refine dJ wt (by rfl) (fL (i:=i) rfl rfl rfl rfl (by omega)) ?_;rw[fF (by omega)];refine eU ?_;(refine aI wt rfl (rY (k:=1) rfl rfl rfl .here .here (by show min _ _=_;omega) (by omega) (by show 0+1*2≤2;omega) (uO [x])) ?_;rintro _ _ ⟨rfl,rfl⟩);rw[show (o0 (1*2) (n5 0 (flat fE [x])))=flat fE [x] from rfl];refine aZ ?_;refine lC (jB.refl _) (qN (m:=xs.length+1) (by omega) hin) ?_;exact Ea (x:=⟨some ⟨g,0,none⟩,c,rfl,rfl⟩)
 ·have:i=xs.length:=by omega
  subst this;rw[List.take_length,List.drop_length];(refine Ye Tryz.func212 Tryz.ntmps212 ?_;intro Fr);refine aZ ?_;refine dJ wt (by rfl) (fL rfl rfl rfl rfl (by omega)) ?_;refine aZ ?_;refine aS (axY (f:=fE) (ys:=[x]) (v:= .slice (some ⟨gv,0,none⟩) 1 1) (.there .here) afN rfl) ?_;(refine aI wt rfl (gJ (cnt:=0) (f:=fE) (ys:=[x]) rfl rfl rfl aN aN afN xH rfl (by show (xs.length+1)*24≤_;omega) (by show xs.length+1≤maxLen;unfold maxLen;omega)) ?_;rintro _ _ ⟨q2,c2,rfl,rfl⟩);refine eU ?_;exact Ea (x:=⟨q2,c2,rfl,by rw[nW]⟩)
theorem aAY (q:Option Addr) (c i:Nat) (xs:List bA) (hn:xs.length≤24) (hi:i<xs.length):
  Ct Tryz.prog 216 [.slice q xs.length c, .int .i64 (i:Int), .int .i64 ((i:Int)+1)] [own (.slice q xs.length c) 204 2 xs.length (flat fE xs)] fun v H'=> ∃ q' c',v= .slice q' (xs.length-1) c'∧H'=[own (.slice q' (xs.length-1) c') 204 2 (xs.length-1) (flat fE (xs.take i++xs.drop (i+1)))]:=by
 refine rW fun hmc hcm hq=> ?_
 obtain⟨g,rfl⟩: ∃ g,q=some ⟨g,0,none⟩:=hq.resolve_left (by rintro⟨_,h⟩;omega);clear hq;unfold maxLen at hcm;(refine Ye Tryz.func216 Tryz.ntmps216 ?_;intro Fr);refine aZ ?_;refine dJ wt (by rfl) (asN (i:=i) (h:=i+1) (mx:=xs.length) rfl rfl rfl rfl rfl rfl rfl rfl (by omega) (by omega) (by omega)) ?_;refine dN ?_;refine alS .here fun raw hrl hrt _ _=> ?_
 have hsrc:=vV (i:=i+1) (k:=xs.length-(i+1)) hrt (by omega);rw[dc (l:=xs.drop (i+1)) (by rw[eu];exact aq _)] at hsrc;have hend:=IX (zs:=xs.drop (i+1)) (a:=i) hrt (by omega) (by rw[hrl,eu];omega);rw[eu] at hend;obtain⟨raw1,hraw1⟩: ∃ raw1,raw.take (i*2)++flat fE (xs.drop (i+1))++raw.drop (i*2+(xs.length-(i+1))*2)=raw1:=⟨_,rfl⟩;rw[hraw1,show i+(xs.length-(i+1))=xs.length-1 from by omega] at hend;have hraw1l:raw1.length=c*2:=by
  rw[←hraw1,ag,ag,b9,eu,cY,eu];omega
 have hfin:(raw1.take ((xs.length-1)*2)++mQ (.agg #[.string ⟨#[]⟩, .int .i64 0]) 1++raw1.drop ((xs.length-1)*2+1*2)).take ((xs.length-1)*2)=flat fE (xs.take i++xs.drop (i+1)):=by
  rw[List.append_assoc,ow (by rw[b9];omega),hend]
 (refine aB (Hq:=[]) [] [] rfl (by kernel_rfl) Za ?_);refine gX ?_;(refine aA 5 ?_;refine aU _ rfl rfl wt (by decide +kernel) iS rfl (fL (i:=i+1) rfl rfl rfl rfl (by omega)) ?_);rcases iq (i+1) c with hic|hic
 ·rw[fF hic];(refine aA 6 ?_;refine Oa (l:=by exact (sW rfl rfl rfl .here (by omega) (by rw[hrl];omega) (by rw[hsrc];exact uO _))) (k:= ?_);rintro _ _ ⟨rfl,rfl⟩;refine Te ?_;(try refine Da ?_));rw[hsrc,hraw1,show i+(xs.length-(i+1))=xs.length-1 from by omega];refine KA ?_;refine dJ wt (by rfl) (KT (i:=xs.length-1) (h:=xs.length) rfl rfl rfl rfl (by omega) rfl (by omega) (by omega)) ?_;rw[fF (by omega),show xs.length-(xs.length-1)=1 from by omega];(refine cM wt (wQ rfl rfl .here (by omega) (by omega) (by decide) rfl) ?_;rintro _ _ ⟨rfl,rfl⟩);refine aZ ?_;refine lC (jB.refl _) (qN (m:=xs.length-1) (by omega) hfin) ?_;exact Ea (x:=⟨some ⟨g,0,none⟩,c,rfl,rfl⟩)
 ·have hci:c=i+1:=by omega
  have hxi:xs.length=i+1:=by omega
  rw[show sliced (some ⟨g,0,none⟩) (i+1) xs.length c 2= .slice (some ⟨g,0,none⟩) 0 0 from by rw[←hci,adW,hxi, ←hci,Nat.sub_self]];(refine aA 6 ?_;refine Oa (l:=by exact (sW rfl rfl rfl .here (by omega) (by omega) (by intro v hv;simp at hv))) (k:= ?_);rintro _ _ ⟨rfl,rfl⟩;refine Te ?_;(try refine Da ?_));rw[show raw.take (i*2)++(raw.drop 0).take (0*2)++raw.drop (i*2+0*2)=raw1 from by rw[←hraw1,show xs.drop (i+1)=[] from ou (by omega),hxi];simp [flat],show i+0=xs.length-1 from by omega];refine KA ?_;refine dJ wt (by rfl) (KT (i:=xs.length-1) (h:=xs.length) rfl rfl rfl rfl (by omega) rfl (by omega) (by omega)) ?_;rw[fF (by omega),show xs.length-(xs.length-1)=1 from by omega];(refine cM wt (wQ rfl rfl .here (by omega) (by omega) (by decide) rfl) ?_;rintro _ _ ⟨rfl,rfl⟩);refine aZ ?_;refine lC (jB.refl _) (qN (m:=xs.length-1) (by omega) hfin) ?_;exact Ea (x:=⟨some ⟨g,0,none⟩,c,rfl,rfl⟩)
end Go.Proofs.YtbjalbcdbgcgdaaGreat.dir
namespace Go.Proofs.YtbjalbcdbgcgdaaGreat.dir
open Go.RowKit bG sl yQ
def eX (l:List bA) (s:List UInt8):Nat:=(l.takeWhile fun p=>blt p.1 s).length
def BV (l:List bA) (s:List UInt8):Bool:=match l[eX l s]? with|some p=>decide (p.1=s)|none=>false
theorem VX (l:List bA) (s:List UInt8):eX l s≤l.length:=by
 unfold eX;exact (List.takeWhile_sublist _).length_le
theorem oU: ∀ {l:List bA} {s:List UInt8},(l.Pairwise fun a b=>blt a.1 b.1=true)→ ∀ {k:Nat} {p:bA},l[k]? =some p→(blt p.1 s=true↔k<eX l s)
 |[],_,_,_,_,h=>by cases h
 |x::l,s,hp,0,p,h=>by
  cases h;unfold eX;rw[ox];cases hx:blt x.1 s with
  |true=>simp
  |false=>simp
 |x::l,s,hp,k+1,p,h=>by
  have h1:=List.pairwise_cons.1 hp;have h2:l[k]? =some p:=h;have ih:=oU (s:=s) h1.2 h2;unfold eX at ih ⊢;rw[ox];cases hx:blt x.1 s with
  |true=>
   simp only[if_true,fb];rw[ih];omega
  |false=>
   have h3:=h1.1 p (jm h2);constructor
   ·intro h4;have:=vU h3 h4;rw[hx] at this;cases this
   ·intro h4;simp at h4
theorem ajL {l:List bA} {s:List UInt8} (hp:l.Pairwise fun a b=>blt a.1 b.1=true):BV l s=true↔ ∃ p∈l,p.1=s:=by
 unfold BV;constructor
 ·intro h;cases hq:l[eX l s]? with
  |none=>rw[hq] at h;cases h
  |some p=>
   rw[hq] at h;exact⟨p,jm hq,by simpa using h⟩
 ·rintro⟨p,hm,rfl⟩;obtain⟨k,hk⟩:=List.getElem?_of_mem hm;have h1:=oU (s:=p.1) hp hk;rw[oS] at h1;have h2: ¬ k<eX l p.1:=fun h=>by have:=h1.2 h;cases this
  have h3:eX l p.1=k:=by
   rcases iq (eX l p.1) k with h|h
   ·obtain⟨q,hq⟩: ∃ q,l[eX l p.1]? =some q:=⟨_,aj (Nat.lt_trans h (ah.1 hk).1)⟩;have h4:=oU (s:=p.1) hp hq;have h5:=List.pairwise_iff_getElem.1 hp _ _ (ah.1 hq).1 (ah.1 hk).1 h;rw[(ah.1 hq).2,(ah.1 hk).2] at h5;exact absurd (h4.1 h5) (o7 _)
   ·omega
  rw[h3,hk];simp
theorem abC (a b:List UInt8):Ct Tryz.prog 253 [.string (str a), .string (str b)] [] fun v H'=>v= .int .i64 (Lib.compareBytes a b)∧H'=[]:=
 aW fun w _=>(Tryz.strings_Compare (str a) (str b) w).mono fun e w' ⟨h1,h2⟩=>⟨h1,by rw[h2];exact Below.refl _ _⟩
def PV (a b:List UInt8):Int:=if blt a b then -1 else if a=b then 0 else 1
attribute [local irreducible] box own sl gH aH bC Qt cJ cG dC dG eO
theorem abD (p:bA) (s:List UInt8):Ct Tryz.prog 252 [.agg #[.string (str p.1), .int .i64 p.2], .string (str s)] [] fun v H'=>v= .int .i64 (PV p.1 s)∧H'=[]:=by
 have C0:=abC p.1 s;rw[ajK] at C0;unfold PV;generalize (if blt p.1 s=true then (-1:Int) else if p.1=s then 0 else 1)=r at*;(refine Ye Tryz.func252 Tryz.ntmps252 ?_;intro Fr);(repeat' (first|refine Wa ?_|refine We ?_|(refine Wb ?_;intro b)|refine Wc (C0 ..) ?_|fail));exact Ea (x:=⟨rfl,rfl⟩)
theorem afO (q:Option Addr) (c:Nat) (l:List bA) (s:List UInt8) (hn:l.length≤24) (hp:l.Pairwise fun a b=>blt a.1 b.1=true):
  Ct Tryz.prog 251 [.slice q l.length c, .string (str s), .func (.func 252) #[] #[]] [sl 2 (.slice q l.length c) (l.map fE)] fun v H'=>v= .tuple #[.int .i64 (eX l s:Int), .bool (BV l s)]∧H'=[]:=by
 have hle:=VX l s;(refine Ye Tryz.func251 Tryz.ntmps251 ?_;intro Fr);refine aZ ?_;(refine cK (σ:=Nat×Nat) (fun x=>x.1≤eX l s∧eX l s≤x.2∧x.2≤l.length) (fun x=>[(9, .int .i64 (x.1:Int)),(10, .int .i64 (x.2:Int))]) (fun x=>x.2-x.1) ((0,l.length)) (by exact⟨Nat.zero_le _,hle,aq _⟩) (by exact gA) (fun⟨i,j⟩ ⟨hi,hj,hjl⟩=> ?_);refine Da ?_);dsimp only at hi hj hjl;rcases iq i j with hlt|hge
 ·obtain⟨p,hpm⟩: ∃ p,l[(i+j)/2]? =some p:=⟨_,aj (by omega)⟩;have hq:(i+j)/2<l.length:=by omega
  have K0:=abD p s;have hi2:=oU (s:=s) hp hpm;cases hb:blt p.1 s with
  |true=>
   have h2:=hi2.1 hb;rw[show PV p.1 s= -1 from by unfold PV;rw[if_pos hb]] at K0;(repeat' (first|refine Wa ?_|refine We ?_|refine Wg (K0 ..) ?_|fail));refine Ee (((i+j)/2+1,j)) ?_ ?_
   ·exact⟨h2,hj,hjl⟩
   ·show j-((i+j)/2+1)<j-i;omega
  |false=>
   have h2: ¬ (i+j)/2<eX l s:=fun h=>by rw[hi2.2 h] at hb;cases hb
   obtain⟨r,hr,hr0⟩: ∃ r,PV p.1 s=r∧0≤r:=⟨_,rfl,by unfold PV;rw[if_neg (by simp [hb])];split<;>decide⟩;rw[hr] at K0;(repeat' (first|refine Wa ?_|refine We ?_|refine Wg (K0 ..) ?_|fail));refine Ee ((i,(i+j)/2)) ?_ ?_
   ·exact⟨hi,by omega,by omega⟩
   ·show (i+j)/2-i<j-i;omega
 ·have hij:i=eX l s:=by omega
  have hjj:j=eX l s:=by omega
  subst hij;have hjn:j≤eX l s:=hge;clear hi hj hjj hge;rcases iq (eX l s) l.length with hlt|hge
  ·obtain⟨p,hpm⟩: ∃ p,l[eX l s]? =some p:=⟨_,aj hlt⟩;have K0:=abD p s;have hi2:=oU (s:=s) hp hpm;have hb:blt p.1 s=false:=by
    cases hb:blt p.1 s with
    |false=>rfl
    |true=>exact absurd (hi2.1 hb) (o7 _)
   by_cases he:p.1=s
   ·have e:BV l s=true:=by unfold BV;rw[hpm];simp [he]
    rw[show PV p.1 s=0 from by unfold PV;rw[if_neg (by simp [hb]),if_pos he]] at K0;rw[e];clear hi2 hb he;(repeat' (first|refine Wa ?_|refine We ?_|refine Wg (K0 ..) ?_|fail));exact Ea (x:=⟨rfl,rfl⟩)
   ·have e:BV l s=false:=by unfold BV;rw[hpm];simp [he]
    rw[show PV p.1 s=1 from by unfold PV;rw[if_neg (by simp [hb]),if_neg he]] at K0;rw[e];clear hi2 hb he;(repeat' (first|refine Wa ?_|refine We ?_|refine Wg (K0 ..) ?_|fail));exact Ea (x:=⟨rfl,rfl⟩)
  ·have e:BV l s=false:=by unfold BV;rw[List.getElem?_eq_none hge]
   rw[e];refine aZ ?_;exact Ea (x:=⟨rfl,rfl⟩)
theorem NJ (q:Option Addr) (c:Nat) (l:List bA) (s:List UInt8) (hn:l.length≤24) (hp:l.Pairwise fun a b=>blt a.1 b.1=true):
  Ct Tryz.prog 205 [.slice q l.length c, .string (str s)] [sl 2 (.slice q l.length c) (l.map fE)] fun v H'=>v= .tuple #[.int .i64 (eX l s:Int), .bool (BV l s)]∧H'=[]:=by
 have S0:=afO q c l s hn hp;(refine Ye Tryz.func205 Tryz.ntmps205 ?_;intro Fr);(repeat' (first|refine Wa ?_|refine We ?_|refine Wc (S0 ..) ?_|fail));exact Ea (x:=⟨rfl,rfl⟩)
def dY (l:List bA) (s:List UInt8):Int:=if bL l≠0 then bL l else if ¬ iN s then 11 else if BV l s then 0 else 12
def iY (l:List bA) (s:List UInt8):Int:=if dY l s=0 then (match l[eX l s]? with|some p=>p.2|none=>0) else 0
theorem AW (q:Option Addr) (c:Nat) (l:List bA) (s:List UInt8) (hn:l.length≤1000000000000000000) (hs: ∀ p∈l,p.1.length≤9223372036854775807) (ht:s.length≤9223372036854775807):
  Ct Tryz.prog 138 [.slice q l.length c, .string (str s)] [sl 2 (.slice q l.length c) (l.map fE)] fun v H'=>v= .tuple #[.int .i64 (iY l s), .int .i64 (dY l s)]∧H'=[]:=by
 have C0:=bH q c l hn hs;have G0:=BD s ht;by_cases h0:bL l=0
 ·obtain⟨g1,g2,g3⟩:=(cW l).1 h0;rw[h0] at C0;by_cases h1:iN s
  ·have e:lP s=0:=by unfold lP;rw[if_pos h1]
   rw[e] at G0;have S0:=NJ q c l s g1 g3;cases hi:BV l s with
   |true=>
    have e2:dY l s=0:=by unfold dY;rw[if_neg (by simpa using h0),if_neg (by simpa using h1),hi,if_pos rfl]
    have hx: ∃ p,l[eX l s]? =some p:=by
     unfold BV at hi;cases hq:l[eX l s]? with
     |none=>rw[hq] at hi;cases hi
     |some p=>exact⟨p,rfl⟩
    obtain⟨p,hpk⟩:=hx;have e3:iY l s=p.2:=by unfold iY;rw[if_pos e2,hpk]
    have hlt:=(ah.1 hpk).1;rw[e2,e3];rw[hi] at S0;generalize eX l s=k at*;clear e e2 e3 g2 g3 hs hi;(refine Ye Tryz.func138 Tryz.ntmps138 ?_;intro Fr);(repeat' (first|refine Wa ?_|refine We ?_|refine Wc (C0 ..) ?_|refine Wc (G0 ..) ?_|refine Wc (S0 ..) ?_|fail));exact Ea (x:=⟨rfl,rfl⟩)
   |false=>
    have e2:dY l s=12:=by unfold dY;rw[if_neg (by simpa using h0),if_neg (by simpa using h1),hi,if_neg (by simp)]
    have e3:iY l s=0:=by unfold iY;rw[if_neg (by omega)]
    rw[e2,e3];rw[hi] at S0;generalize eX l s=k at*;clear e e2 e3 g2 g3 hs hi;(refine Ye Tryz.func138 Tryz.ntmps138 ?_;intro Fr);(repeat' (first|refine Wa ?_|refine We ?_|refine Wc (C0 ..) ?_|refine Wc (G0 ..) ?_|refine Wc (S0 ..) ?_|fail));exact Ea (x:=⟨rfl,rfl⟩)
  ·have e:lP s=11:=by unfold lP;rw[if_neg h1]
   rw[e] at G0;have e2:dY l s=11:=by unfold dY;rw[if_neg (by simpa using h0),if_pos h1]
   have e3:iY l s=0:=by unfold iY;rw[if_neg (by omega)]
   rw[e2,e3];clear e e2 e3;(refine Ye Tryz.func138 Tryz.ntmps138 ?_;intro Fr);(repeat' (first|refine Wa ?_|refine We ?_|refine Wc (C0 ..) ?_|refine Wc (G0 ..) ?_|fail));exact Ea (x:=⟨rfl,rfl⟩)
 ·have e2:dY l s=bL l:=by unfold dY;rw[if_pos h0]
  have e3:iY l s=0:=by unfold iY;rw[if_neg (by omega)]
  rw[e2,e3];clear e2 e3;generalize bL l=e at*;(refine Ye Tryz.func138 Tryz.ntmps138 ?_;intro Fr);(repeat' (first|refine Wa ?_|refine We ?_|refine Wc (C0 ..) ?_|fail));exact Ea (x:=⟨rfl,rfl⟩)
end Go.Proofs.YtbjalbcdbgcgdaaGreat.dir
namespace Go.Proofs.YtbjalbcdbgcgdaaGreat.own
open Go.RowKit bG sl dir
attribute [local irreducible] box own sl gH aH bC Qt cJ cG dC dG eO
theorem ajM (q:Option Addr) (c:Nat) (xs:List (bA)) (hn:xs.length*24≤140737488355328):
  Ct Tryz.prog 213 [.slice q xs.length c] [sl 2 (.slice q xs.length c) (xs.map fE)] fun v H'=> ∃ q' c',v= .slice q' xs.length c'∧H'=[own (.slice q' xs.length c') 204 2 xs.length (flat fE xs)]:=by
 refine alJ (fun hq hc hx=> ?_) fun hq=> ?_
 ·subst hq;subst hc;have hx':xs=[]:=by simpa using hx
  subst hx';(refine Ye Tryz.func213 Tryz.ntmps213 ?_;intro Fr);(repeat' (first|refine Wa ?_|refine aF ?_|(refine Wb ?_;intro b)|(refine Wq ?_;intro q)|(refine Ws ?_ ?_<;>intro h)|fail));refine dJ wt (by rfl) (wP rfl rfl rfl) ?_;(repeat' (first|refine Wa ?_|refine aF ?_|(refine Wb ?_;intro b)|(refine Wq ?_;intro q)|(refine Ws ?_ ?_<;>intro h)|fail));refine lC (jB.refl _) (aY _ 204 2) ?_;exact Ea (x:=⟨none,0,rfl,rfl⟩)
 ·obtain⟨ad,rfl⟩:=hq;(refine Ye Tryz.func213 Tryz.ntmps213 ?_;intro Fr);(repeat' (first|refine Wa ?_|refine aF ?_|(refine Wb ?_;intro b)|(refine Wq ?_;intro q)|(refine Ws ?_ ?_<;>intro h)|fail));refine dJ wt (by rfl) (wP rfl rfl rfl) ?_;(repeat' (first|refine Wa ?_|refine aF ?_|(refine Wb ?_;intro b)|(refine Wq ?_;intro q)|(refine Ws ?_ ?_<;>intro h)|fail));(refine aI wt rfl (alI rfl) ?_;rintro _ _ ⟨g,rfl,rfl⟩);(repeat' (first|refine Wa ?_|refine aF ?_|(refine Wb ?_;intro b)|(refine Wq ?_;intro q)|(refine Ws ?_ ?_<;>intro h)|fail));(refine aI wt rfl (gJ (cnt:=0) (f:=fE) (ys:=xs) rfl rfl rfl aN aN (by intro _;rfl) Zc rfl (by omega) Zg) ?_;rintro _ _ ⟨q2,c2,rfl,rfl⟩);rw[Nat.zero_add,List.nil_append];(repeat' (first|refine Wa ?_|refine aF ?_|(refine Wb ?_;intro b)|(refine Wq ?_;intro q)|(refine Ws ?_ ?_<;>intro h)|fail));exact Ea (x:=⟨q2,c2,rfl,rfl⟩)
end Go.Proofs.YtbjalbcdbgcgdaaGreat.own
namespace Go.Proofs.YtbjalbcdbgcgdaaGreat.dir
open Go.RowKit bG sl yQ own
def yD (l:List bA) (x:bA):List bA:=l.take (eX l x.1)++x::l.drop (eX l x.1)
def abE (l:List bA) (x:bA):Int:=if bL l≠0 then bL l else if mE x≠0 then mE x else if BV l x.1 then 13 else if l.length=24 then 10 else 0
def rE (l:List bA) (s:List UInt8):List bA:=l.take (eX l s)++l.drop (eX l s+1)
theorem abF (l:List bA) (x:bA):(yD l x).length=l.length+1:=by
 have:=VX l x.1;unfold yD;rw[ag,fb,b9,eu];omega
theorem SO {l:List bA} {x:bA} (h:abE l x=0):kZ l∧mE x=0∧BV l x.1=false∧l.length≠24:=by
 unfold abE at h;split at h
 ·exact absurd h ‹_›
 ·rename_i h1;split at h
  ·exact absurd h ‹_›
  ·rename_i h2;split at h
   ·cases h
   ·rename_i h3;split at h
    ·cases h
    ·exact⟨(cW l).1 (by simpa using h1),by simpa using h2,by simpa using h3, ‹_›⟩
theorem aAZ {l:List bA} {x:bA} (h1:kZ l) (h2:mE x=0) (h3:BV l x.1=false) (h4:l.length≠24):abE l x=0:=by
 unfold abE;rw[if_neg (by simpa using (cW l).2 h1),if_neg (by simpa using h2),h3,if_neg (by simp),if_neg h4]
theorem mF {l:List bA} {s:List UInt8} (h:dY l s=0):kZ l∧iN s∧BV l s=true:=by
 unfold dY at h;split at h
 ·exact absurd h ‹_›
 ·rename_i h1;split at h
  ·cases h
  ·rename_i h2;split at h
   ·exact⟨(cW l).1 (by simpa using h1),by simpa using h2, ‹_›⟩
   ·cases h
theorem afP {l:List bA} {s:List UInt8} (h:BV l s=true):eX l s<l.length:=by
 unfold BV at h;cases hq:l[eX l s]? with
 |none=>rw[hq] at h;cases h
 |some p=>exact (ah.1 hq).1
attribute [local irreducible] box own sl gH aH bC Qt cJ cG dC dG eO
theorem aEW (q:Option Addr) (c:Nat) (l:List bA) (x:bA) (h:abE l x=0):
  Ct Tryz.prog 145 [.slice q l.length c, .agg #[.string (str x.1), .int .i64 x.2]] [sl 2 (.slice q l.length c) (l.map fE)] fun v H'=> ∃ q' c',v= .tuple #[.slice q' (l.length+1) c', .int .i64 0]∧H'=[own (.slice q' (l.length+1) c') 204 2 (l.length+1) (flat fE (yD l x))]:=by
 obtain⟨hg,h2,h3,h4⟩:=SO h;obtain⟨g1,g2,g3⟩:=hg;have hgs: ∀ p∈l,p.1.length≤9223372036854775807:=fun p hp=>by
  have:=(gE (g2 p hp)).1.2.2.2.1;omega
 have hx:=(gE h2).1.2.2.2.1;have C0:=bH q c l (by omega) hgs;rw[(cW l).2 ⟨g1,g2,g3⟩] at C0;have F0:=zM x (by omega);rw[h2] at F0;have S0:=NJ q c l x.1 g1 g3;rw[h3] at S0;have K0:=ajM q c l (by omega);have hpl:=VX l x.1;have I0:=fun q qv c=>IQ q qv c (eX l x.1) l x g1 hpl
 have hne:(l.length:Int)≠24:=by omega
 unfold yD;generalize eX l x.1=i at*;generalize l.take i++x::l.drop i=res at*;clear h h2 h3 h4 g2 g3 hgs;(refine Ye Tryz.func145 Tryz.ntmps145 ?_;intro Fr);(repeat' (first|refine Wa ?_|refine aF ?_|(refine Wb ?_;intro b)|refine Wc (C0 ..) ?_|refine Wc (F0 ..) ?_|refine Wc (S0 ..) ?_|fail));(refine aB (Hq:=[_,_]) [0,1] [] rfl (by kernel_rfl) Za ?_);refine gX ?_;(refine aA 1 ?_;refine cU 4 (by kernel_rfl) ?_ ?_)
 ·(refine Cd 1 (K0) ?_;rintro _ _ ⟨_,⟨q1,c1,rfl,rfl⟩,rfl⟩;refine Te ?_;(try refine Da ?_));refine gX ?_;(refine aA 4 ?_;refine Oa (l:=by exact aM rfl rfl rfl (by exact lE) rfl rfl (by decide) rfl) (k:= ?_);rintro _ _ ⟨q3,rfl,rfl⟩;refine Te ?_;(try refine Da ?_));(repeat' (first|refine Wz ?_|fail));(refine Cc 5 (I0 _ _ _) ?_;rintro _ _ ⟨_,⟨q4,c4,rfl,rfl⟩,rfl⟩;refine Te ?_;(try refine Da ?_));refine pT ?_;exact Ea (x:=⟨q4,c4,rfl,rfl⟩)
 ·(refine Oc (l:=by exact aM rfl rfl rfl (by exact lE) rfl rfl (by decide) rfl) (k:= ?_);rintro _ _ ⟨q3,rfl,rfl⟩;refine Te ?_;(try refine Da ?_));refine gX ?_;(refine Cc 1 (K0) ?_;rintro _ _ ⟨_,⟨q1,c1,rfl,rfl⟩,rfl⟩;refine Te ?_;(try refine Da ?_));refine gX ?_;(refine Cc 5 (I0 _ _ _) ?_;rintro _ _ ⟨_,⟨q4,c4,rfl,rfl⟩,rfl⟩;refine Te ?_;(try refine Da ?_));refine pT ?_;exact Ea (x:=⟨q4,c4,rfl,rfl⟩)
theorem VR (q:Option Addr) (c:Nat) (l:List bA) (s:List UInt8) (h:dY l s=0):
  Ct Tryz.prog 149 [.slice q l.length c, .string (str s)] [sl 2 (.slice q l.length c) (l.map fE)] fun v H'=> ∃ q' c',v= .tuple #[.slice q' (l.length-1) c', .int .i64 0]∧H'=[own (.slice q' (l.length-1) c') 204 2 (l.length-1) (flat fE (rE l s))]:=by
 obtain⟨hg,h2,h3⟩:=mF h;have hlt:=afP h3;obtain⟨g1,g2,g3⟩:=hg;have hgs: ∀ p∈l,p.1.length≤9223372036854775807:=fun p hp=>by
  have:=(gE (g2 p hp)).1.2.2.2.1;omega
 have hx:=h2.2.2.2.1;have C0:=bH q c l (by omega) hgs;rw[(cW l).2 ⟨g1,g2,g3⟩] at C0;have G0:=BD s (by omega);rw[show lP s=0 from by unfold lP;rw[if_pos h2]] at G0;have S0:=NJ q c l s g1 g3;rw[h3] at S0;have K0:=ajM q c l (by omega);have I0:=fun q c=>aAY q c (eX l s) l g1 hlt
 unfold rE;generalize eX l s=i at*;generalize l.take i++l.drop (i+1)=res at*;clear h h2 h3 g2 g3 hgs;(refine Ye Tryz.func149 Tryz.ntmps149 ?_;intro Fr);(repeat' (first|refine Wa ?_|refine We ?_|refine Wc (C0 ..) ?_|refine Wc (G0 ..) ?_|refine Wc (S0 ..) ?_|fail));(refine Ca (K0) ?_;rintro _ _ ⟨_,⟨q1,c1,rfl,rfl⟩,rfl⟩;refine Da ?_);refine eU ?_;(refine Ca (I0 _ _) ?_;rintro _ _ ⟨_,⟨q4,c4,rfl,rfl⟩,rfl⟩;refine Da ?_);refine eU ?_;exact Ea (x:=⟨q4,c4,rfl,rfl⟩)
theorem avP {l:List bA} {s:List UInt8} (h:eX l s<l.length):(rE l s).length=l.length-1:=by
 unfold rE;rw[ag,b9,eu];omega
end Go.Proofs.YtbjalbcdbgcgdaaGreat.dir
