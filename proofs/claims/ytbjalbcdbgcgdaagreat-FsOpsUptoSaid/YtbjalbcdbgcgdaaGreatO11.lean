/- FsOps, packed. -/
import Derived.Test.YtbjalbcdbgcgdaaGreatOQ
import Derived.Test.YtbjalbcdbgcgdaaGreatO05
import Derived.Test.YtbjalbcdbgcgdaaGreatO06
import Derived.Test.YtbjalbcdbgcgdaaGreatO00
import Derived.Test.YtbjalbcdbgcgdaaGreatO07
import Derived.Test.YtbjalbcdbgcgdaaGreatO01
open Go.Proofs.Tryz renaming prog->lk
open List renaming cons_append->dw,getElem?_of_mem->abl,nil_append->dz,replicate->du
open Nat renaming lt_or_ge->ig
set_option linter.unusedVariables false
set_option maxRecDepth 100000
set_option maxHeartbeats 8000000
namespace Go.Proofs.YtbjalbcdbgcgdaaGreat
open Go.RowKit bO sl
namespace fs
open bA use
abbrev RX:=Int×Int×ByteArray
def FM (x:RX):List Value:=[.int .i64 x.1, .int .i64 x.2.1, .string x.2.2]
theorem aqV (x:RX): ∀ u∈FM x,u.oneCell'=true:=by simp [FM,Value.oneCell']
def FO (b:Nat) (d:FD) (s t f:Value) (cs:List ByteArray) (ps:List (Int×ByteArray)) (l:List RX) (v:Value) (H':List Ent):Prop:=
 ∃ a ca w cw q c,v= .tuple #[]∧H'=bC b ⟨a,ca,cs,w,cw,ps,d.m,d.cm,d.at',d.g,d.cg,d.aA⟩ s t f (.slice q l.length c)::(aX ⟨a,ca,cs,w,cw,ps,d.m,d.cm,d.at',d.g,d.cg,d.aA⟩++[own (.slice q l.length c) 87 3 l.length (flat FM l)])
theorem aUB {a w:Option Addr} {ca cw:Nat} {cs:List ByteArray} {ps:List (Int×ByteArray)} {at':Int} {text:ByteArray} (hc:cs.length≤maxLen) (hp:ps.length≤maxLen) (h:bA.bR cs ps at' text=0):Ct lk 101 [.agg #[.slice a cs.length ca, .slice w ps.length cw], .int .i64 at', .string text] [sl 1 (.slice a cs.length ca) (cs.map fS),sl 2 (.slice w ps.length cw) (ps.map fP)] fun v H'=> ∃ qa ca qw cw,v= .tuple #[.agg #[.slice qa cs.length ca, .slice qw (ps++[(at',text)]).length cw], .int .i64 0]∧H'=[own (.slice qa cs.length ca) 9 1 cs.length (flat fS cs),own (.slice qw (ps++[(at',text)]).length cw) 130 2 (ps++[(at',text)]).length (flat fP (ps++[(at',text)]))]:=
 bY (bA.kJ a w ca cw cs ps at' text hc hp) fun v H' h2=>by
  rcases h2 with⟨h3,_⟩|⟨_,qa,ca,qw,cw,h3,h4⟩
  ·exact absurd h h3
  ·exact⟨qa,ca,qw,cw,h3,h4⟩
attribute [local irreducible] box own sl bL aH bJ Qt cN cM dG dL eQ
theorem RY (b:Nat) (d:FD) (s t f:Value) (l:List RX) (q0:Option Addr) (c0:Nat) (at':Int) (text:ByteArray) (hc:d.cs.length≤1000000) (hp:d.ps.length≤1000000) (hl:l.length≤1000000) (h:bA.bR d.cs d.ps at' text=0):
  Ct lk 128 [aH b 0, .agg #[.int .i64 1, .int .i64 at', .string text]] (bC b d s t f (.slice q0 l.length c0)::(aX d++[own (.slice q0 l.length c0) 87 3 l.length (flat FM l)])) (FO b d s t f d.cs (d.ps++[(at',text)]) (l++[(1,at',text)])):=by
 have W0:=aUB (a:=d.a) (w:=d.w) (ca:=d.ca) (cw:=d.cw) Zl Zl h;obtain⟨a,ca,cs,w,cw,wl,m,cm,at1,qg,cg,aA⟩:=d;have hone: ∀ y, ∀ u∈FM y,u.oneCell'=true:=aqV;unfold FO bC aX;dsimp only[dw,dz] at W0 hc hp h ⊢;(refine Ye Tryz.func128 Tryz.ntmps128 ?_;intro Fr);(refine iB ?_;intro b);(refine aD (Hq:=[_]) [0] [] rfl Jd Za ?_);refine jV ?_;(refine Cc 9 (W0) ?_;rintro _ _ ⟨_,⟨q1,c1,q2,c2,rfl,rfl⟩,rfl⟩;refine Te ?_;(try refine Da ?_));(repeat' (first|refine Wa ?_|(apply cod_seq_nd;(focus rfl))|refine Wk ?_|fail));refine aO (bB (v:= .slice q1 cs.length c1) (e:=9) (m:=cs.length) (f:=fS) (ys:=cs) aU (fun _=>rfl) rfl) ?_;refine aO (bB (v:= .slice q2 (wl++[(at',text)]).length c2) (e:=130) (m:=(wl++[(at',text)]).length) (f:=fP) (ys:=wl++[(at',text)]) aU (fun _=>rfl) rfl) ?_;(refine aD (Hq:=[_,_]) [2,3] [10] rfl Jd Za ?_);refine jV ?_;(refine aB 6 ?_;refine Oa (l:=by exact aT rfl rfl rfl Zp rfl rfl Z9 rfl) (k:= ?_);rintro _ _ ⟨q9,rfl,rfl⟩;refine Te ?_;(try refine Da ?_));(refine aB 7 ?_;refine Oa (l:=by exact (by first|exact Ma (FM) [(1,at',text)] rfl|exact Mb (FM) [(1,at',text)] rfl)) (k:= ?_);rintro _ _ ⟨q3,c3,rfl,rfl⟩;refine Te ?_;(try refine Da ?_));refine Yw7 ?_;exact Eb (x:=⟨q1,c1,q2,c2,q3,c3,rfl,rfl⟩)
theorem aUC {a w:Option Addr} {ca cw:Nat} {cs:List ByteArray} {ps:List (Int×ByteArray)} (hc:cs.length≤maxLen) (hp:ps.length≤maxLen) (h:bA.bZ cs ps=0):Ct lk 102 [.agg #[.slice a cs.length ca, .slice w ps.length cw]] [sl 1 (.slice a cs.length ca) (cs.map fS),sl 2 (.slice w ps.length cw) (ps.map fP)] fun v H'=> ∃ qa ca,v= .tuple #[.agg #[.slice qa (bA.land (fun _=>true) 0 cs ps).length ca, .slice none 0 0], .int .i64 0]∧H'=[own (.slice qa (bA.land (fun _=>true) 0 cs ps).length ca) 9 1 (bA.land (fun _=>true) 0 cs ps).length (flat fS (bA.land (fun _=>true) 0 cs ps))]:=
 bY (bA.ahE a w ca cw cs ps hc hp) fun v H' h2=>by
  rcases h2 with⟨h3,_⟩|⟨_,qa,ca,h3,h4⟩
  ·exact absurd h h3
  ·exact⟨qa,ca,h3,h4⟩
theorem aqW (b:Nat) (d:FD) (s t f:Value) (l:List RX) (q0:Option Addr) (c0:Nat) (hc:d.cs.length≤1000000) (hp:d.ps.length≤1000000) (hl:l.length≤1000000) (h:bA.bZ d.cs d.ps=0):
  Ct lk 128 [aH b 0, .agg #[.int .i64 2, .int .i64 0, .string .empty]] (bC b d s t f (.slice q0 l.length c0)::(aX d++[own (.slice q0 l.length c0) 87 3 l.length (flat FM l)])) (FO b d s t f (bA.land (fun _=>true) 0 d.cs d.ps) [] (l++[(2,0, .empty)])):=by
 have W0:=aUC (a:=d.a) (w:=d.w) (ca:=d.ca) (cw:=d.cw) Zl Zl h;obtain⟨a,ca,cs,w,cw,wl,m,cm,at1,qg,cg,aA⟩:=d;have hone: ∀ y, ∀ u∈FM y,u.oneCell'=true:=aqV;unfold FO bC aX;dsimp only[dw,dz] at W0 hc hp h ⊢;generalize bA.land (fun _=>true) 0 cs wl=cs' at W0 ⊢;(refine Ye Tryz.func128 Tryz.ntmps128 ?_;intro Fr);(refine iB ?_;intro b);(refine Ca (W0) ?_;rintro _ _ ⟨_,⟨q1,c1,rfl,rfl⟩,rfl⟩;refine Da ?_);(repeat' (first|refine Wa ?_|(apply cod_seq_nd;(focus rfl))|fail));refine aO (bB (v:= .slice q1 cs'.length c1) (e:=9) (m:=cs'.length) (f:=fS) (ys:=cs') aU (fun _=>rfl) rfl) ?_;refine aO (aS _ 130 2) ?_;refine aO (bB (v:= .slice none 0 0) (e:=130) (m:=0) (f:=fP) (ys:=[]) aU (fun _=>rfl) rfl) ?_;(refine aD (Hq:=[_,_]) [2,3] [10] rfl Jd Za ?_);refine jV ?_;(refine aB 6 ?_;refine Oa (l:=by exact aT rfl rfl rfl Zp rfl rfl Z9 rfl) (k:= ?_);rintro _ _ ⟨q9,rfl,rfl⟩;refine Te ?_;(try refine Da ?_));(refine aB 7 ?_;refine Oa (l:=by exact (by first|exact Ma (FM) [(2,0, .empty)] rfl|exact Mb (FM) [(2,0, .empty)] rfl)) (k:= ?_);rintro _ _ ⟨q3,c3,rfl,rfl⟩;refine Te ?_;(try refine Da ?_));refine Yw7 ?_;exact Eb (x:=⟨q1,c1,none,0,q3,c3,rfl,rfl⟩)
end fs
namespace file
open bld
attribute [local irreducible] box own sl bL aH bJ Qt cN cM dG dL eQ
theorem axO (q:Option Addr) (c:Nat) (n:Nat) (ps:List (List UInt8)) (hg:gA n ps):
  Ct lk 155 [.agg #[.int .i64 (n:Int), .slice q ps.length c]] [sl 1 (.slice q ps.length c) (ps.map fT)] fun v H'=>v= .string (str (lN n ps))∧H'=[]:=by
 have hn:=hg.1;have hpl:=hg.2.1;have hbl:=iI n ps;(refine Ye Tryz.func155 Tryz.ntmps155 ?_;intro Fr);(repeat' (first|refine Y1 ?_|(refine Wb ?_;intro b)|(refine Wq ?_;intro q)|(refine Ws ?_ ?_<;>intro h)|refine Wz ?_|fail));refine aO (aS _ 5 1) ?_;(refine aC (σ:=Nat×Value×Option Addr×Nat×List UInt8) (fun s=>s.1≤ps.length∧s.2.2.2.2=lN (min n (512*s.1)) ps∧(s.2.1= .pointer none∨s.2.1=me b)∧(s.1=0→s.2.2.1=none∧s.2.2.2.1=0)) (fun s=>[(9, .int .i64 (s.1:Int))]) (fun s=>[own (.slice s.2.2.1 s.2.2.2.2.length s.2.2.2.1) 5 1 s.2.2.2.2.length (flat fY s.2.2.2.2),box b [s.2.1, .slice s.2.2.1 s.2.2.2.2.length s.2.2.2.1] 313]) _ (fun s=>ps.length-s.1) ((0, .pointer none,none,0,[])) (by exact⟨Nat.zero_le _,by simp [lN], .inl rfl,fun _=>⟨rfl,rfl⟩⟩) Ze Zb (fun⟨k,p,qx,cx,l⟩ ⟨hk,hl,hp,h0⟩=> ?_);refine Da ?_);dsimp only at hk hl hp h0;rcases ig k ps.length with hlt|hge
 ·obtain⟨s,zy⟩: ∃ s,ps[k]? =some s:=⟨_,List.getElem?_eq_getElem hlt⟩;have hst:=rM hg zy;rw[←hl] at hst;have zv:k<aQ n:=Z8
  have h5:=xR zv;have hll:=jX n k;have L0:=FW n k Z8 Z8;have R0:=SI (cX n k) Z8;have zw:=zT hg zy;have hlen:l.length≤4096:=by rw[hl,iI];omega
  by_cases e1:s=[]
  ·have e2:(s==[])=true:=by rw[e1];rfl
   have W0:=DE b p hp qx cx l (du (cX n k) 0) (by rw[List.length_replicate];omega);have e3:NO (cX n k) s=du (cX n k) 0:=by unfold NO;rw[Jg e1]
   rw[e3] at hst;clear hst zw;(repeat' (first|refine Y1 ?_|(refine Wb ?_;intro b)|(refine Wq ?_;intro q)|refine Wc (L0 ..) ?_|refine Wc (R0 ..) ?_|(refine Ws ?_ ?_<;>intro h)|refine Wz ?_|fail));(refine Ca (W0) ?_;rintro _ _ ⟨_,⟨qy,cy,rfl,rfl⟩,rfl⟩;refine Da ?_);refine aF ?_;refine Ee ((k+1,me b,qy,cy,l++du (cX n k) 0)) ?_ ?_
   ·have hst:=rM hg zy;rw[e3, ←hl] at hst;exact⟨hlt,hst, .inr rfl,fun h=>absurd h Z8⟩
   ·show ps.length-(k+1)<ps.length-k;omega
  ·have e2:(s==[])=false:=by simpa using e1
   have W0:=DE b p hp qx cx l s Z8;have e3:NO (cX n k) s=s:=by unfold NO;rw[Jf e1]
   rw[e3] at hst;clear hst zw;(repeat' (first|refine Y1 ?_|(refine Wb ?_;intro b)|(refine Wq ?_;intro q)|refine Wc (L0 ..) ?_|refine Wc (R0 ..) ?_|(refine Ws ?_ ?_<;>intro h)|refine Wz ?_|fail));(refine Ca (W0) ?_;rintro _ _ ⟨_,⟨qy,cy,rfl,rfl⟩,rfl⟩;refine Da ?_);refine aF ?_;refine Ee ((k+1,me b,qy,cy,l++s)) ?_ ?_
   ·have hst:=rM hg zy;rw[e3, ←hl] at hst;exact⟨hlt,hst, .inr rfl,fun h=>absurd h Z8⟩
   ·show ps.length-(k+1)<ps.length-k;omega
 ·have zx:l=lN n ps:=by
   rw[hl];congr 1;have:k=aQ n:=Z8
   unfold aQ at this;omega
  have S0 := UU b cx qx p l fun h => h0 (by
   rw [h] at zx;have := congrArg List.length zx;rw [iI, List.length_nil] at this;rw [← this] at hpl;have : aQ 0 = 0 := rfl;omega)
  rw[←zx];clear zx hl;(repeat' (first|refine Y1 ?_|(refine Wb ?_;intro b)|(refine Wq ?_;intro q)|refine Wc (S0 ..) ?_|(refine Ws ?_ ?_<;>intro h)|refine Wz ?_|fail));exact Ea (x:=⟨rfl,rfl⟩)
theorem asJ (q:Option Addr) (c:Nat) (n:Nat) (ps:List (List UInt8)) (hg:gA n ps) (at' cnt:Nat) (ha:at'≤9223372036854775807) (hc:cnt≤9223372036854775807):
  Ct lk 73 [.agg #[.int .i64 (n:Int), .slice q ps.length c], .int .i64 (at':Int), .int .i64 (cnt:Int)] [sl 1 (.slice q ps.length c) (ps.map fT)] fun v H'=>v= .tuple #[.string (str (iT n ps at' cnt)), .int .i64 0]∧H'=[]:=by
 have hn:=hg.1;have hpl:=hg.2.1;have C0:=bP q c n ps ZB fun s h=>by
  obtain⟨i,hi⟩:=abl h;have:=zT hg hi;have:=jX n i;omega
 rw[jQ hg] at C0;rcases ig at' n with h|h
 ·have W0:=axO q c n ps hg;have hr:=aoF (at':=at') (cnt:=cnt) ps (Nat.le_of_lt h);rw[←hr,List.drop_take];have hbl:=iI n ps;generalize lN n ps=bs at*;have hmI:(at':Int)+min (cnt:Int) ((n:Int)-(at':Int))=((at'+min cnt (n-at'):Nat):Int):=Z8
  have hlo:at'≤at'+min cnt (n-at'):=Z8
  have hhi:at'+min cnt (n-at')≤bs.length:=Z8
  clear hr;(refine Ye Tryz.func73 Tryz.ntmps73 ?_;intro Fr);(repeat' (first|refine Y1 ?_|(refine Wb ?_;intro b)|(refine Wq ?_;intro q)|refine Wc (C0 ..) ?_|refine Wc (W0 ..) ?_|(refine Ws ?_ ?_<;>intro h)|refine Wz ?_|fail));exact Ea (x:=⟨rfl,rfl⟩)
 ·rw[JU _ h];(refine Ye Tryz.func73 Tryz.ntmps73 ?_;intro Fr);(refine JI ?_;intro b);exact Ea (x:=⟨rfl,rfl⟩)
theorem aFX (q:Option Addr) (c:Nat) (n:Nat) (ps:List (List UInt8)) (hg:gA n ps) (at' cnt:Int) (ha:at'<0∨cnt<0):
  Ct lk 73 [.agg #[.int .i64 (n:Int), .slice q ps.length c], .int .i64 at', .int .i64 cnt] [sl 1 (.slice q ps.length c) (ps.map fT)] fun v H'=>v= .tuple #[.string (str []), .int .i64 1]∧H'=[]:=by
 have hn:=hg.1;have hpl:=hg.2.1;have C0:=bP q c n ps ZB fun s h=>by
  obtain⟨i,hi⟩:=abl h;have:=zT hg hi;have:=jX n i;omega
 rw[jQ hg] at C0;by_cases h1:at'<0
 ·clear ha;(refine Ye Tryz.func73 Tryz.ntmps73 ?_;intro Fr);(refine JI ?_;intro b);exact Ea (x:=⟨rfl,rfl⟩)
 ·have h2:cnt<0:=Z8
  clear ha;(refine Ye Tryz.func73 Tryz.ntmps73 ?_;intro Fr);(refine JI ?_;intro b);exact Ea (x:=⟨rfl,rfl⟩)
end file
namespace XS
open bA aUR
attribute [local irreducible] box own sl bL aH bJ Qt cN cM dG dL eQ
theorem aOH (a w a2 w2:Option Addr) (ca cw ca2 cw2:Nat) (cs:List ByteArray) (ps:List (Int×ByteArray)) (h1:cs.length≤1000000) (h2:ps.length≤1000000):
  Ct lk 37 [.agg #[.slice a cs.length ca, .slice w ps.length cw], .agg #[.slice a2 cs.length ca2, .slice w2 ps.length cw2]] [sl 1 (.slice a cs.length ca) (cs.map fS),sl 2 (.slice w ps.length cw) (ps.map fP),sl 1 (.slice a2 cs.length ca2) (cs.map fS),sl 2 (.slice w2 ps.length cw2) (ps.map fP)] fun v H'=>v= .bool true∧H'=[]:=by
 have E1:=aOF a a2 ca ca2 cs cs Zl Zl;have E2:=aOG w w2 cw cw2 ps ps Zl Zl;rw[show decide (cs=cs)=true from decide_eq_true rfl] at E1;rw[show decide (ps=ps)=true from decide_eq_true rfl] at E2;(refine Ye Tryz.func37 Tryz.ntmps37 ?_;intro Fr);(repeat' (first|refine Y1 ?_|(refine Wb ?_;intro b)|(refine Wq ?_;intro q)|refine Wc (E1 ..) ?_|refine Wc (E2 ..) ?_|(refine Ws ?_ ?_<;>intro h)|refine Wz ?_|fail));exact Ea (x:=⟨rfl,rfl⟩)
end XS
namespace XS
open fs
attribute [local irreducible] box own sl bL aH bJ Qt cN cM dG dL eQ
theorem aOI (at':Int) (t:ByteArray):Ct lk 39 [.agg #[.int .i64 1, .int .i64 at', .string t]] [] fun v H'=>v= .bool false∧H'=[]:=by
 (refine Ye Tryz.func39 Tryz.ntmps39 ?_;intro Fr);(refine fH ?_;intro b);exact Ea (x:=⟨rfl,rfl⟩)
theorem aUS (q:Option Addr) (c:Nat) (l:List RX) (hl:l.length≤1000000) (h: ∀ o∈l,o.1=1):
  Ct lk 104 [.slice q l.length c, .func (.func 39) #[] #[]] [sl 3 (.slice q l.length c) (l.map FM)] fun v H'=>v= .int .i64 (-1)∧H'=[]:=by
 (refine Ye Tryz.func104 Tryz.ntmps104 ?_;intro Fr);refine aM ?_;(refine cU (σ:=Nat) (fun i=>i≤l.length) (fun i=>[(8, .int .i64 (i:Int))]) (fun i=>l.length-i) (0) Zx Ze (fun i hi=> ?_);refine Da ?_);rcases dW l i with⟨o,ho,hlt⟩|hge
 ·obtain⟨kd,at',t⟩:=o;have hk:kd=1:=h _ (List.mem_of_getElem? ho);subst hk;have C0:=aOI at' t;(repeat' (first|refine Y1 ?_|(refine Wb ?_;intro b)|(refine Wq ?_;intro q)|refine Wg (C0 ..) ?_|(refine Ws ?_ ?_<;>intro h)|refine Wz ?_|fail));refine Ee (i+1) ?_ ?_
  ·exact hlt
  ·omega
 ·obtain rfl:i=l.length:=Z8
  refine aF ?_;exact Ea (x:=⟨rfl,rfl⟩)
theorem alM (q:Option Addr) (c:Nat) (l:List RX) (hl:l.length≤1000000) (h: ∀ o∈l,o.1=1):
  Ct lk 38 [.slice q l.length c, .func (.func 39) #[] #[]] [sl 3 (.slice q l.length c) (l.map FM)] fun v H'=>v= .bool false∧H'=[]:=by
 have IX:=aUS q c l hl h;(refine Ye Tryz.func38 Tryz.ntmps38 ?_;intro Fr);(repeat' (first|refine Y1 ?_|(refine Wb ?_;intro b)|(refine Wq ?_;intro q)|refine Wc (IX ..) ?_|(refine Ws ?_ ?_<;>intro h)|refine Wz ?_|fail));exact Ea (x:=⟨rfl,rfl⟩)
end XS
