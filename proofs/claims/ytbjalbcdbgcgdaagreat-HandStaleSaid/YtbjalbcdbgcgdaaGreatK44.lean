/- Law HandStale: its texts, packed. -/
import Derived.Test.YtbjalbcdbgcgdaaGreatK43
import Derived.Test.YtbjalbcdbgcgdaaGreatK32
import Derived.Test.YtbjalbcdbgcgdaaGreatK07
import Derived.Test.YtbjalbcdbgcgdaaGreatK14
import Derived.Test.YtbjalbcdbgcgdaaGreatK31
import Derived.Test.YtbjalbcdbgcgdaaGreatK42
open List renaming Perm.cons->ql,Perm.swap->oz,Perm.trans->ll,Sublist.refl->qt,append_nil->jc,cons_append->jg,drop->n5,getElem?_eq_getElem->aj,getElem_of_mem->ph,length_append->ag,length_cons->fb,length_dropLast->qk,length_nil->lk,length_pos_iff->mz,length_singleton->df,mem_cons->aw,mem_cons_of_mem->ax,mem_cons_self->bc,mem_singleton->fk,nil_append->fe,not_mem_nil->fj,perm_append_comm->qq,take->o0
open Nat renaming zero_le->fg
open Decidable renaming not_not->ir
set_option linter.unusedVariables false
set_option maxRecDepth 100000
set_option maxHeartbeats 8000000
namespace Go.Proofs.YtbjalbcdbgcgdaaGreat.CA
open Go.RowKit bG sl yQ
def yO:List UInt8→List UInt8→List (List UInt8)
 |cur,[]=>if cur=[] then [] else [cur]
 |cur,x::t=>if x=47 then (if cur=[] then yO [] t else cur::yO [] t) else yO (cur++[x]) t
def GJ (s:List UInt8):List (List UInt8):=yO [] s
theorem axA (a b:List UInt8): ∀ cur,47∉a→yO cur (a++47::b)=if cur++a=[] then GJ b else (cur++a)::GJ b:=by
 induction a with
 |nil=>
  intro cur _;rw[fe,jc,yO,if_pos rfl];rfl
 |cons x a ih=>
  intro cur h;rw[jg,yO,if_neg (fun e=>h (by rw[e];exact bc)),ih _ fun h2=>h (ax _ h2)];simp
theorem agN (a:List UInt8): ∀ cur,47∉a→yO cur a=if cur++a=[] then [] else [cur++a]:=by
 induction a with
 |nil=>
  intro cur _;rw[jc,yO]
 |cons x a ih=>
  intro cur h;rw[yO,if_neg (fun e=>h (by rw[e];exact bc)),ih _ fun h2=>h (ax _ h2)];simp
theorem ajX {a:List UInt8} (b:List UInt8) (h:47∉a):GJ (a++47::b)=if a=[] then GJ b else a::GJ b:=axA a b [] h
theorem TR {a:List UInt8} (h:47∉a):GJ a=if a=[] then [] else [a]:=agN a [] h
theorem acL (r:List UInt8):(Lib.indexByte r 47= -1∧47∉r)∨ ∃ a b,r=a++47::b∧47∉a∧Lib.indexByte r 47=(a.length:Int):=by
 induction r with
 |nil=>exact .inl ⟨rfl,fj⟩
 |cons x t ih=>
  by_cases hx:x=47
  ·subst hx;exact .inr ⟨[],t,rfl,fj,by simp [Lib.indexByte]⟩
  ·have e:(x==47)=false:=by simpa using hx
   rcases ih with⟨h1,h2⟩|⟨a,b,h1,h2,h3⟩
   ·refine .inl ⟨by simp [Lib.indexByte,e,h1], ?_⟩;intro h;rcases aw.1 h with h|h
    ·exact hx h.symm
    ·exact h2 h
   ·refine .inr ⟨x::a,b,by rw[h1];rfl, ?_, ?_⟩
    ·intro h;rcases aw.1 h with h|h
     ·exact hx h.symm
     ·exact h2 h
    ·have: ¬ ((a.length:Int)= -1):=by omega
     simp [Lib.indexByte,e,h3,this]
instance:bX Tryz.prog 208:=⟨by kernel_rfl⟩
attribute [local irreducible] box own sl gH aH bC Qt cJ cG dC dG eO
theorem apN (s:List UInt8):Ct Tryz.prog 142 [.string (str s)] [] fun v H'=> ∃ b,v= .func (.func 208) #[] #[aH b 0]∧H'=[box b [.string (str s)] 9]:=by
 (refine Ye Tryz.func142 Tryz.ntmps142 ?_;intro Fr);(repeat' (first|refine Wa ?_|refine We ?_|(refine Wb ?_;intro b)|fail));exact Ea (x:=⟨_,rfl,rfl⟩)
attribute [local irreducible] mI mJ lQ nD GI
theorem BP (x y:Ent) (b:Ent) (A:List Ent):(b::x::y::A).Perm (x::y::(A++[b])):=by
 refine ll (oz _ _ _) (ql _ ?_);refine ll (oz _ _ _) (ql _ ?_);exact (List.perm_append_singleton b A).symm
theorem axB {l dd b:Nat} {rec:awX} {s:List UInt8} {A0:List Ent} (hs:s.length≤1000000) (J:List (List UInt8)→List Ent→Prop) (X:Code→List Ent→Prop)
  (hr: ∀ pre x post A,GJ s=pre++x::post→J pre A→agK Tryz.prog l dd rec #[.string (str x)] A (fun B=>J (pre++[x]) B) X) (h0:J [] A0):
  awY Tryz.prog 208 [.func (.yield l) #[] #[],aH b 0] (nD l (rec .ready none)::GI dd::box b [.string (str s)] 9::A0)
   fun H'=>(∃ L,J (GJ s) L∧H'=nD l (rec .ready none)::GI dd::L)∨ ∃ c L,X c L∧H'=nD l (rec .done (some c))::GI dd::L:=by
 refine acK Tryz.func208 Tryz.ntmps208 rfl rfl ?_;dsimp only[jg,fe,ini,Nat.reduceAdd];refine OM ?_;refine apL (σ:=List UInt8×List (List UInt8)×List Ent) (fun x=>GJ s=x.2.1++GJ x.1∧x.1.length≤s.length∧J x.2.1 x.2.2) (fun _=>[(0,Value.func (.yield l) #[] #[]),(1,aH b 0)]) (fun x=>box b [.string (str x.1)] 9::nD l (rec .ready none)::GI dd::x.2.2) (fun x=>x.1.length) (s,[],A0) ⟨rfl,Nat.le_refl _,h0⟩ (jB.of (by (try dsimp only);exact gA)) (bO (ll (ql _ (oz _ _ _)) (oz _ _ _))) ?_;rintro⟨r,pre,A⟩ ⟨g1,g2,g3⟩;dsimp only at g1 g2 g3 ⊢;by_cases hr0:r=[]
 ·have e0:(r==[])=true:=by rw[hr0];rfl
  (repeat' (first|refine Xa ?_|(refine Xb ?_;intro b)|(refine Xq ?_;intro q)|fail));refine WN (rs:=[]) rfl yT.r0 _ (Or.inl ⟨A,by rw[g1,hr0];simpa [GJ,yO] using g3,rfl⟩) ?_;rw[jc];exact HSub.drop (HSub.refl _)
 ·have e0:(r==[])=false:=by simpa using hr0
  have I0:=DZ r 47;rw[show ((47:Int).toNat.toUInt8)=47 from rfl] at I0;have hsl:=hs;rcases acL r with⟨k1,k2⟩|⟨a,t,k1,k2,k3⟩
  ·rw[k1] at I0;have hpos:0<r.length:=mz.2 hr0;have hn:GJ r=[r]:=by rw[TR k2,if_neg hr0]
   have hmin:min ((r.length:Int)+1) (r.length:Int)=(r.length:Int):=by omega
   have hd:n5 r.length r=[]:=List.drop_length;(repeat' (first|refine Xa ?_|(refine Xb ?_;intro b)|(refine Xq ?_;intro q)|refine Xc (I0 ..) ?_|fail));rw[List.take_length];refine OR (R:=[box b [.string (str r)] 9]) wt rfl rfl rfl (hr pre r [] A (by rw[g1,hn]) g3) (bO (BP _ _ _ _)) ?_ ?_
   ·intro L hL;refine TP (bO (BP _ _ _ _).symm) ?_;(repeat' (first|refine Xa ?_|(refine Xb ?_;intro b)|(refine Xq ?_;intro q)|fail));refine yM ([],pre++[r],L) ?_ (jB.of (by (try dsimp only);exact gA)) (HSub.refl _) ?_
    ·exact⟨by rw[g1,hn];simp [GJ,yO],by simp,hL⟩
    ·exact hpos
   ·intro c L hL;(repeat' (first|refine Xa ?_|(refine Xb ?_;intro b)|(refine Xq ?_;intro q)|fail));refine BO (rs:=[]) rfl yT.r0 _ (Or.inr ⟨c,L,hL,rfl⟩) ?_;exact HSub.nZ (by simp)
  ·rw[k3] at I0;have hrl:r.length=a.length+1+t.length:=by rw[k1];simp;omega
   have hmin:min ((a.length:Int)+1) (r.length:Int)=((a.length+1:Nat):Int):=by omega
   have hd:n5 (a.length+1) r=t:=by rw[k1];simp
   have ht:o0 a.length r=a:=by rw[k1];simp
   have hcut:=ajX t k2;by_cases ha:a=[]
   ·have hl0:a.length=0:=by rw[ha];rfl
    have hn:GJ r=GJ t:=by rw[k1,hcut,if_pos ha]
    (repeat' (first|refine Xa ?_|(refine Xb ?_;intro b)|(refine Xq ?_;intro q)|refine Xc (I0 ..) ?_|fail));refine yM (t,pre,A) ?_ (jB.of (by (try dsimp only);exact gA)) (HSub.refl _) ?_
    ·exact⟨by rw[g1,hn],by dsimp only;omega,g3⟩
    ·dsimp only;omega
   ·have hpos:0<a.length:=mz.2 ha;have hn:GJ r=a::GJ t:=by rw[k1,hcut,if_neg ha]
    (repeat' (first|refine Xa ?_|(refine Xb ?_;intro b)|(refine Xq ?_;intro q)|refine Xc (I0 ..) ?_|fail));refine OR (R:=[box b [.string (str r)] 9]) wt rfl rfl rfl (hr pre a (GJ t) A (by rw[g1,hn]) g3) (bO (BP _ _ _ _)) ?_ ?_
    ·intro L hL;refine TP (bO (BP _ _ _ _).symm) ?_;(repeat' (first|refine Xa ?_|(refine Xb ?_;intro b)|(refine Xq ?_;intro q)|fail));refine yM (t,pre++[a],L) ?_ (jB.of (by (try dsimp only);exact gA)) (HSub.refl _) ?_
     ·exact⟨by rw[g1,hn];simp,by dsimp only;omega,hL⟩
     ·dsimp only;omega
    ·intro c L hL;(repeat' (first|refine Xa ?_|(refine Xb ?_;intro b)|(refine Xq ?_;intro q)|fail));refine BO (rs:=[]) rfl yT.r0 _ (Or.inr ⟨c,L,hL,rfl⟩) ?_;exact HSub.nZ (by simp)
end Go.Proofs.YtbjalbcdbgcgdaaGreat.CA
namespace Go.Proofs.YtbjalbcdbgcgdaaGreat.CA
open Go.RowKit bG sl yQ
open file (fT JZ)
theorem axC {x:List UInt8} (s:List UInt8): ∀ cur,47∉cur→x∈yO cur s→x≠[]∧47∉x∧x.length≤cur.length+s.length:=by
 induction s with
 |nil=>
  intro cur hc h;rw[yO] at h;split at h
  ·exact absurd h fj
  ·rename_i hn;rw[fk.1 h];exact⟨hn,hc,by omega⟩
 |cons y t ih=>
  intro cur hc h;rw[yO] at h;have h0:=ih [] fj;split at h
  ·split at h
   ·have:=h0 h;exact⟨this.1,this.2.1,by have:=this.2.2;simp at this ⊢;omega⟩
   ·rename_i hn;rcases aw.1 h with h|h
    ·rw[h];exact⟨hn,hc,by omega⟩
    ·have:=h0 h;exact⟨this.1,this.2.1,by have:=this.2.2;simp at this ⊢;omega⟩
  ·rename_i hy;have:=ih (cur++[y]) (by simp [hc];exact fun e=>hy e.symm) h;exact⟨this.1,this.2.1,by have:=this.2.2;simp at this ⊢;omega⟩
theorem aBN {x s:List UInt8} (h:x∈GJ s):x≠[]∧47∉x∧x.length≤s.length:=by
 have:=axC s [] fj h;simpa using this
def BQ:List (List UInt8)→List (List UInt8)→List (List UInt8)×Int
 |out,[]=>(out,0)
 |out,n::t=>if n=[46] then BQ out t else if n=[46,46] then BQ out.dropLast t else if ¬ iN n then ([],11) else if out.length=8 then ([],2) else BQ (out++[n]) t
def bN (s:List UInt8):List (List UInt8)×Int:=if 200<s.length then ([],2) else if s.head? =some 47 then BQ [] (GJ s) else ([],11)
section
variable {P:Program} {Q:eP} {n:Nat} {F:dF} {H R:List Ent} {ro:Option Nat} {D:List Deferred}
theorem agO {cd:Code} {q:Option Addr} {e sz m c:Nat} {xs:List Value} (p:bF (own (.slice q m c) e sz m xs) H R) (k:m≤c→mI ro D P Q n cd F H):mI ro D P Q n cd F H:=fun a w hD ha hw=>by
 have hw':=hw.perm p.perm;obtain⟨raw,h1,h2,h3,h4,h5⟩:=IK (hw'.head:w.ownsRow 0 e sz (.slice q m c) m xs);exact k h4 a w hD ha hw
theorem axD {q:Option Addr} {e sz m k c:Nat} {xs ys:List Value} (hk:k≤m) (hx:xs.take (k*sz)=ys):HSub (own (.slice q m c) e sz m xs::R) (own (.slice q k c) e sz k ys::R):=fun w hw=>by
 obtain ⟨raw, h1, h2, h3, h4, h5⟩ := IK (hw.head : w.ownsRow 0 e sz (.slice q m c) m xs);have h6 : aD (own (.slice q c c) e sz c raw :: R) w := aD.pA hw rfl (mP.refl _ _) h1 fun b hb => .inl (by
  have hb2 : (Value.slice q c c).ownBlock = some b := hb;show (Value.slice q m c).ownBlock = some b;cases q <;> exact hb2)
 refine qN (Nat.le_trans hk h4) ?_ w h6;rw[←hx, ←h3,List.take_take,Nat.min_eq_left (Nat.mul_le_mul_right _ hk)]
theorem apO {q:Option Addr} {e sz m k c:Nat} {xs ys:List Value} (p:bF (own (.slice q m c) e sz m xs) H R) (hk:k≤m) (hx:xs.take (k*sz)=ys):HSub H (own (.slice q k c) e sz k ys::R):=HSub.trans (bO p.perm) (axD hk hx)
end
theorem apP (l:List (List UInt8)):(flat fT l).take ((l.length-1)*1)=flat fT l.dropLast:=by
 rw[Nat.mul_one];have h: ∀ l:List (List UInt8),flat fT l=l.map fun x=>Value.string (str x):=fun l=>by
  induction l with
  |nil=>rfl
  |cons a l ih=>show fT a++flat fT l=_;rw[ih];rfl
 rw[h,h, ←List.map_take,List.dropLast_eq_take]
instance:bX Tryz.prog 207:=⟨by kernel_rfl⟩
attribute [local irreducible] mI mJ lQ nD GI
attribute [local irreducible] box own sl gH aH bC Qt cJ cG dC dG eO
theorem apQ (s:List UInt8) (b:Bool) (hb:(s.head? =some 47)↔b=true) (hs:s.length≤1000000):Ct Tryz.prog 207 [.string (str s), .string (str [47])] [] fun v H'=>v= .bool b∧H'=[]:=by
 have h1:([47]:List UInt8).length=1:=rfl;cases s with
 |nil=>
  have:b=false:=by cases b<;>simp at hb ⊢
  subst this;have h2:([]:List UInt8).length=0:=rfl;(refine Ye Tryz.func207 Tryz.ntmps207 ?_;intro Fr);refine aZ ?_;exact Ea (x:=⟨rfl,rfl⟩)
 |cons x t=>
  have hl:(x::t).length=t.length+1:=rfl;have hq:(o0 1 (x::t)==[47])=b:=by
   show ([x]==[47])=b;simp at hb;cases b<;>simp at hb ⊢ <;>exact hb
  (refine Ye Tryz.func207 Tryz.ntmps207 ?_;intro Fr);refine aZ ?_;exact Ea (x:=⟨rfl,rfl⟩)
theorem acM (s:List UInt8) (b:Bool) (hb:(s.head? =some 47)↔b=true) (hs:s.length≤1000000):Ct Tryz.prog 141 [.string (str s), .string (str [47])] [] fun v H'=>v= .bool b∧H'=[]:=by
 have C0:=apQ s b hb hs;(refine Ye Tryz.func141 Tryz.ntmps141 ?_;intro Fr);(repeat' (first|refine Wa ?_|refine We ?_|refine Wc (C0 ..) ?_|fail));exact Ea (x:=⟨rfl,rfl⟩)
def acN (s:List UInt8) (v:Value) (H':List Ent):Prop:= ∃ q c,v= .tuple #[.slice q (bN s).1.length c, .int .i64 (bN s).2]∧H'=[own (.slice q (bN s).1.length c) 9 1 (bN s).1.length (flat fT (bN s).1)]
def SJ (s:List UInt8) (b b2 b3:Nat) (Fr:List Ent) (pre:List (List UInt8)) (A:List Ent):Prop:= ∃ out q c,A=box b [.slice q out.length c] 29::own (.slice q out.length c) 9 1 out.length (flat fT out)::box b2 [.slice none 0 0] 29::box b3 [.int .i64 0] 28::Fr∧out.length≤8∧ ∀ post,GJ s=pre++post→BQ [] (GJ s)=BQ out post
def SX (s:List UInt8) (b2 b3:Nat) (Fr:List Ent) (c:Code) (A:List Ent):Prop:= ∃ e,c= .ret∧A=box b2 [.slice none 0 0] 29::box b3 [.int .i64 e] 28::Fr∧BQ [] (GJ s)=([],e)
theorem vY (s:List UInt8) (hs:s.length≤maxLen):Ct Tryz.prog 61 [.string (str s)] [] (acN s):=by
 unfold acN;have hm:maxLen=9223372036854775807:=rfl;by_cases h1:200<s.length
 ·have e:bN s=([],2):=by unfold bN;rw[if_pos h1]
  rw[e];refine uX Tryz.func61 Tryz.ntmps61 rfl rfl fun Fr=> ?_
  dsimp only[jg,fe,ini,Nat.reduceAdd];(repeat' (first|refine Xa ?_|(refine Xb ?_;intro b)|(refine Xq ?_;intro q)|fail));exact BO rfl (by exact qK) _ (⟨none,0,rfl,rfl⟩) (by exact yP)
 ·by_cases h2:s.head? =some 47
  ·have C0:=acM s true (by simp [h2]) (by omega);have C1:=apN s;have e:bN s=BQ [] (GJ s):=by unfold bN;rw[if_neg h1,if_pos h2]
   rw[e];refine uX Tryz.func61 Tryz.ntmps61 rfl rfl fun Fr=> ?_
   dsimp only[jg,fe,ini,Nat.reduceAdd];(repeat' (first|refine Xa ?_|(refine Xb ?_;intro b)|(refine Xq ?_;intro q)|refine Xc (C0 ..) ?_|fail));rename_i b2 b3;(refine JD wt rfl (aV rfl (C1) rfl (by exact PG)) (by intro c h;cases h) ?_;rintro _ _ ⟨_,⟨b5,rfl,rfl⟩,rfl⟩;try refine Da ?_);(repeat' (first|refine Xa ?_|(refine Xb ?_;intro b)|(refine Xq ?_;intro q)|fail));refine apE (H':=box b5 [.string (str s)] 9::box b [.slice none 0 0] 29::own (.slice none 0 0) 9 1 0 []::box b2 [.slice none 0 0] 29::box b3 [.int .i64 0] 28::Fr) yP ?_;refine agM (Hd:=SJ s b b2 b3 Fr (GJ s)) (Hx:=SX s b2 b3 Fr) rfl ?_ ?_ ?_
   ·intro l dd fn T hT;refine axB (by omega) (SJ s b b2 b3 Fr) (SX s b2 b3 Fr) ?_ ?_
    ·rintro pre x post A hpost ⟨out,q,c,rfl,hlen,hsp⟩;have hx:=(aBN (s:=s) (x:=x) (by rw[hpost];simp)).2.2;have G0:=BD x (by omega);refine apM hT rfl fun Fr2=> ?_
     dsimp only[jg];(repeat' (first|refine Xa ?_|(refine Xb ?_;intro b)|(refine Xq ?_;intro q)|fail));refine agL (HSub.refl _) ?_;refine agO aN fun hmc=> ?_
     have hstep:=hsp _ hpost;rw[BQ] at hstep;by_cases x1:x=[46]
     ·rw[if_pos x1] at hstep;have e1:(x==[46])=true:=by rw[x1];rfl
      (repeat' (first|refine Xa ?_|(refine Xb ?_;intro b)|(refine Xq ?_;intro q)|fail));refine yN _ ⟨out,q,c,rfl,hlen,fun post2 h=> ?_⟩ yP;rw[hstep];rw[hpost] at h;simp at h;rw[h]
     ·rw[if_neg x1] at hstep;have e1:(x==[46])=false:=by simpa using x1
      by_cases x2:x=[46,46]
      ·rw[if_pos x2] at hstep;have e2:(x==[46,46])=true:=by rw[x2];rfl
       (repeat' (first|refine Xa ?_|(refine Xb ?_;intro b)|(refine Xq ?_;intro q)|fail));refine nT 11 rfl wt rfl (tT (m:=out.length-1) rfl rfl rfl (by omega) (by omega)) ?_;(repeat' (first|refine Xa ?_|(refine Xb ?_;intro b)|(refine Xq ?_;intro q)|fail));refine apF (jB.refl _) (apO (xs:=flat fT out) (m:=out.length) (k:=out.length-1) aN (by omega) (apP out)) ?_;refine yN _ ⟨out.dropLast,q,c,rfl,by rw[qk];omega,fun post2 h=> ?_⟩ ?_
       ·rw[hstep];rw[hpost] at h;simp at h;rw[h]
       ·rw[qk];exact yP
      ·rw[if_neg x2] at hstep;have e2:(x==[46,46])=false:=by simpa using x2
       by_cases x3:iN x
       ·rw[if_neg (fun h=>h x3)] at hstep;have g0:lP x=0:=by unfold lP;rw[if_pos x3]
        rw[g0] at G0;by_cases x4:out.length=8
        ·rw[if_pos x4] at hstep;(repeat' (first|refine Xa ?_|(refine Xb ?_;intro b)|(refine Xq ?_;intro q)|refine Xc (G0 ..) ?_|fail));exact uW _ ⟨2,rfl,rfl,hstep⟩ yP
        ·rw[if_neg x4] at hstep;(repeat' (first|refine Xa ?_|(refine Xb ?_;intro b)|(refine Xq ?_;intro q)|refine Xc (G0 ..) ?_|fail));refine JD wt rfl (by first|exact Ma (fT) [x] rfl|exact Mb (fT) [x] rfl) (by intro c h;cases h) ?_;rintro _ _ ⟨q2,c2,rfl,rfl⟩;(repeat' (first|refine Xa ?_|(refine Xb ?_;intro b)|(refine Xq ?_;intro q)|fail));refine yN _ ⟨out++[x],q2,c2,rfl,by rw[ag,df];omega,fun post2 h=> ?_⟩ yP;rw[hstep];rw[hpost] at h;simp at h;rw[h]
       ·rw[if_pos x3] at hstep;have g0:lP x=11:=by unfold lP;rw[if_neg x3]
        rw[g0] at G0;(repeat' (first|refine Xa ?_|(refine Xb ?_;intro b)|(refine Xq ?_;intro q)|refine Xc (G0 ..) ?_|fail));exact uW _ ⟨11,rfl,rfl,hstep⟩ yP
    ·exact⟨[],none,0,rfl,by simp,fun post h=>by rw[h];rfl⟩
   ·rintro dd L ⟨out,q,c,rfl,hlen,hsp⟩;have hfin:=hsp [] (by simp);rw[BQ] at hfin;rw[hfin];(repeat' (first|refine Xa ?_|(refine Xb ?_;intro b)|(refine Xq ?_;intro q)|fail));exact wY rfl (HSub.kC (.out (by exact aN) (.nil (qt _)))) (by exact qK) _ (⟨q,c,rfl,rfl⟩) (by exact yP)
   ·rintro c dd L ⟨e2,rfl,rfl,hfin⟩;rw[hfin];(repeat' (first|refine Xa ?_|(refine Xb ?_;intro b)|(refine Xq ?_;intro q)|fail));exact wY rfl (HSub.kC (.out (by exact aN) (.nil (qt _)))) (by exact qK) _ (⟨none,0,rfl,rfl⟩) (by exact yP)
  ·have C0:=acM s false (by simp [h2]) (by omega);have e:bN s=([],11):=by unfold bN;rw[if_neg h1,if_neg h2]
   rw[e];refine uX Tryz.func61 Tryz.ntmps61 rfl rfl fun Fr=> ?_
   dsimp only[jg,fe,ini,Nat.reduceAdd];(repeat' (first|refine Xa ?_|(refine Xb ?_;intro b)|(refine Xq ?_;intro q)|refine Xc (C0 ..) ?_|fail));exact BO rfl (by exact qK) _ (⟨none,0,rfl,rfl⟩) (by exact yP)
end Go.Proofs.YtbjalbcdbgcgdaaGreat.CA
namespace Go.Proofs.YtbjalbcdbgcgdaaGreat.fs
open Go.RowKit bG sl aX use dO fV dE file dir yQ
theorem BR: ∀ (l out:List (List UInt8)),((∀ s∈out,iN s)∧out.length≤8)→(∀ s∈(CA.BQ out l).1,iN s)∧(CA.BQ out l).1.length≤8
 |[],out,h=>h
 |n::l,out,h=>by
  rw[CA.BQ];split
  ·exact BR l out h
  ·split
   ·exact BR l _ ⟨fun s hs=>h.1 s ((List.dropLast_sublist out).subset hs),by rw[qk];omega⟩
   ·split
    ·exact⟨fun s hs=>absurd hs fj,fg _⟩
    ·next hg=>
     split
     ·exact⟨fun s hs=>absurd hs fj,fg _⟩
     ·refine BR l _ ⟨fun s hs=> ?_,by rw[ag,df];omega⟩;rcases List.mem_append.1 hs with hs|hs
      ·exact h.1 s hs
      ·rw[fk] at hs;subst hs;exact ir.1 hg
theorem mK {s:List UInt8} {L:List (List UInt8)} {e:Int} (h:CA.bN s=(L,e)):(∀ t∈L,iN t)∧L.length≤8:=by
 have h1:(CA.bN s).1=L:=by rw[h]
 rw[←h1];unfold CA.bN;split
 ·exact⟨fun s hs=>absurd hs fj,fg _⟩
 ·split
  ·exact BR _ [] ⟨fun s hs=>absurd hs fj,fg _⟩
  ·exact⟨fun s hs=>absurd hs fj,fg _⟩
def bT (x:tG):tG:=⟨x.d,x.vZ,x.turn,x.qf,x.cf,x.fr,none,0,[]⟩
theorem wC {x:tG} {tab:jQ} (h:Inv x tab):Inv (bT x) tab:=⟨h.BZ,h.shut,h.room,h.vZ,h.aGZ,h.turn,h.two⟩
theorem rL {s:List UInt8} (hs:s.length≤1000000000000000) {L:List (List UInt8)} {e:Int} (h:CA.bN s=(L,e)):Ct Tryz.prog 61 [.string (str s)] [] fun v H'=> ∃ q c,v= .tuple #[.slice q L.length c, .int .i64 e]∧H'=[own (.slice q L.length c) 9 1 L.length (flat fT L)]:=
 eW (CA.vY s Zh) fun v H' h2=>by
  obtain⟨q,c,h3,h4⟩:=h2;rw[h] at h3 h4;exact⟨q,c,h3,h4⟩
def tF (k:Int) (s:List UInt8) (s2:ByteArray) (at' N:Int) (text:List UInt8):Value:= .agg #[.int .i64 k, .string (str s), .string s2, .int .i64 at', .int .i64 N, .string (str text)]
attribute [local irreducible] box own sl gH aH bC Qt cJ cG dC dG eO
theorem JE (e:Int):Ct Tryz.prog 57 [.int .i64 e] [] fun v H'=>v=kQ e∧H'=[]:=by
 unfold kQ;(refine Ye Tryz.func57 Tryz.ntmps57 ?_;intro Fr);(repeat' (first|refine Wa ?_|refine We ?_|(refine Wb ?_;intro b)|fail));exact Ea (x:=⟨rfl,rfl⟩)
theorem apR (b:Nat) (q:Option Addr) (c:Nat) (k:Int):Ct Tryz.prog 62 [aH b 0, .slice q 0 c, .int .i64 k] [] fun v H'=>v= .int .i64 13∧H'=[]:=by
 (refine Ye Tryz.func62 Tryz.ntmps62 ?_;intro Fr);refine aZ ?_;exact Ea (x:=⟨rfl,rfl⟩)
theorem acO (b:Nat) (x:tG) (s:List UInt8) (hs:s.length≤1000000000000000) {L:List (List UInt8)} {e:Int} (h:CA.bN s=(L,e)) (he:e≠0∨L=[]) (s2:ByteArray) (at' N:Int) (text:List UInt8):
  Ct Tryz.prog 15 [aH b 0,tF 1 s s2 at' N text] (fU b x) fun v H'=>v=kQ (if e≠0 then e else 13)∧H'=fU b (bT x):=by
 have S0:=rL hs h;have FA:=JE;unfold kQ at FA ⊢;unfold bT tF;obtain⟨d,s0,tn,qf,cf,F,qo,co,Lo⟩:=x;obtain⟨a,ca,cs,w,cw,wl,m,cm,at1,qg,cg,aE⟩:=d;unfold fU bE bB at*;dsimp only[jg,fe] at*;by_cases he0:e=0
 ·subst he0;have hL:L=[]:=he.resolve_left (by simp);subst hL;have MK:=apR b;rw[if_neg (by simp)];(refine Ye Tryz.func15 Tryz.ntmps15 ?_;intro Fr);(repeat' (first|refine Wa ?_|refine aF ?_|(refine Wb ?_;intro b)|fail));refine aS (aY _ 87 3) ?_;(refine Ca (S0) ?_;rintro _ _ ⟨_,⟨q1,c1,rfl,rfl⟩,rfl⟩;refine Da ?_);(repeat' (first|refine Wa ?_|refine We ?_|refine Wc (MK _ _ _) ?_|refine Wc (FA ..) ?_|fail));exact Ea (x:=⟨rfl,rfl⟩)
 ·rw[if_pos he0];(refine Ye Tryz.func15 Tryz.ntmps15 ?_;intro Fr);(repeat' (first|refine Wa ?_|refine aF ?_|(refine Wb ?_;intro b)|fail));refine aS (aY _ 87 3) ?_;(refine Ca (S0) ?_;rintro _ _ ⟨_,⟨q1,c1,rfl,rfl⟩,rfl⟩;refine Da ?_);(repeat' (first|refine Wa ?_|refine We ?_|refine Wc (FA ..) ?_|fail));exact Ea (x:=⟨rfl,rfl⟩)
theorem apS {b:Nat} {x:tG} {tab:jQ} {r:Int×Nat} {nm:List UInt8} {ino:Nat} {kind g:Int} {v:Value} {H':List Ent} (h:uT b x tab r nm ino kind g v H'): ∃ e:Int,v= .int .i64 e:=by
 rcases h with⟨e,_,_,h,_⟩|⟨y,_,_,h⟩
 ·exact⟨e,h⟩
 ·exact wB h
theorem OT (b:Nat) (x:tG) {tab:jQ} (hI:Inv x tab) (s:List UInt8) (hs:s.length≤1000000000000000) {L:List (List UInt8)} (h:CA.bN s=(L,0)) {nm:List UInt8} {k:Nat} (hk:L.length=k+1) (hnm:L[k]? =some nm) {ino:Nat} (hT:OI x.d.at' x.d.aE ino) {g:Int} (hg:x.d.aE[ino]? =some g) (s2:ByteArray) (at' N:Int) (text:List UInt8):
  Ct Tryz.prog 15 [aH b 0,tF 1 s s2 at' N text] (fU b x) fun v H'=> ∃ e:Int,v=kQ e∧uT b (bT x) tab (dR tab 0 (L.take k)) nm ino 1 g (.int .i64 e) H':=by
 have S0:=rL hs h;obtain⟨hgood,hl8⟩:=mK h;have FA:=JE;have MA:=fun qL cL=>KY b (bT x) (wC hI) (fg _) qL cL L (by omega) hgood hk hnm (kind:=1) (.inl rfl) hT hg
 unfold kQ at FA ⊢;have YES: ∀ (e:Int) H',uT b (bT x) tab (dR tab 0 (L.take k)) nm ino 1 g (.int .i64 e) H'→ ∃ e':Int,(.agg #[.int .i64 e, .string (str []), .int .i64 0, .int .i64 0, .slice none 0 0]:Value)= .agg #[.int .i64 e', .string (str []), .int .i64 0, .int .i64 0, .slice none 0 0]∧uT b (bT x) tab (dR tab 0 (L.take k)) nm ino 1 g (.int .i64 e') H':=fun e H' h=>⟨e,rfl,h⟩
 have hint:=fun v H'=>apS (b:=b) (x:=bT x) (tab:=tab) (r:=dR tab 0 (L.take k)) (nm:=nm) (ino:=ino) (kind:=1) (g:=g) (v:=v) (H':=H')
 generalize uT b (bT x) tab (dR tab 0 (L.take k)) nm ino 1 g=MR at*;clear hg hT;unfold bT at MA;unfold tF;obtain⟨d,s0,tn,qf,cf,F,qo,co,Lo⟩:=x;obtain⟨a,ca,cs,w,cw,wl,m,cm,at1,qg,cg,aE⟩:=d;unfold fU bE bB at*;dsimp only[jg,fe] at*;(refine Ye Tryz.func15 Tryz.ntmps15 ?_;intro Fr);(repeat' (first|refine Wa ?_|refine aF ?_|(refine Wb ?_;intro b)|fail));refine aS (aY _ 87 3) ?_;(refine Ca (S0) ?_;rintro _ _ ⟨_,⟨q1,c1,rfl,rfl⟩,rfl⟩;refine Da ?_);refine dN ?_;refine aS (bI (v:= .slice q1 L.length c1) (e:=9) (m:=L.length) (f:=fT) (ys:=L) aN (fun _=>rfl) rfl) ?_;refine Cb (MA _ _) ?_;rintro _ _ ⟨_,hm,rfl⟩;obtain⟨e2,rfl⟩:=hint _ _ hm;refine aS (bO qq) ?_;refine Da ?_;(repeat' (first|refine Wa ?_|refine Wc (FA ..) ?_|fail));exact Ec (x:=YES e2 _ hm)
end Go.Proofs.YtbjalbcdbgcgdaaGreat.fs
namespace Go.Proofs.YtbjalbcdbgcgdaaGreat.fs
open Go.RowKit bG sl aX use dO fV dE file yQ
theorem wD {P:Program} {ops:Array Oper} {Q:eP} {n:Nat} {Hq:List Ent} {nk:List Nat} {r i m:Nat} {Lk:Array Bool} {F:dF} {A B:List Ent} (h:cQ P ops Q n Hq nk r i m Lk F (B++A)):cQ P ops Q n Hq nk r i m Lk F (A++B):=bV (bO qq) h
attribute [local irreducible] box own sl gH aH bC Qt cJ cG dC dG eO
theorem axE (e:Int):Ct Tryz.prog 57 [.int .i64 e] [] fun v H'=>v=kQ e∧H'=[]:=by
 unfold kQ;(refine Ye Tryz.func57 Tryz.ntmps57 ?_;intro Fr);(repeat' (first|refine Wa ?_|refine We ?_|(refine Wb ?_;intro b)|fail));exact Ea (x:=⟨rfl,rfl⟩)
def WrR (b:Nat) (x:tG) (tab:jQ) (n:Nat) (y:Nd) (at':Int) (text:List UInt8) (v:Value) (H':List Ent):Prop:=
 ((wrE at' text≠0∨text=[])∧v=kQ (wrE at' text)∧H'=fU b x)∨
 ((wrE at' text=0∧text≠[])∧apC b x (mZ tab n (some ⟨1,y.gen,jL y.size at'.toNat text,mX y.size at'.toNat text y.parts⟩)) x.d.aE 9 4 v H')
theorem acP (b:Nat) (x:tG) {tab:jQ} (hI:Inv x tab) (hops:x.ops.length≤1000) {n:Nat} {y:Nd} (hy:tab n=some y) (hk:y.kind=1) {l:List UInt8} (hl:jO x.d n y l) (s1 s2:ByteArray) (at' N:Int) (text:List UInt8) (ht:text.length≤1000000000000000) (q:Option Addr) (c:Nat):
  Ct Tryz.prog 68 [aH b 0, .agg #[.int .i64 3, .string s1, .string s2, .int .i64 at', .int .i64 N, .string (str text)], .int .i64 (n:Int), .agg #[.int .i64 (kI l), .int .i64 (gI l), .int .i64 (zI l), .slice q (pI l).length c]] (fU b x++[sl 2 (.slice q (pI l).length c) ((pI l).map jW)]) (WrR b x tab n y at' text):=by
 have hgf:=EB hl.data hl.small;have D0:=VV b x.d (.int .i64 x.vZ) (.int .i64 x.turn) (.slice x.qf x.fr.length x.cf) (.slice x.qo x.ops.length x.co) n y.size (kI l) (gI l) q c (pI l) y.parts hl.told.xL hl.small hl.data;rw[←hl.size] at D0;have hpo:(pI l).length=y.parts.length:=hl.data.2.1.symm;have hp8:y.parts.length≤8:=by have:=hl.data.1;have:=hl.small;unfold aJ at*;omega
 have FA:=axE;unfold kQ at FA;have BAD:wrE at' text≠0∨text=[]→WrR b x tab n y at' text (kQ (wrE at' text)) (fU b x):=fun h=> .inl ⟨h,rfl,rfl⟩
 have YES:wrE at' text=0→text≠[]→ ∀ e H',tA b x (mZ tab n (some ⟨1,y.gen,jL y.size at'.toNat text,mX y.size at'.toNat text y.parts⟩)) x.d.aE 9 4 (.int .i64 e) H'→WrR b x tab n y at' text (kQ e) H':=fun h1 h2 e H' h3=> .inr ⟨⟨h1,h2⟩,e,rfl,h3⟩
 unfold kQ at BAD YES;have CI:=fun tab' l (hl:l.length≤100) hC hS hsh q0 c0 hN hGn=>yK b x hI hops (tab':=tab') (l:=l) hl hC hS hsh q0 c0 4 (by omega) (N:=9) hN (G:=x.d.aE) hGn
 refine lX (R:=WrR b x tab n y at' text) ?_ fun _ _ h=>h
 generalize WrR b x tab n y at' text=RR at*;by_cases hw:wrE at' text=0
 ·obtain⟨ha0,qE⟩:=awO hw;obtain⟨a0,rfl⟩: ∃ a0:Nat,at'=(a0:Int):=⟨at'.toNat,by omega⟩;rw[Int.toNat_natCast] at YES;have hat':text=[]∨a0+text.length≤4096:=by rcases qE with h|h;exact .inl h;exact .inr (by omega)
  have W0:=fun q c=>anT q c y.size y.parts a0 text hgf hat'
  rw[←hl.size] at W0;by_cases ht0:text=[]
  ·have hb:=BAD (.inr ht0);rw[hw] at hb;have e0:(text==[])=true:=by rw[ht0];rfl
   clear CI YES BAD hw;generalize jL y.size a0 text=z2 at*;generalize mX y.size a0 text y.parts=P2 at*;obtain⟨d,s,tn,qf,cf,F,qo,co,Lo⟩:=x;obtain⟨a,ca,cs,w,cw,wl,m,cm,at1,qg,cg,aE⟩:=d;unfold fU bE bB at*;dsimp only[jg,fe] at*;(refine Ye Tryz.func68 Tryz.ntmps68 ?_;intro Fr);(repeat' (first|refine Wa ?_|refine aF ?_|(refine Wb ?_;intro b)|fail));(refine aB (Hq:=[_]) [1] [] rfl (by kernel_rfl) Za ?_);refine gX ?_;(refine aA 5 ?_;refine cU 9 (by kernel_rfl) ?_ ?_)
   ·(refine Cd 5 (D0) ?_;rintro _ _ ⟨_,⟨q5,c5,rfl,rfl⟩,rfl⟩;refine Te ?_;(try refine Da ?_));(repeat' (first|refine Wa ?_|refine Wk ?_|refine aF ?_|(refine Wb ?_;intro b)|fail));(refine Ca (W0 _ _) ?_;rintro _ _ ⟨_,⟨q6,rfl,rfl⟩,rfl⟩;refine Da ?_);(repeat' (first|refine Wa ?_|refine We ?_|refine Wc (FA ..) ?_|fail));exact Ea (x:=hb)
   ·(refine Oc (l:=by exact iI rfl) (k:= ?_);rintro _ _ ⟨b5,rfl,rfl⟩;refine Te ?_;(try refine Da ?_));refine gX ?_;(refine Cc 5 (D0) ?_;rintro _ _ ⟨_,⟨q5,c5,rfl,rfl⟩,rfl⟩;refine Te ?_;(try refine Da ?_));(repeat' (first|refine Wa ?_|refine Wk ?_|refine aF ?_|(refine Wb ?_;intro b)|fail));(refine Ca (W0 _ _) ?_;rintro _ _ ⟨_,⟨q6,rfl,rfl⟩,rfl⟩;refine Da ?_);(repeat' (first|refine Wa ?_|refine We ?_|refine Wc (FA ..) ?_|fail));exact Ea (x:=hb)
  ·have e0:(text==[])=false:=by simpa using ht0
   have hng:=agH (text:=text) hgf hat';have hy1:=YES hw ht0;have hn8:(mX y.size a0 text y.parts).length≤1000:=by have:=hng.2.1;have:=hng.1;unfold aJ at*;omega
   have hn512: ∀ t∈mX y.size a0 text y.parts,t.length≤512:=fun t ht=>by
    obtain⟨i,hi,rfl⟩:=ph ht;by_cases h0:(mX y.size a0 text y.parts)[i]=[]
    ·rw[h0];simp
    ·rw[hng.2.2 i _ (aj hi) h0];exact kK _ _
   have TC:=fun ps ho nq nl nc q c=>acC hl (.inl hk) (news:=mX y.size a0 text y.parts) (ps:=ps) ho hng nq nl nc q c
   have PC:=fun c hc hg hs=>aBL hI hy hk (z:=⟨1,y.gen,jL y.size a0 text,mX y.size a0 text y.parts⟩) (c:=c) hc hg hs rfl
   rw[hk] at TC;have CI1:=CI (mZ tab n (some ⟨1,y.gen,jL y.size a0 text,mX y.size a0 text y.parts⟩));have hnl:=anS y.size a0 text y.parts;rw[←hnl] at W0;have TN:=fun qo co qn cn=>yL (n:Int) (kI l) (gI l) (zI l) (zI l) ((jL y.size a0 text:Nat):Int) q c (pI l) qo co y.parts qn cn (mX y.size a0 text y.parts) hpo hn8 hn512 (by omega)
   clear CI YES BAD hng hw hnl hn512;generalize jL y.size a0 text=z2 at*;generalize mX y.size a0 text y.parts=P2 at*;generalize mZ tab n (some ⟨1,y.gen,z2,P2⟩)=T2 at*;obtain⟨d,s,tn,qf,cf,F,qo,co,Lo⟩:=x;obtain⟨a,ca,cs,w,cw,wl,m,cm,at1,qg,cg,aE⟩:=d;unfold fU bE bB at*;dsimp only[jg,fe] at*;(refine Ye Tryz.func68 Tryz.ntmps68 ?_;intro Fr);(repeat' (first|refine Wa ?_|refine aF ?_|(refine Wb ?_;intro b)|fail));(refine aB (Hq:=[_]) [1] [] rfl (by kernel_rfl) Za ?_);refine gX ?_;(refine aA 5 ?_;refine cU 9 (by kernel_rfl) ?_ ?_)
   ·(refine Cd 5 (D0) ?_;rintro _ _ ⟨_,⟨q5,c5,rfl,rfl⟩,rfl⟩;refine Te ?_;(try refine Da ?_));(repeat' (first|refine Wa ?_|refine Wk ?_|refine aF ?_|(refine Wb ?_;intro b)|fail));(refine Ca (W0 _ _) ?_;rintro _ _ ⟨_,⟨q6,rfl,rfl⟩,rfl⟩;refine Da ?_);refine dN ?_;(refine aB (Hq:=[_,_,_]) [0,2,6] [11] rfl (by kernel_rfl) Za ?_);refine gX ?_;(refine Cc 7 (TN _ _ _ _) ?_;rintro _ _ ⟨_,⟨ps,q7,c7,hps,rfl,rfl⟩,rfl⟩;refine Te ?_;(try refine Da ?_));(refine aA 8 ?_;refine Oa (l:=by exact aM rfl rfl rfl (by exact lE) rfl rfl (by decide) rfl) (k:= ?_);rintro _ _ ⟨q9,rfl,rfl⟩;refine Te ?_;(try refine Da ?_));obtain⟨t1,t2⟩:=TC ps hps q (pI l).length c q7 c7;obtain⟨m1,m2,m3,m4⟩:=PC _ t1 rfl t2;have C1:=CI1 _ (by simp) m1 m2 m3 q9 1 m4 rfl;dsimp only[fb,lk,Nat.reduceAdd] at C1;clear t1 t2 m1 m2 m3 m4 CI1 TC PC TN D0 W0;refine bV (bI (v:= .slice q9 1 1) (e:=237) (m:=1) (f:=BJ) (ys:=[⟨(n:Int),kI l,gI l,(z2:Int),q,(pI l).length,c,ps,q7,c7,false⟩]) aN (fun _=>rfl) rfl) ?_;refine bV (bI (v:= .slice q7 ps.length c7) (e:=289) (m:=ps.length) (f:=jD) (ys:=ps) aN (fun _=>rfl) rfl) ?_;refine bV (rK (sz:=4)) ?_;refine bV (oY (v:= .slice q7 ps.length c7) (rows:=ps.map jD) aN aN) ?_;(refine Ce 9 (C1) ?_;rintro _ _ ⟨_,hc,rfl⟩;refine Tf ?_;(try refine Da ?_));obtain⟨e2,rfl⟩:=wB hc;refine wD ?_;refine Da ?_;(refine Cc 10 (FA _) ?_;rintro _ _ ⟨_,⟨rfl,rfl⟩,rfl⟩;refine Te ?_;(try refine Da ?_));(refine aA 11 ?_;refine Ob (l:=by exact Zf) (k:= ?_);rintro _ _ ⟨rfl,rfl⟩;refine Te ?_;(try refine Da ?_));refine pT ?_;exact Ec (x:=hy1 e2 _ hc)
   ·(refine Oc (l:=by exact iI rfl) (k:= ?_);rintro _ _ ⟨b5,rfl,rfl⟩;refine Te ?_;(try refine Da ?_));refine gX ?_;(refine Cc 5 (D0) ?_;rintro _ _ ⟨_,⟨q5,c5,rfl,rfl⟩,rfl⟩;refine Te ?_;(try refine Da ?_));(repeat' (first|refine Wa ?_|refine Wk ?_|refine aF ?_|(refine Wb ?_;intro b)|fail));(refine Ca (W0 _ _) ?_;rintro _ _ ⟨_,⟨q6,rfl,rfl⟩,rfl⟩;refine Da ?_);refine dN ?_;(refine aB (Hq:=[_,_,_]) [0,2,6] [11] rfl (by kernel_rfl) Za ?_);refine gX ?_;(refine Cc 7 (TN _ _ _ _) ?_;rintro _ _ ⟨_,⟨ps,q7,c7,hps,rfl,rfl⟩,rfl⟩;refine Te ?_;(try refine Da ?_));(refine aA 8 ?_;refine Oa (l:=by exact aM rfl rfl rfl (by exact lE) rfl rfl (by decide) rfl) (k:= ?_);rintro _ _ ⟨q9,rfl,rfl⟩;refine Te ?_;(try refine Da ?_));obtain⟨t1,t2⟩:=TC ps hps q (pI l).length c q7 c7;obtain⟨m1,m2,m3,m4⟩:=PC _ t1 rfl t2;have C1:=CI1 _ (by simp) m1 m2 m3 q9 1 m4 rfl;dsimp only[fb,lk,Nat.reduceAdd] at C1;clear t1 t2 m1 m2 m3 m4 CI1 TC PC TN D0 W0;refine bV (bI (v:= .slice q9 1 1) (e:=237) (m:=1) (f:=BJ) (ys:=[⟨(n:Int),kI l,gI l,(z2:Int),q,(pI l).length,c,ps,q7,c7,false⟩]) aN (fun _=>rfl) rfl) ?_;refine bV (bI (v:= .slice q7 ps.length c7) (e:=289) (m:=ps.length) (f:=jD) (ys:=ps) aN (fun _=>rfl) rfl) ?_;refine bV (rK (sz:=4)) ?_;refine bV (oY (v:= .slice q7 ps.length c7) (rows:=ps.map jD) aN aN) ?_;(refine Ce 9 (C1) ?_;rintro _ _ ⟨_,hc,rfl⟩;refine Tf ?_;(try refine Da ?_));obtain⟨e2,rfl⟩:=wB hc;refine wD ?_;refine Da ?_;(refine Cc 10 (FA _) ?_;rintro _ _ ⟨_,⟨rfl,rfl⟩,rfl⟩;refine Te ?_;(try refine Da ?_));(refine aA 11 ?_;refine Ob (l:=by exact Zf) (k:= ?_);rintro _ _ ⟨rfl,rfl⟩;refine Te ?_;(try refine Da ?_));refine pT ?_;exact Ec (x:=hy1 e2 _ hc)
 ·have W0 := fun q c => anR q c (y.size : Int) y.parts at' text (by omega) (fun s hs => by
   obtain⟨i,hi,rfl⟩:=ph hs;by_cases h0:y.parts[i]=[]
   ·rw[h0];simp
   ·rw [hgf.2.2 i _ (aj hi) h0];have := kK y.size i;omega) (by omega) (by rw [awN hgf]; exact hw)
  rw[awN hgf, ←hl.size] at W0;have hb:=BAD (.inl hw);clear YES BAD CI;generalize wrE at' text=e at*;obtain⟨d,s,tn,qf,cf,F,qo,co,Lo⟩:=x;obtain⟨a,ca,cs,w,cw,wl,m,cm,at1,qg,cg,aE⟩:=d;unfold fU bE bB at*;dsimp only[jg,fe] at*;(refine Ye Tryz.func68 Tryz.ntmps68 ?_;intro Fr);(repeat' (first|refine Wa ?_|refine aF ?_|(refine Wb ?_;intro b)|fail));(refine aB (Hq:=[_]) [1] [] rfl (by kernel_rfl) Za ?_);refine gX ?_;(refine aA 5 ?_;refine cU 9 (by kernel_rfl) ?_ ?_)
  ·(refine Cd 5 (D0) ?_;rintro _ _ ⟨_,⟨q5,c5,rfl,rfl⟩,rfl⟩;refine Te ?_;(try refine Da ?_));(repeat' (first|refine Wa ?_|refine Wk ?_|refine We ?_|(refine Wb ?_;intro b)|refine Wc (W0 _ _) ?_|refine Wc (FA ..) ?_|fail));exact Ea (x:=hb)
  ·(refine Oc (l:=by exact iI rfl) (k:= ?_);rintro _ _ ⟨b5,rfl,rfl⟩;refine Te ?_;(try refine Da ?_));refine gX ?_;(refine Cc 5 (D0) ?_;rintro _ _ ⟨_,⟨q5,c5,rfl,rfl⟩,rfl⟩;refine Te ?_;(try refine Da ?_));(repeat' (first|refine Wa ?_|refine Wk ?_|refine We ?_|(refine Wb ?_;intro b)|refine Wc (W0 _ _) ?_|refine Wc (FA ..) ?_|fail));exact Ea (x:=hb)
end Go.Proofs.YtbjalbcdbgcgdaaGreat.fs
