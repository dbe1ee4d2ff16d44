/- FsOps, packed. -/
import Derived.Test.YtbjalbcdbgcgdaaGreatOQ
import Derived.Test.YtbjalbcdbgcgdaaGreatO17
import Derived.Test.YtbjalbcdbgcgdaaGreatO00
import Derived.Test.YtbjalbcdbgcgdaaGreatO15
open List renaming cons_append->dw,getElem?_replicate->adt,length_append->ae,length_cons->dv,length_nil->gr,length_replicate->abp,length_singleton->gk,mem_cons_of_mem->a8,mem_cons_self->bu,mem_singleton->eh,nil_append->dz,not_mem_nil->ck,replicate->du
open Nat renaming le_refl->df,le_trans->gm,zero_add->dj,zero_le->fe
open Int renaming le_refl->jy,toNat_natCast->dc
open ByteArray renaming empty->aew
set_option linter.unusedVariables false
set_option maxRecDepth 100000
set_option maxHeartbeats 8000000
namespace Go.Proofs.YtbjalbcdbgcgdaaGreat
open Go.RowKit bA bO cK cO dZ file sl use
namespace fs
open dir uU
def eP:List UInt8→Nat
 |[]=>0
 |b::l=>(if b=47 then 1 else 0)+eP l
theorem vV: ∀ (a b:List UInt8),eP (a++b)=eP a+eP b
 |[],b=>by rw[dz,eP,dj]
 |x::a,b=>by rw[dw,eP,eP,vV a b];omega
theorem akE: ∀ {a:List UInt8},47∉a→eP a=0
 |[],_=>rfl
 |x::a,h=>by
  rw[eP,Jf (fun e=>h ZX),akE fun hm=>h (a8 _ hm)]
theorem aNC {x:List UInt8} (h:gU x):47∉x:=by
 have:=h.2.2.2.2;unfold UW at this;intro hx;simp at this;exact this.1 hx
theorem rP: ∀ (a:List UInt8),eP a≤a.length
 |[]=>df _
 |x::a=>by
  have:=rP a;rw[eP,dv];split<;>omega
theorem akF {tab:cT} (hS:Shut tab): ∀ (k n:Nat),Deep tab k n→ ∀ (r:List (List UInt8)) (m:Nat),aJ tab n r=(0,m)→r.length<k
 |0,n,h,_,_,_=>absurd h id
 |k+1,n,⟨x,hx,zy⟩,r,m,hr=>by
  cases r with
  |nil=>exact Nat.succ_pos k
  |cons a r=>
   obtain⟨j,⟨y,hy,hk,hp⟩,h2⟩:=(iL hS).1 hr;rw[hx] at hy;cases hy;have:=akF hS k j (by have:=zy hk _ hp;dsimp only at this;rwa [dc] at this) r m h2;rw[dv];omega
def kZ (s:Nat) (n:Nat) (at':List UInt8) (x:Nd):Nat×Bool:=(max s (eP at'),true)
def yK (tab:cT) (n:Nat):Nat:=(oR tab kZ 9 n [] 0).1
theorem VN {tab:cT} (hS:Shut tab): ∀ (k n:Nat) (at':List UInt8) (s:Nat),Deep tab k n→(oR tab kZ k n at' s).2=true∧s≤(oR tab kZ k n at' s).1∧(∀ L m,aJ tab n L=(0,m)→eP at'+L.length≤(oR tab kZ k n at' s).1)∧((oR tab kZ k n at' s).1=s∨ ∃ L m,aJ tab n L=(0,m)∧(oR tab kZ k n at' s).1=eP at'+L.length)
 |0,n,at',s,hD=>absurd hD id
 |k+1,n,at',s,⟨x,hx,zw⟩=>by
  have hv:oR tab kZ (k+1) n at' s=if x.kind=1 then (max s (eP at'),true) else yH (oR tab kZ k) at' x.aP (max s (eP at')):=by
   rw[oR,hx];rfl
  rw[hv];have zy:max s (eP at')=s∨max s (eP at')=eP at'+([]:List (List UInt8)).length:=by rw[gr];omega
  rcases hS.kinds n x hx with hk|hk
  ·rw[Jg hk];refine⟨rfl,by dsimp only;omega,fun L m hL=> ?_, ?_⟩
   ·cases L with
    |nil=>dsimp only[gr];omega
    |cons a L=>
     obtain⟨j,⟨z,hz,hzk,_⟩,_⟩:=(iL hS).1 hL;rw[hx] at hz;cases hz;omega
   ·rcases zy with h|h
    ·exact .inl h
    ·exact .inr ⟨[],n,dS.2 rfl,h⟩
  ·rw[Jf Z8];have hg:=(cI hS hx hk).1;have loop: ∀ (E:List bH),(∀ p∈E,p∈x.aP)→ ∀ s0:Nat,
     (yH (oR tab kZ k) at' E s0).2=true∧s0≤(yH (oR tab kZ k) at' E s0).1∧(∀ p∈E, ∀ L m,aJ tab p.2.toNat L=(0,m)→eP at'+1+L.length≤(yH (oR tab kZ k) at' E s0).1)∧((yH (oR tab kZ k) at' E s0).1=s0∨ ∃ p∈E, ∃ L m,aJ tab p.2.toNat L=(0,m)∧(yH (oR tab kZ k) at' E s0).1=eP at'+1+L.length):=by
    intro E;induction E with
    |nil=>exact fun _ s0=>⟨rfl,df _,fun p hp=>absurd hp ck, .inl rfl⟩
    |cons p E ih=>
     intro hE s0;have zx:=hE p bu;have zv:=(cQ (hg.2.1 p zx)).1;have hc:eP (at'++[47]++p.1)=eP at'+1:=by
      rw[vV,vV,akE (aNC zv)];rfl
     obtain⟨i1,i2,i3,i4⟩:=VN hS k p.2.toNat (at'++[47]++p.1) s0 (zw hk p zx);obtain⟨j1,j2,j3,j4⟩:=ih (fun q hq=>hE q (a8 _ hq)) (oR tab kZ k p.2.toNat (at'++[47]++p.1) s0).1;rw[hc] at i3 i4;rw[yH,Jf (by rw[i1];exact Bool.noConfusion)];refine⟨j1,gm i2 j2,fun q hq L m hL=> ?_, ?_⟩
     ·rcases List.mem_cons.1 hq with rfl|hq
      ·exact gm (i3 L m hL) j2
      ·exact j3 q hq L m hL
     ·rcases j4 with h|⟨q,hq,L,m,hL,h⟩
      ·rcases i4 with h2|⟨L,m,hL,h2⟩
       ·exact .inl (h.trans h2)
       ·exact .inr ⟨p,bu,L,m,hL,h.trans h2⟩
      ·exact .inr ⟨q,a8 _ hq,L,m,hL,h⟩
   obtain⟨l1,l2,l3,l4⟩:=loop x.aP (fun _ h=>h) (max s (eP at'));refine⟨l1,Z8,fun L m hL=> ?_, ?_⟩
   ·cases L with
    |nil=>rw[gr];omega
    |cons a L=>
     obtain⟨j,⟨z,hz,_,hp⟩,h2⟩:=(iL hS).1 hL;rw[hx] at hz;cases hz;have:=l3 _ hp L m (by dsimp only;rw[dc];exact h2);rw[dv];omega
   ·rcases l4 with h|⟨p,hp,L,m,hL,h⟩
    ·rcases zy with h2|h2
     ·exact .inl (h.trans h2)
     ·exact .inr ⟨[],n,dS.2 rfl,h.trans h2⟩
    ·have hgp:=(cQ (hg.2.1 p hp)).2.1;refine .inr ⟨p.1::L,m,(iL hS).2 ⟨p.2.toNat,⟨x,hx,hk,by rw[show ((p.2.toNat:Nat):Int)=p.2 from by omega];exact hp⟩,hL⟩, ?_⟩;rw[h,dv];omega
theorem akG {tab:cT} (hT:LI tab) {A:List (List UInt8)} {n:Nat} (hA:aJ tab 0 A=(0,n)) (j:Nat):(j+yK tab n≤8↔ ∀ r m,aJ tab 0 (A++r)=(0,m)→j+r.length≤8)∧yK tab n≤8:=by
 obtain⟨h1,h2,h3,h4⟩:=VN hT.shut 9 n [] 0 (hT.aGY hA);have e0:eP []=0:=rfl;rw[e0] at h3 h4;have zx: ∀ r m,aJ tab 0 (A++r)=(0,m)→aJ tab n r=(0,m):=fun r m h=>by
  obtain⟨k,h5,h6⟩:=(zX hT.shut A r).1 h;rw[hA] at h5;cases h5;exact h6
 have zw: ∃ r m,aJ tab n r=(0,m)∧yK tab n=r.length:=by
  rcases h4 with h|⟨L,m,hL,h⟩
  ·exact⟨[],n,dS.2 rfl,h⟩
  ·exact⟨L,m,hL,h.trans (dj _)⟩
 obtain⟨r,m,hr,e⟩:=zw;have zy:=(zX hT.shut A r).2 ⟨n,hA,hr⟩;refine⟨⟨fun h r' m' zv=> ?_,fun h=> ?_⟩, ?_⟩
 ·have:=h3 r' m' (zx r' m' zv);unfold yK at h;omega
 ·rw[e];exact h r m zy
 ·have:=hT.steps _ _ zy;rw[ae] at this;omega
end fs
namespace fs
open dir uU
theorem pJ {s:List UInt8} {i:Nat} {c:UInt8} (h:s[i]? =some c):eP (s.take (i+1))=eP (s.take i)+if c=47 then 1 else 0:=by
 rw[List.take_add_one,h,vV];rfl
attribute [local irreducible] box own sl bL aH bJ Qt cN cM dG dL eQ
theorem aHE (b5 mo n:Nat) (at':List UInt8) (ha:at'.length≤1000) (hm:mo≤1000) (k gn z:Int) (q:Option Addr) (m c:Nat):
  Ct Tryz.prog 206 [.int .i64 (n:Int), .string (str at'), .agg #[.int .i64 k, .int .i64 gn, .int .i64 z, .slice q m c],aH b5 0] [box b5 [.int .i64 (mo:Int)] 3] fun v H'=>v= .bool true∧H'=[box b5 [.int .i64 ((max mo (eP at'):Nat):Int)] 3]:=by
 have h00:eP (at'.take 0)=0:=rfl;have zy:eP (at'.take at'.length)=eP at':=by rw[List.take_length]
 have hcl:=rP at';have zx:= @pJ at';(refine Ye Tryz.func206 Tryz.ntmps206 ?_;intro Fr);(refine bD ?_;intro b);(refine aC (σ:=Nat×Nat) (fun y=>y.1≤at'.length∧y.2=eP (at'.take y.1)∧y.2≤y.1) (fun y=>[(12, .int .i64 (y.1:Int)),(8, .int .i64 (y.2:Int))]) (fun y=>[]) _ (fun y=>at'.length-y.1) ((0,0)) (by exact⟨fe _,h00.symm,df _⟩) Ze Zb (fun⟨i,e⟩ ⟨hi,he,zw⟩=> ?_);refine Da ?_);clear h00;dsimp only at hi he zw ⊢;rcases dW at' i with⟨ch,zv,hlt⟩|hge
 ·have hst:=zx zv;rw[←he] at hst;by_cases h47:ch=47
  ·rw[Jg h47] at hst;subst h47;refine aF ?_;refine Ee ((i+1,e+1)) ?_ ?_
   ·exact⟨hlt,hst.symm,by dsimp only;omega⟩
   ·dsimp only;omega
  ·rw[Jf h47] at hst;have hc47:(ch.toNat:Int)≠47:=fun h=>h47 (UInt8.toNat_inj.1 (by have h1:ch.toNat=47:=Z8;rw[h1];rfl))
   refine aF ?_;refine Ee ((i+1,e)) ?_ ?_
   ·exact⟨hlt,hst.symm,by dsimp only;omega⟩
   ·dsimp only;omega
 ·obtain rfl:i=at'.length:=Z8
  rw[zy] at he;subst he;have zu:max (mo:Int) ((eP at':Nat):Int)=((max mo (eP at'):Nat):Int):=Z8
  refine aF ?_;rw[zu];refine aF ?_;exact Ea (x:=⟨rfl,rfl⟩)
theorem aoX (b:Nat) (d:FD) (s t f o:Value) {tab:cT} (hL:Lie d tab) (hS:Shut tab) (b5:Nat): ∀ (k n:Nat) (at':List UInt8) (u:Nat),Deep tab k n→at'.length+20*k≤1000→u≤1000→
  Ct Tryz.prog 70 [aH b 0, .int .i64 (n:Int), .string (str at'), .func (.func 206) #[] #[aH b5 0]] (bC b d s t f o::(aX d++[box b5 [.int .i64 (u:Int)] 3])) fun v H'=>v= .bool true∧H'=[bC b d s t f o,box b5 [.int .i64 (((oR tab kZ k n at' u).1:Nat):Int)] 3]:=by
 intro k;induction k with
 |zero=>intro n at' u hD;exact absurd hD id
 |succ k ih=>
  intro n at' u hD hlen hu;obtain⟨x,hx,zu⟩:=hD;obtain⟨l,hl⟩:=hL.some n x hx;have LD:=adA b d s t f o n hl.told;have SE:=aHE b5 u n at' Z8 hu (kI l) (gI l) (zI l);have hv:oR tab kZ (k+1) n at' u=if x.kind=1 then (max u (eP at'),true) else yH (oR tab kZ k) at' x.aP (max u (eP at')):=by rw[oR,hx];rfl
  have hcl:=rP at';rw[hv];rcases hS.kinds n x hx with hk|hk
  ·have zl:kI l=1:=by rw[hl.kind];exact hk
   rw[Jg hk];dsimp only;rw[zl] at LD SE;obtain⟨a,ca,cs,w,cw,wl,m,cm,at1,qg,cg,aA⟩:=d;unfold bC aX at*;dsimp only[dw,dz] at*;(refine Ye Tryz.func70 Tryz.ntmps70 ?_;intro Fr);refine aM ?_;(refine Ca (LD) ?_;rintro _ _ ⟨_,⟨q1,c1,rfl,rfl⟩,rfl⟩;refine Da ?_);(refine bD ?_;intro b);(refine aL wt rfl (pG Jb Jb Jb (SE _ _ _) Jb wY) ?_;rintro _ _ ⟨_,⟨rfl,rfl⟩,rfl⟩;refine Da ?_);refine aF ?_;exact Ea (x:=⟨rfl,rfl⟩)
  ·have zk:kI l=2:=by rw[hl.kind];exact hk
   rw[Jf Z8];obtain⟨E,hE,zj⟩:=hS.aP n x hx hk;have zh:=sY hE;subst zh;have zt:=mU hE;have h24:=zt.1;have EO:=wJ b d s t f o n x l hl hk hE;have zx:=zu hk;rw[zk] at LD SE EO;obtain⟨R,hR⟩: ∃ R,yH (oR tab kZ k) at' x.aP (max u (eP at'))=R:=⟨_,rfl⟩;rw[hR];have h00:yH (oR tab kZ k) at' (x.aP.drop 0) (max u (eP at'))=R:=hR;have zg:max u (eP at')≤1000:=Z8
   have zr: ∀ (m2:Nat) (nm:List UInt8) (w2:Nat),w2≤1000→(at'++[47]++nm).length+20*k≤1000→Deep tab k m2→(oR tab kZ k m2 (at'++[47]++nm) w2).1≤1000∧(oR tab kZ k m2 (at'++[47]++nm) w2).2=true:=fun m2 nm w2 zv zf zw=>by
    obtain⟨a1,a2,a3,a4⟩:=VN hS k m2 (at'++[47]++nm) w2 zw;refine⟨?_,a1⟩;rcases a4 with h|⟨r,m,hr,h⟩
    ·omega
    ·have h5:=rP (at'++[47]++nm);have h6:=akF hS k m2 zw r m hr;omega
   clear hv hR zu;generalize max u (eP at')=mx0 at*;obtain⟨a,ca,cs,w,cw,wl,m,cm,at1,qg,cg,aA⟩:=d;unfold bC aX at*;dsimp only[dw,dz] at*;(refine Ye Tryz.func70 Tryz.ntmps70 ?_;intro Fr);refine aM ?_;(refine Ca (LD) ?_;rintro _ _ ⟨_,⟨q1,c1,rfl,rfl⟩,rfl⟩;refine Da ?_);(refine bD ?_;intro b);(refine aL wt rfl (pG Jb Jb Jb (SE _ _ _) Jb wY) ?_;rintro _ _ ⟨_,⟨rfl,rfl⟩,rfl⟩;refine Da ?_);refine aM ?_;(refine Ca (EO _ _) ?_;rintro _ _ ⟨_,⟨qe,ce,rfl,rfl⟩,rfl⟩;refine Da ?_);refine aM ?_;(refine aC (σ:=Nat×Nat) (fun y=>y.1≤x.aP.length∧yH (oR tab kZ k) at' (x.aP.drop y.1) y.2=R∧y.2≤1000) (fun y=>[(44, .int .i64 (y.1:Int))]) (fun y=>[box b5 [.int .i64 (y.2:Int)] 3]) _ (fun y=>x.aP.length-y.1) ((0,mx0)) (by exact⟨fe _,h00,zg⟩) Ze Zb (fun⟨j,w2⟩ ⟨hj,hw,zv⟩=> ?_);refine Da ?_);clear h00;dsimp only at hj hw zv ⊢;rcases dW x.aP j with⟨⟨nm,p2⟩,hp,hlt⟩|hge
   ·have zy:=List.mem_of_getElem? hp;have hf:=cQ (zt.2.1 _ zy);have hf1:=hf.1.2.2.2.1;have ze:=hf.2.1;dsimp only at hf1 ze;obtain⟨m2,rfl⟩: ∃ m2:Nat,p2=(m2:Int):=⟨p2.toNat,Z8⟩;rw[ayH hp] at hw;dsimp only at hw;rw[dc] at hw;have zq:(at'++[47]++nm).length+20*k≤1000:=by rw[ae,ae,gk];omega
    have zw:Deep tab k m2:=by have:=zx _ zy;dsimp only at this;rwa [dc] at this
    have I1:=ih m2 (at'++[47]++nm) w2 zw zq zv;obtain⟨zn,zm⟩:=zr m2 nm w2 zv zq zw;clear hf hE zj zy ih zx LD SE EO zr;generalize hr:oR tab kZ k m2 (at'++[47]++nm) w2=r at*;obtain⟨r1,r2⟩:=r;dsimp only at hw I1 zn zm;subst zm;have zf:at'.length≤1000:=Z8
    rw[Jf Ja] at hw;(refine fH ?_;intro b);dsimp only[fE];refine aF ?_;(refine Ca (I1) ?_;rintro _ _ ⟨_,⟨rfl,rfl⟩,rfl⟩;refine Da ?_);refine aF ?_;refine Ee ((j+1,r1)) ?_ ?_
    ·exact⟨hlt,hw,zn⟩
    ·dsimp only;omega
   ·have zb:j=x.aP.length:=Z8
    subst zb;rw[List.drop_length,yH] at hw;refine aF ?_;exact Ea (x:=⟨rfl,by rw[←hw]⟩)
theorem aND (b:Nat) (d:FD) (s t f o:Value) {tab:cT} (hL:Lie d tab) (hS:Shut tab) (n:Nat) (hD:Deep tab 9 n):Ct Tryz.prog 139 [aH b 0, .int .i64 (n:Int)] (bC b d s t f o::aX d) fun v H'=>v= .int .i64 ((yK tab n:Nat):Int)∧H'=[bC b d s t f o]:=by
 have V0:=fun b5=>aoX b d s t f o hL hS b5 9 n [] 0 hD Ja Z8
 unfold yK;generalize oR tab kZ 9 n [] 0=r at*;have hz:((0:Nat):Int)=0:=rfl;rw[hz] at V0;obtain⟨a,ca,cs,w,cw,wl,m,cm,at1,qg,cg,aA⟩:=d;unfold bC aX at*;dsimp only[dw,dz] at*;(refine Ye Tryz.func139 Tryz.ntmps139 ?_;intro Fr);(refine bD ?_;intro b);(refine Ca (V0 _) ?_;rintro _ _ ⟨_,⟨rfl,rfl⟩,rfl⟩;refine Da ?_);refine aF ?_;exact Ea (x:=⟨rfl,rfl⟩)
end fs
namespace fs
def tB:cT:=mJ (fun _=>none) 0 (some ⟨2,0,0,[]⟩)
def yQ (n:Nat) (qa:Option Addr) (ca:Nat) (qm qg:Option Addr):FD:=⟨qa,ca,du n ⟨#[]⟩,none,0,[],qm,48,du 48 (0,0),qg,48,du 48 0⟩
theorem apP {α:Type} {n i:Nat} {x y:α} (h:(du n x)[i]? =some y):y=x:=by
 rw[adt] at h;split at h
 ·exact (Option.some.inj h).symm
 ·cases h
theorem azZ {n:Nat} (hn:32≤n∧n≤128) (qa:Option Addr) (ca:Nat) (qm qg:Option Addr):Lie (yQ n qa ca qm qg) (fun _=>none):=by
 refine⟨⟨?_, ?_,fun s hs=> ?_,fun p hp=>absurd hp ck,fe _⟩,⟨abp,abp,fun i hi p g hp hg=> ?_⟩,fun i hi _=> ?_,fun i y h=>by cases h⟩
 ·show 1≤(du n _).length;rw[abp];omega
 ·show (du n _).length≤128;rw[abp];omega
 ·rw[List.eq_of_mem_replicate hs];decide
 ·rw[apP hp,apP hg];decide
 ·show (du 48 ((0:Int),(0:Int)))[i]? =_;rw[adt,Jg hi]
def lB (n:Nat):List Int:=jJ (fun _=>0) n
theorem apQ {n:Nat} (hn:32≤n∧n≤128) (qa:Option Addr) (ca:Nat) (qm qg:Option Addr):Room (yQ n qa ca qm qg) (lB n):=by
 refine⟨NY _ _,fun c hc=> ?_,fun c hc hl=> ?_, ?_⟩
 ·obtain⟨j,rfl,j2,j3,_⟩:=LU hc;show 2≤(j:Int)∧(j:Int)<((du n _).length:Int);rw[abp];omega
 ·obtain⟨i,p,g,l,h1,_,h3,_⟩:=hl;have zy:(du 48 ((0:Int),(0:Int)))[i]? =some p:=h1;rw[apP zy] at h3;exact h3 rfl
 ·have:=zG (fun _=>0) n;show ([]:List (Int×ByteArray)).length+(jJ _ n).length≤400;rw[gr];omega
theorem aAA {n:Nat} (hn:32≤n):30≤(lB n).length:=by
 have:=WG (L:=[]) (n:=n);rw[show cC (fun _=>0) []=fun _=>0 from rfl,gr] at this;unfold lB;omega
theorem apR {i:Nat} (h:2≤i):lB (i+1)=lB i++[(i:Int)]:=ahM h rfl
theorem aJC (n:Nat) (qa:Option Addr) (ca:Nat) (qm qg:Option Addr):oP (yQ n qa ca qm qg) (fun _=>none) [pS 0 2 0] tB∧(∀ y∈[pS 0 2 0],lW y)∧(aW [pS 0 2 0]).length≤1:=by
 refine⟨⟨Ja,fun y hy hg=> ?_,fun y hy hg=> ?_,fun m hm=> ?_⟩,fun y hy=> ?_, ?_⟩
 ·rw[eh] at hy;subst hy;cases hg
 ·rw[eh] at hy;subst hy;exact⟨0,⟨2,0,0,[]⟩,⟨rfl,Z8,rfl,rfl,rfl,rfl, .inr rfl,fe _,by unfold pS aQ;dsimp only[gr],by unfold aQ;dsimp only[gr],fun i p t hp=>by simp [pS] at hp⟩,iN _ _ _⟩
 ·exact eJ fun e=>hm _ bu Z4
 ·rw[eh] at hy;subst hy;exact⟨⟨jy _,by show (0:Int)<48;decide⟩,fe _,fun p hp=>by simp [pS] at hp⟩
 ·simp only[aW,List.flatMap_cons,List.flatMap_nil,List.append_nil,nB,pS,Bool.false_eq_true,if_false];exact df _
theorem LY:Shut tB:=by
 refine⟨fun n x h=> ?_,fun n x h hk=> ?_,⟨_,iN _ _ _,rfl⟩⟩
 ·unfold tB mJ at h;split at h
  ·cases h;exact .inr rfl
  ·cases h
 ·unfold tB mJ at h;split at h
  ·cases h;exact⟨[],rfl,fun p hp=>absurd hp ck⟩
  ·cases h
theorem aAB:VH tB:=by
 have hr: ∀ n x,tB n=some x→x.aP=[]:=fun n x h=>by
  unfold tB mJ at h;split at h
  ·cases h;rfl
  ·cases h
 exact⟨fun n m x y p q hx hy _ _ hp _ _=>by rw[hr n x hx] at hp;exact absurd hp ck,fun n x p hx _ hp=>by rw[hr n x hx] at hp;exact absurd hp ck⟩
theorem aAC {P:List (Int×Int)}:NV (iR P 0 (du 48 (0,0),du 48 0) [pS 0 2 0]).1≤1∧(iR P 0 (du 48 (0,0),du 48 0) [pS 0 2 0]).2=du 48 0:=by
 refine⟨?_,rfl⟩;show NV ((du 48 ((0:Int),(0:Int))).set 0 (P[0+pY []]?.getD (0,0)))≤1;generalize P[0+pY []]?.getD (0,0)=p;rw[show (du 48 ((0:Int),(0:Int))).set 0 p=p::du 47 (0,0) from rfl];unfold NV;rw[List.filter_cons];have h0:(du 47 ((0:Int),(0:Int))).filter (fun p=>decide (p.1≠0))=[]:=by
  rw[List.filter_replicate];rfl
 rw[h0];split<;>simp
end fs
namespace fs
attribute [local irreducible] box own sl bL aH bJ Qt cN cM dG dL eQ
theorem aSO (n:Nat) (h0:1≤n) (h1:n≤128):
  Ct Tryz.prog 163 [.int .i64 (n:Int)] [] fun v H'=> ∃ qa ca,v= .tuple #[.agg #[.slice qa n ca, .slice none 0 0], .int .i64 0]∧H'=[own (.slice qa n ca) 9 1 n (flat fS (du n ⟨#[]⟩))]:=by
 (refine Ye Tryz.func163 Tryz.ntmps163 ?_;intro Fr);(refine bF ?_;intro b);(refine aL wt rfl (dH (fS) (⟨#[]⟩) (c:=n) rfl rfl rfl Zf Zf rfl rfl Z8 Zi) ?_;rintro _ _ ⟨qa,rfl,rfl⟩);refine iC ?_;exact Ea (x:=⟨_,_,rfl,rfl⟩)
def aSP (n:Nat) (v:Value) (H':List Ent):Prop:=
 ∃ b x,(Inv x tB∧n≤x.fr.length+11∧x.ops.length≤10∧x.d.aA=du 48 0∧(x.gJ=0∨x.gJ=1)∧x.turn=0∧x.d.ps=[])∧v= .tuple #[aH b 0, .int .i64 0]∧H'=bI b x
theorem aSQ (n:Nat) (hn:32≤n∧n≤128):Ct Tryz.prog 85 [.int .i64 (n:Int)] [] (aSP n):=by
 have DM:=aSO n Z8 hn.2;have hlr:(du n (⟨#[]⟩:ByteArray)).length=n:=abp;(refine Ye Tryz.func85 Tryz.ntmps85 ?_;intro Fr);(refine iB ?_;intro b);(refine Ca (DM) ?_;rintro _ _ ⟨_,⟨qa,ca,rfl,rfl⟩,rfl⟩;refine Da ?_);refine kB ?_;(refine Ca (KC) ?_;rintro _ _ ⟨_,⟨qm,qg,rfl,rfl⟩,rfl⟩;refine Da ?_);refine kB ?_;refine aO (bB (v:= .slice qm 48 48) (e:=77) (m:=48) (f:=jP) (ys:=du 48 (0,0)) aU (fun _=>rfl) abp.symm) ?_;refine aO (bB (v:= .slice qg 48 48) (e:=3) (m:=48) (f:=fI) (ys:=du 48 0) aU (fun _=>rfl) abp.symm) ?_;refine aO (bB (v:= .slice qa n ca) (e:=9) (m:=n) (f:=fS) (ys:=du n ⟨#[]⟩) aU (fun _=>rfl) abp.symm) ?_;refine aO (aS _ 130 2) ?_;refine aO (bB (v:= .slice none 0 0) (e:=130) (m:=0) (f:=fP) (ys:=[]) aU (fun _=>rfl) rfl) ?_;refine aO (aS _ 87 3) ?_;refine aO (aS _ 3 1) ?_;(refine aC (σ:=Nat×Option Addr×Nat) (fun x=>2≤x.1∧x.1≤n) (fun x=>[(5, .int .i64 (x.1:Int))]) (fun x=>[own (.slice x.2.1 (lB x.1).length x.2.2) 3 1 (lB x.1).length (flat fI (lB x.1)),box b [.slice qa n ca, .slice none 0 0, .slice qm 48 48, .slice qg 48 48, .int .i64 0, .int .i64 (-1), .slice x.2.1 (lB x.1).length x.2.2, .slice none 0 0] 136]) _ (fun x=>n-x.1) ((2,none,0)) (by exact⟨df _,Z8⟩) Ze Zb (fun⟨i,qf,cf⟩ ⟨zr,hi⟩=> ?_);refine Da ?_);dsimp only at zr hi ⊢;have hlen:=zG (fun _=>0) i;rcases Nat.lt_or_ge i n with hlt|hge
 ·have zk:=apR zr;have zy:(lB i).length≤i:=hlen;(refine mW ?_;intro q);(refine aL wt Jb (by first|exact Ma (fI) [(i:Int)] rfl|exact Mb (fI) [(i:Int)] rfl) ?_;rintro _ _ ⟨q5,c5,rfl,rfl⟩);rw[←zk];refine iC ?_;refine Ee ((i+1,q5,c5)) ?_ ?_
  ·exact⟨by dsimp only;omega,hlt⟩
  ·dsimp only;omega
 ·obtain rfl:i=n:=Z8
  have zy:(lB i).length≤i:=hlen;have h30:=aAA hn.1;obtain⟨k1,k2,k3⟩:=aJC i qa ca qm qg;obtain⟨gs,g1,g2,g3⟩:=pA (F:=lB i) (IG k2) (fun P=>uW P _ 0 k2);have zj:gs.length≤1:=by
   have h1:=PQ g3;have h2:gs.flatten.length=(aW [pS 0 2 0]).length:=by
    rw[g2];have:=congrArg List.length (rO (eR (lB i) gs) [pS 0 2 0] 0);simpa [szs] using this
   omega
  have zx:=azZ hn qa ca qm qg;have zu:=apQ hn qa ca qm qg;have hG:sB (yQ i qa ca qm qg) (lB i) 0 [pS 0 2 0] gs:=⟨g1,g2,g3,Z8,jy _,Z8⟩;have zq:=wC zx zu k1 hG;have zn: ∀ d',sZ (yQ i qa ca qm qg) d' (lB i) 0 [pS 0 2 0] gs→bA.Good d'.cs d'.ps:=fun d' hA=>wK hA zu hG zx.mM
  have zw:=zn ⟨none,0,(yQ i qa ca qm qg).cs,none,0,(yQ i qa ca qm qg).ps++iO 0 (lB i) gs,none,0,_,none,0,_⟩ ⟨rfl,rfl,rfl,rfl⟩;have C0:=fun q9=>LB b (yQ i qa ca qm qg) 0 (.int .i64 (-1)) qf cf (lB i) [] none 0 q9 1 [pS 0 2 0] 0 gs (fe _) Ja (fun y hy=>by have:=(k2 y hy).2.1;omega) Z8 Z8 (fe _) zx.map hG Z8 zq zw
  unfold bC aX at C0;have zh: ∀ P:FD→Prop,P (yQ i qa ca qm qg)→P ⟨qa,ca,du i ⟨#[]⟩,none,0,[],qm,48,du 48 (0,0),qg,48,du 48 0⟩:=fun P h=>h
  dsimp only[yQ,dw,dz] at C0;simp only[abp,gr,dv,dj] at C0;refine aO (bB (v:= .slice qf (lB i).length cf) (e:=3) (m:=(lB i).length) (f:=fI) (ys:=lB i) aU (fun _=>rfl) rfl) ?_;clear zq zn zw g1 g2 g3 zh DM;(refine JH ?_;intro q);refine aN (bB (v:= .slice q 1 1) (e:=237) (m:=1) (f:=mQ) (ys:=[pS 0 2 0]) aU (fun _=>rfl) rfl) ?_;refine aN (aS _ 289 4) ?_;refine aN (bB (v:= .slice none 0 0) (e:=289) (m:=0) (f:=eX) (ys:=[]) aU (fun _=>rfl) rfl) ?_;refine aN (kO (sz:=4)) ?_;refine aN (kF (v:= .slice none 0 0) (rows:=([]:List tF).map eX) aU aU) ?_;refine Cb (C0 _) ?_;rintro _ _ ⟨_,hc,rfl⟩;obtain⟨d1,qf1,cf1,q1,c1,hA,rfl,rfl⟩:=hc;obtain⟨zm,zg⟩:=DH (d:=yQ i qa ca qm qg) hA zx zu k1 hG;obtain⟨r1,r2⟩:=aAC (P:=eR (lB i) gs);have hd1c:d1.cs.length=i:=by rw[hA.cs];exact abp
  have hd1l:NV d1.at'≤1:=by rw[hA.at'];exact r1
  have zt:d1.aA=du 48 0:=by rw[hA.aA];exact r2
  obtain⟨F2,zl,hmany,zv⟩:=WH (serial:=0+gs.length) (turn:= -1) zm Z8 Z8 Z8;have hopl:([]++qK (iO 0 (lB i) gs)).length≤1:=by
   rw[dz];unfold qK;rw[List.length_map,uI _ _ _ hG.room];exact zj
  generalize []++qK (iO 0 (lB i) gs)=ops1 at*;have SY:=alB b d1 (0+gs.length) (-1) (.slice qf1 ((lB i).length-gs.length) cf1) ops1 q1 c1 Z8 zl;clear zl zm zg hA C0 k1 k2 k3 hG zx zu;generalize syF d1 (0+gs.length) (-1)=cs2 at*;generalize ptF d1 (0+gs.length) (-1)=pt at*;unfold bC aX at*;dsimp only[dw,dz] at*;refine kB ?_;refine Cb (SY) ?_;rintro _ _ ⟨_,⟨a3,ca3,w3,cw3,q3,c3,qf3,cf3,rfl,rfl⟩,rfl⟩;refine Da ?_;refine aN (bB (v:= .slice qf3 F2.length cf3) (e:=3) (m:=F2.length) (f:=fI) (ys:=F2) aU (fun _=>rfl) rfl) ?_;refine kB ?_;obtain⟨n1,n2,n3⟩:=zv ⟨a3,ca3,cs2,w3,cw3,[],d1.m,d1.cm,d1.at',d1.g,d1.cg,d1.aA⟩ rfl rfl rfl rfl;have Y:aSP i (.tuple #[aH b 0, .int .i64 0]) (bI b ⟨⟨a3,ca3,cs2,w3,cw3,[],d1.m,d1.cm,d1.at',d1.g,d1.cg,d1.aA⟩,0+gs.length, -1+1,qf3,cf3,F2,q3,c3,ops1++[(2,0,aew)]++[(1,(-1+1)%2,pt)]++[(2,0,aew)]⟩):=
   ⟨b,_,⟨⟨n1,LY,n2,by dsimp only;omega,by dsimp only;omega,by show (0:Int)≤ -1+1;decide,n3⟩,by dsimp only;omega,by simp only[ae,gk];omega,zt,by dsimp only;omega,rfl,rfl⟩,rfl,rfl⟩
  unfold bI bC aX at Y;dsimp only[dw,dz] at Y;exact Ea (x:=Y)
end fs
