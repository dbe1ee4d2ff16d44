/- Law HandStale: its texts, packed. -/
import Derived.Test.YtbjalbcdbgcgdaaGreatK08
import Derived.Test.YtbjalbcdbgcgdaaGreatK09
import Derived.Test.YtbjalbcdbgcgdaaGreatK05
import Derived.Test.YtbjalbcdbgcgdaaGreatK07
open List renaming drop_drop->ik,drop_left->ic,getElem?_drop->bq,getElem?_eq_getElem->aj,length_cons->fb,length_drop->eu,mem_cons->aw,mem_cons_of_mem->ax,mem_cons_self->bc,take_append_drop->il,take_succ_cons->im
open Nat renaming add_assoc->bw,lt_or_ge->iq,mul_le_mul_right->bz
open UInt8 renaming ofNat->gl,toNat_inj->iu
open Decidable renaming not_not->ir
set_option linter.unusedVariables false
set_option maxRecDepth 100000
set_option maxHeartbeats 8000000
namespace Go.Proofs.YtbjalbcdbgcgdaaGreat.get
open Go.RowKit bG put
theorem ayQ: ∀ (f i n m:Nat) (more:List UInt8),i+f=10→n<128^i→(0<i→m≠0)→n+m*128^i<18446744073709551616→wG f i n (xI f m++more)=(n+m*128^i,i+(xI f m).length,0):=by
 intro f;induction f with
 |zero=>
  intro i n m more hi hn h0 hb;have:i=10:=by omega
  subst this;have:m≠0:=h0 (by omega);have:1*128^10≤m*128^10:=bz _ (by omega);have e:(128:Nat)^10=1180591620717411303424:=by decide
  omega
 |succ f ih=>
  intro i n m more hi hn h0 hb;by_cases hs:m<128
  ·rw[oD _ _ hs];have e:(gl m).toNat=m:=by simp;omega
   have hbad: ¬ (i=9∧1<(gl m).toNat∨0<i∧(gl m).toNat=0):=by
    rw[e];rintro (⟨h9,h1⟩|⟨h1,h2⟩)
    ·subst h9;have:2*128^9≤m*128^9:=bz _ (by omega);have e9:(128:Nat)^9=9223372036854775808:=by decide
     omega
    ·exact h0 h1 h2
   rw[List.singleton_append,CP _ _ _ _ _ hbad (by rw[e];exact hs),e,Nat.mod_eq_of_lt hs];simp
  ·have hbig:=zH f m hs;rw[hbig];have e:(gl (m%128+128)).toNat=m%128+128:=by simp;omega
   have hi9:i<9:=by
    rcases iq i 9 with h|h
    ·exact h
    ·have h2:(128:Nat)^9≤128^i:=Nat.pow_le_pow_right (by decide) h;have h3:128*128^9≤m*128^i:=Nat.mul_le_mul (by omega) h2;have e3:(128:Nat)*128^9=1180591620717411303424:=by decide
     omega
   have e5:n+(m%128+128)%128*128^i+m/128*128^(i+1)=n+m*128^i:=by
    have e6:(m%128+128)%128=m%128:=by omega
    rw[e6,Nat.pow_succ,Nat.mul_comm (128^i) 128, ←Nat.mul_assoc,bw, ←Nat.add_mul];congr 2;omega
   rw[List.cons_append,CQ _ _ _ _ _ (by rw[e];omega) (by rw[e];omega),e];rw[ih (i+1) _ (m/128) more (by omega) ((pK n i (m%128+128) (by omega) hn (by omega) (by omega)).2.1) (by omega) (by rw[e5];exact hb),e5];simp;omega
theorem zP (n:Nat) (more:List UInt8) (hn:n<18446744073709551616):eD (cA n++more)=(n,(cA n).length,0):=by
 have:=ayQ 10 0 0 n more rfl (by decide) (by omega) (by omega);simpa [eD,cA] using this
end Go.Proofs.YtbjalbcdbgcgdaaGreat.get
namespace Go.Proofs.YtbjalbcdbgcgdaaGreat.fV
open Go.RowKit bG sl fix PH put get
abbrev bD:=Int×Int×Int×List UInt8
def xJ (p:bD):List Value:=[.int .i64 p.1, .int .i64 p.2.1, .int .i64 p.2.2.1, .string (str p.2.2.2)]
theorem IF (p:bD): ∀ u∈xJ p,u.oneCell'=true:=by simp [xJ,Value.oneCell']
attribute [local irreducible] box own sl gH aH bC Qt cJ cG dC dG eO
def nA (p:bD):Prop:=p.2.1<0∨48≤p.2.1∨ ¬ (p.1=1∧0≤p.2.2.1∧p.2.2.1<8∨p.1=2∧p.2.2.1=0∨p.1=3∧p.2.2.1=0∧(p.2.2.2).length=0)
instance (p:bD):Decidable (nA p):=by unfold nA;infer_instance
def dA (p:bD):Int:=if nA p then 1 else if 600<((p.2.2.2).length:Int) then 2 else 0
theorem UM {p:bD} (h:nA p):dA p=1:=by unfold dA;rw[if_pos h]
theorem UN {p:bD} (h: ¬ nA p) (h2:600<((p.2.2.2).length:Int)):dA p=2:=by unfold dA;rw[if_neg h,if_pos h2]
theorem rV {p:bD} (h: ¬ nA p) (h2: ¬ 600<((p.2.2.2).length:Int)):dA p=0:=by unfold dA;rw[if_neg h,if_neg h2]
theorem kL {p:bD} (h:dA p=0):0≤p.1∧p.1≤3∧0≤p.2.1∧p.2.1<48∧0≤p.2.2.1∧p.2.2.1<8∧(p.2.2.2).length≤600:=by
 by_cases h1:nA p
 ·rw[UM h1] at h;cases h
 ·by_cases h2:600<((p.2.2.2).length:Int)
  ·rw[UN h1 h2] at h;cases h
  ·unfold nA at h1;omega
theorem bH (k i m:Int) (s:List UInt8):Ct Tryz.prog 200 [.agg #[.int .i64 k, .int .i64 i, .int .i64 m, .string (str s)]] [] fun v H'=>v= .int .i64 (dA (k,i,m,s))∧H'=[]:=by
 by_cases e1:s=[]
 ·have e2:s.length=0:=by rw[e1];rfl
  have e3:(s==[])=true:=by rw[e1];rfl
  (refine Ye Tryz.func200 Tryz.ntmps200 ?_;intro Fr);(repeat' (first|refine Wa ?_|refine We ?_|(refine Wb ?_;intro b)|(refine Ws ?_ ?_<;>intro h)|fail));all_goals exact gU rfl qK _ ⟨by first|rw[rV Zm Zj]|rw[UM Zm]|rw[UN Zm Zj]|(exfalso;omega),rfl⟩ yP
 ·have e2:s.length≠0:=fun h=>e1 (List.eq_nil_of_length_eq_zero h)
  have e3:(s==[])=false:=by simpa using e1
  (refine Ye Tryz.func200 Tryz.ntmps200 ?_;intro Fr);(repeat' (first|refine Wa ?_|refine We ?_|(refine Wb ?_;intro b)|(refine Ws ?_ ?_<;>intro h)|fail));all_goals exact gU rfl qK _ ⟨by first|rw[rV Zm Zj]|rw[UM Zm]|rw[UN Zm Zj]|(exfalso;omega),rfl⟩ yP
theorem IG (p:bD):Ct Tryz.prog 200 [.agg #[.int .i64 p.1, .int .i64 p.2.1, .int .i64 p.2.2.1, .string (str p.2.2.2)]] [] fun v H'=>v= .int .i64 (dA p)∧H'=[]:=bH p.1 p.2.1 p.2.2.1 p.2.2.2
def cI:List bD→Int
 |[]=>0
 |p::l=>if dA p≠0 then dA p else cI l
theorem tY {l:List bD} {k:Nat} {p:bD} (hp:l[k]? =some p) (h:cI (l.take k)=0) (h1:dA p=0):cI (l.take (k+1))=0:=by
 induction l generalizing k with
 |nil=>simp at hp
 |cons q l ih=>
  cases k with
  |zero=>
   simp at hp;subst hp;simp [cI,h1]
  |succ k=>
   simp only[im,cI] at h ⊢;split at h
   ·rename_i h2;exact absurd h h2
   ·rename_i h2;rw[if_neg h2];exact ih (by simpa using hp) h
theorem vJ {l:List bD} {k:Nat} {p:bD} (hp:l[k]? =some p) (h:cI (l.take k)=0) (h1:dA p≠0):cI l=dA p:=by
 induction l generalizing k with
 |nil=>simp at hp
 |cons q l ih=>
  cases k with
  |zero=>
   simp at hp;subst hp;simp [cI,h1]
  |succ k=>
   simp only[im,cI] at h ⊢;split at h
   ·rename_i h2;exact absurd h h2
   ·rename_i h2;rw[if_neg h2];exact ih (by simpa using hp) h
theorem jG {l:List bD}:cI l=0↔ ∀ p∈l,dA p=0:=by
 induction l with
 |nil=>simp [cI]
 |cons q l ih=>
  simp only[cI];split
  ·rename_i h;constructor
   ·intro h2;exact absurd h2 h
   ·intro h2;exact absurd (h2 q bc) h
  ·rename_i h;simp only[ne_eq,ir] at h;rw[ih];constructor
   ·intro h2 p hp;rcases aw.1 hp with rfl|hp
    ·exact h
    ·exact h2 p hp
   ·exact fun h2 p hp=>h2 p (ax _ hp)
def iT (p:bD):List UInt8:=[gl p.1.toNat,gl p.2.1.toNat,gl p.2.2.1.toNat]++cA (p.2.2.2).length++p.2.2.2
def bJ (l:List bD):List UInt8:=l.flatMap iT
theorem CW (a b:List bD):bJ (a++b)=bJ a++bJ b:=by simp [bJ]
theorem KH {l:List bD} {k:Nat} {p:bD} (hp:l[k]? =some p):bJ (l.take (k+1))=bJ (l.take k)++iT p:=by
 rw[take_one hp,CW];simp [bJ]
def tZ (last:Bool) (n:Nat):List UInt8:=(if last then [1] else [0])++dM n 1
def aR (l:List bD) (last:Bool):List UInt8:=tZ last l.length++bJ l
def bK (l:List bD):Int:=if 40<(l.length:Int) then 2 else if cI l≠0 then cI l else if 1000<(2+(bJ l).length:Int) then 2 else 0
def eE (l:List bD) (last:Bool):List UInt8:=if bK l=0 then aR l last else []
theorem uA (i:Int) (hi:0≤i∧i<18446744073709551616):Ct Tryz.prog 245 [.int .u64 i] [] fun v H'=>v= .string (str (cA i.toNat))∧H'=[]:=by
 obtain⟨n,rfl⟩: ∃ n:Nat,i=(n:Int):=⟨i.toNat,by omega⟩;exact aW fun W _=>mM n (by omega) W
theorem lG (i:Int) (w:Nat) (h1:1≤w∧w≤8) (hi:0≤i∧i<18446744073709551616):Ct Tryz.prog 194 [.int .u64 i, .int .i64 (w:Int)] [] fun v H'=>v= .string (str (dM i.toNat w))∧H'=[]:=by
 obtain⟨n,rfl⟩: ∃ n:Nat,i=(n:Int):=⟨i.toNat,by omega⟩;exact aW fun W _=>UK n w h1.1 h1.2 (by omega) W
theorem KI (n:Nat):(cA n).length≤11:=(tW 10 n).2
end Go.Proofs.YtbjalbcdbgcgdaaGreat.fV
namespace Go.Proofs.YtbjalbcdbgcgdaaGreat.fV
open Go.RowKit bG sl fix PH put get
def rd:Nat→List UInt8→Option (List bD)
 |0,r=>if r=[] then some [] else none
 |k+1,r=>if r.length<3 then none
  else if (eD (r.drop 3)).2.2≠0∨r.length<3+(eD (r.drop 3)).2.1+(eD (r.drop 3)).1 then none
  else if dA (((r.getD 0 0).toNat:Int),((r.getD 1 0).toNat:Int),((r.getD 2 0).toNat:Int),(r.drop (3+(eD (r.drop 3)).2.1)).take (eD (r.drop 3)).1)≠0 then none
  else (rd k (r.drop (3+(eD (r.drop 3)).2.1+(eD (r.drop 3)).1))).map fun l=>(((r.getD 0 0).toNat:Int),((r.getD 1 0).toNat:Int),((r.getD 2 0).toNat:Int),(r.drop (3+(eD (r.drop 3)).2.1)).take (eD (r.drop 3)).1)::l
theorem YK {k:Nat} {r:List UInt8} (h:r.length<3):rd (k+1) r=none:=by rw[rd,if_pos h]
theorem adO {k m:Nat} {r:List UInt8} (h: ¬ r.length<3) (hg:eD (r.drop 3)=(0,0,m)) (hm:m≠0):rd (k+1) r=none:=by
 rw[rd,if_neg h,hg,if_pos (.inl hm)]
theorem arZ {k n j:Nat} {r:List UInt8} (h: ¬ r.length<3) (hg:eD (r.drop 3)=(n,j,0)) (hn:r.length<3+j+n):rd (k+1) r=none:=by
 rw[rd,if_neg h,hg,if_pos (.inr hn)]
theorem lJ {r:List UInt8} {i:Nat} {b:UInt8} (h:r[i]? =some b):r.getD i 0=b:=by rw[List.getD_eq_getElem?_getD,h];rfl
theorem asA {k n j:Nat} {r:List UInt8} {b0 b1 b2:UInt8} (h: ¬ r.length<3) (hg:eD (r.drop 3)=(n,j,0)) (hn: ¬ r.length<3+j+n) (h0:r[0]? =some b0) (h1:r[1]? =some b1) (h2:r[2]? =some b2) (hb:dA ((b0.toNat:Int),(b1.toNat:Int),(b2.toNat:Int),(r.drop (3+j)).take n)≠0):rd (k+1) r=none:=by
 rw[rd,if_neg h,hg,if_neg (by simp;omega),lJ h0,lJ h1,lJ h2,if_pos hb]
theorem IH {k n j:Nat} {r:List UInt8} {b0 b1 b2:UInt8} (h: ¬ r.length<3) (hg:eD (r.drop 3)=(n,j,0)) (hn: ¬ r.length<3+j+n) (h0:r[0]? =some b0) (h1:r[1]? =some b1) (h2:r[2]? =some b2) (hb:dA ((b0.toNat:Int),(b1.toNat:Int),(b2.toNat:Int),(r.drop (3+j)).take n)=0):rd (k+1) r=(rd k (r.drop (3+j+n))).map fun l=>((b0.toNat:Int),(b1.toNat:Int),(b2.toNat:Int),(r.drop (3+j)).take n)::l:=by
 rw[rd,if_neg h,hg,if_neg (by simp;omega),lJ h0,lJ h1,lJ h2,if_neg (by simp [hb])]
def KJ (L:List UInt8):Prop:=2≤L.length∧L.length≤1000∧(L.getD 0 0).toNat≤1∧(L.getD 1 0).toNat≤40
instance (L:List UInt8):Decidable (KJ L):=by unfold KJ;infer_instance
def kE (L:List UInt8):Option (List bD):=if KJ L then rd (L.getD 1 0).toNat (L.drop 2) else none
def ahQ (L:List UInt8) (v:Value) (H':List Ent):Prop:=
 (∃ zs q c,kE L=some zs∧v= .tuple #[.slice q zs.length c, .bool ((L.getD 0 0).toNat==1), .int .i64 0]∧H'=[own (.slice q zs.length c) 175 4 zs.length (flat xJ zs)])∨
 (kE L=none∧v= .tuple #[.slice none 0 0, .bool false, .int .i64 4]∧H'=[])
theorem CX {l:List UInt8} {n k:Nat} (h:l.length≤1000000000000000) (e:eD l=(n,k,0)):Ct Tryz.prog 248 [.string (str l)] [] fun v H'=>v= .tuple #[.int .u64 (n:Int), .int .i64 (k:Int), .int .i64 0]∧H'=[]:=
 aW fun W _ => (zO (str l) (by rw [bP]; unfold maxLen; omega) W).mono fun e' w' ⟨h1, h2⟩ => ⟨by
  have h3 : eD (str l).data.toList = (n, k, 0) := e;rw [h1, h3]; rfl, by rw [← h2]; exact Below.refl _ _⟩
theorem KK {l:List UInt8} {m:Nat} (h:l.length≤1000000000000000) (e:eD l=(0,0,m)):Ct Tryz.prog 248 [.string (str l)] [] fun v H'=>v= .tuple #[.int .u64 0, .int .i64 0, .int .i64 (m:Int)]∧H'=[]:=
 aW fun W _ => (zO (str l) (by rw [bP]; unfold maxLen; omega) W).mono fun e' w' ⟨h1, h2⟩ => ⟨by
  have h3 : eD (str l).data.toList = (0, 0, m) := e;rw [h1, h3]; rfl, by rw [← h2]; exact Below.refl _ _⟩
attribute [local irreducible] box own sl gH aH bC Qt cJ cG dC dG eO
theorem oG (L:List UInt8) (hL:L.length≤1000000000000000):Ct Tryz.prog 196 [.string (str L)] [] (ahQ L):=by
 have bad:kE L=none→ahQ L (.tuple #[.slice none 0 0, .bool false, .int .i64 4]) []:=fun h=> .inr ⟨h,rfl,rfl⟩
 by_cases hh:KJ L
 ·obtain⟨h1,h2,h3,h4⟩:=hh;obtain⟨b0,hb0⟩: ∃ b0,L[0]? =some b0:=⟨_,aj (by omega)⟩;obtain⟨b1,hb1⟩: ∃ b1,L[1]? =some b1:=⟨_,aj (by omega)⟩;have hO:kE L=rd b1.toNat (L.drop 2):=by
   unfold kE;rw[if_pos ⟨h1,h2,h3,h4⟩,lJ hb1]
  have hg0:=lJ hb0;rw[hg0] at h3;rw[lJ hb1] at h4;(refine Ye Tryz.func196 Tryz.ntmps196 ?_;intro Fr);refine aZ ?_;refine aT (aY _ 175 4) ?_;(refine aC (σ:=Nat×Nat×List bD×Option Addr×Nat) (fun s=>s.1≤b1.toNat∧s.2.1≤L.length∧kE L=(rd (b1.toNat-s.1) (L.drop s.2.1)).map (fun l=>s.2.2.1++l)∧s.2.2.1.length=s.1) (fun s=>[(31, .int .u8 (s.1:Int)),(6, .int .i64 (s.2.1:Int)),(5, .slice s.2.2.2.1 s.2.2.1.length s.2.2.2.2)]) (fun s=>[own (.slice s.2.2.2.1 s.2.2.1.length s.2.2.2.2) 175 4 s.2.2.1.length (flat xJ s.2.2.1)]) _ (fun s=>b1.toNat-s.1) ((0,2,[],none,0)) (by exact⟨Nat.zero_le _,h1,(by rw[hO];cases rd b1.toNat (L.drop 2)<;>rfl),rfl⟩) (by exact gA) Zb (fun⟨k,at',zs,q,c⟩ ⟨hk,qE,hrd,hzl⟩=> ?_);refine Da ?_);dsimp only at hk qE hrd hzl;have hbt:=b1.toNat_lt;rcases iq k b1.toNat with hlt|hge
  ·obtain⟨m,hm⟩: ∃ m,b1.toNat-k=m+1:=⟨b1.toNat-k-1,by omega⟩;have hm2:b1.toNat-(k+1)=m:=by omega
   rw[hm] at hrd;have none1:rd (m+1) (L.drop at')=none→ahQ L (.tuple #[.slice none 0 0, .bool false, .int .i64 4]) []:=fun h=>bad (by rw[hrd,h];rfl)
   have hrl:(L.drop at').length=L.length-at':=eu;have hdd:(L.drop at').drop 3=L.drop (at'+3):=ik;by_cases h3r:L.length<at'+3
   ·have B0:=none1 (YK (by omega));clear hrd none1 hdd;refine aZ ?_;exact Ea (x:=B0)
   ·have hgl:(L.drop (at'+3)).length≤1000000000000000:=by rw[eu];omega
    have no2: ∀ m',eD (L.drop (at'+3))=(0,0,m')→m'≠0→ahQ L (.tuple #[.slice none 0 0, .bool false, .int .i64 4]) []:=fun m' h h'=>none1 (adO (by omega) (by rw[hdd];exact h) h')
    rcases oF (L.drop (at'+3)) with⟨j,n,e1,e2,e3,e4,e5⟩|e1|e1
    ·have G1:=CX hgl e1;rw[eu] at e3;have e1':eD ((L.drop at').drop 3)=(n,j,0):=by rw[hdd];exact e1
     by_cases hn:L.length<at'+(3+j+n)
     ·have B0:=none1 (arZ (by omega) e1' (by omega));clear hrd none1 hdd no2 e1 e5 e1';(repeat' (first|refine Wa ?_|refine We ?_|refine Wc (G1 ..) ?_|fail));exact Ea (x:=B0)
     ·obtain⟨y0,hc0⟩: ∃ b,L[at']? =some b:=⟨_,aj (by omega)⟩;obtain⟨y1,hc1⟩: ∃ b,L[at'+1]? =some b:=⟨_,aj (by omega)⟩;obtain⟨y2,hc2⟩: ∃ b,L[at'+2]? =some b:=⟨_,aj (by omega)⟩;have hX:(L.drop (at'+3+j)).take (at'+3+j+n-(at'+3+j))=((L.drop at').drop (3+j)).take n:=by
       rw[ik,show at'+3+j+n-(at'+3+j)=n from by omega,show at'+(3+j)=at'+3+j from by omega]
      have d0:(L.drop at')[0]? =some y0:=by rw[bq];exact hc0
      have d1:(L.drop at')[1]? =some y1:=by rw[bq];exact hc1
      have d2:(L.drop at')[2]? =some y2:=by rw[bq];exact hc2
      have rb:=fun k=>asA (k:=k) (by omega) e1' (by omega) d0 d1 d2
      have rs:=fun k=>IH (k:=k) (by omega) e1' (by omega) d0 d1 d2
      rw[←hX] at rb rs;have CK:=IG ((y0.toNat:Int),(y1.toNat:Int),(y2.toNat:Int),(L.drop (at'+3+j)).take (at'+3+j+n-(at'+3+j)));have hdd2:(L.drop at').drop (3+j+n)=L.drop (at'+(3+j+n)):=ik;have t0:=y0.toNat_lt;have t1:=y1.toNat_lt;have t2:=y2.toNat_lt;dsimp only at CK;by_cases hz:dA ((y0.toNat:Int),(y1.toNat:Int),(y2.toNat:Int),(L.drop (at'+3+j)).take (at'+3+j+n-(at'+3+j)))=0
      ·have r1:=rs m hz;rw[hdd2] at r1;rw[hz] at CK;have hr2:kE L=(rd (b1.toNat-(k+1)) (L.drop (at'+(3+j+n)))).map (fun l=>(zs++[((y0.toNat:Int),(y1.toNat:Int),(y2.toNat:Int),(L.drop (at'+3+j)).take (at'+3+j+n-(at'+3+j)))])++l):=by
        rw[hm2,hrd,r1,Option.map_map];congr 1;funext l;simp
       clear hrd none1 hdd no2 e1 e5 e1' rb rs r1 hz hdd2 hX d0 d1 d2;(repeat' (first|refine Wa ?_|refine Wk ?_|refine We ?_|(refine Wb ?_;intro b)|(refine Wq ?_;intro q)|refine Wc (G1 ..) ?_|refine Wc (CK ..) ?_|fail));(refine aI wt (by rfl) (by first|exact Ma (xJ) [((y0.toNat:Int),(y1.toNat:Int),(y2.toNat:Int),(L.drop (at'+3+j)).take (at'+3+j+n-(at'+3+j)))] rfl|exact Mb (xJ) [((y0.toNat:Int),(y1.toNat:Int),(y2.toNat:Int),(L.drop (at'+3+j)).take (at'+3+j+n-(at'+3+j)))] rfl) ?_;rintro _ _ ⟨q2,c2,rfl,rfl⟩);refine eU ?_;refine Ee ((k+1,at'+(3+j+n),zs++[((y0.toNat:Int),(y1.toNat:Int),(y2.toNat:Int),(L.drop (at'+3+j)).take (at'+3+j+n-(at'+3+j)))],q2,c2)) ?_ ?_
       ·exact⟨hlt,(show at'+(3+j+n)≤L.length from by omega),hr2,by rw[List.length_append,hzl];rfl⟩
       ·show b1.toNat-(k+1)<b1.toNat-k;omega
      ·have B0:=none1 (rb m hz);clear hrd none1 hdd no2 e1 e5 e1' rb rs hdd2 hX d0 d1 d2;generalize dA ((y0.toNat:Int),(y1.toNat:Int),(y2.toNat:Int),(L.drop (at'+3+j)).take (at'+3+j+n-(at'+3+j)))=z at*;(repeat' (first|refine Wa ?_|refine Wk ?_|refine We ?_|(refine Wb ?_;intro b)|refine Wc (G1 ..) ?_|refine Wc (CK ..) ?_|fail));exact Ea (x:=B0)
    ·have G1:=KK hgl e1;have B0:=no2 _ e1 (by decide);clear hrd none1 hdd no2 e1;(repeat' (first|refine Wa ?_|refine We ?_|refine Wc (G1 ..) ?_|fail));exact Ea (x:=B0)
    ·have G1:=KK hgl e1;have B0:=no2 _ e1 (by decide);clear hrd none1 hdd no2 e1;(repeat' (first|refine Wa ?_|refine We ?_|refine Wc (G1 ..) ?_|fail));exact Ea (x:=B0)
  ·have hke:b1.toNat-k=0:=by omega
   rw[hke] at hrd;by_cases hend:at'=L.length
   ·have hO2:kE L=some zs:=by
     rw[hrd,rd,if_pos (by rw[hend];exact List.drop_length)];simp
    clear hrd;by_cases hb:b0.toNat=1
    ·have hB:((L.getD 0 0).toNat==1)=true:=by rw[hg0,hb];rfl
     have hbI:(b0.toNat:Int)=1:=by omega
     refine KA ?_;exact Ea (x:= .inl ⟨zs,q,c,hO2,by rw[hB],rfl⟩)
    ·have hB:((L.getD 0 0).toNat==1)=false:=by rw[hg0];simpa using hb
     have hbI:(b0.toNat:Int)≠1:=by omega
     refine KA ?_;exact Ea (x:= .inl ⟨zs,q,c,hO2,by rw[hB],rfl⟩)
   ·have B0 := bad (by
     rw[hrd,rd,if_neg]
     ·rfl
     ·intro h;have := congrArg List.length h;rw [eu] at this;simp at this;omega)
    clear hrd;refine aZ ?_;exact Ea (x:=B0)
 ·have hO:kE L=none:=by unfold kE;rw[if_neg hh]
  have B0:=bad hO;by_cases h1:L.length<2
  ·(refine Ye Tryz.func196 Tryz.ntmps196 ?_;intro Fr);refine aZ ?_;exact Ea (x:=B0)
  ·by_cases h2:1000<L.length
   ·(refine Ye Tryz.func196 Tryz.ntmps196 ?_;intro Fr);refine aZ ?_;exact Ea (x:=B0)
   ·obtain⟨b0,hb0⟩: ∃ b0,L[0]? =some b0:=⟨_,aj (by omega)⟩;obtain⟨b1,hb1⟩: ∃ b1,L[1]? =some b1:=⟨_,aj (by omega)⟩;have hbb:1<b0.toNat∨40<b1.toNat:=by
     unfold KJ at hh;rw[lJ hb0,lJ hb1] at hh;omega
    by_cases h3:1<b0.toNat
    ·(refine Ye Tryz.func196 Tryz.ntmps196 ?_;intro Fr);refine aZ ?_;exact Ea (x:=B0)
    ·have h4:40<b1.toNat:=by omega
     (refine Ye Tryz.func196 Tryz.ntmps196 ?_;intro Fr);refine aZ ?_;exact Ea (x:=B0)
end Go.Proofs.YtbjalbcdbgcgdaaGreat.fV
namespace Go.Proofs.YtbjalbcdbgcgdaaGreat.fV
open Go.RowKit bG sl fix PH put get
theorem QU (p:bD) (h:dA p=0) (r:List UInt8): ¬ (iT p++r).length<3∧eD ((iT p++r).drop 3)=(p.2.2.2.length,(cA p.2.2.2.length).length,0)∧ ¬ (iT p++r).length<3+(cA p.2.2.2.length).length+p.2.2.2.length∧(iT p++r)[0]? =some (gl p.1.toNat)∧(iT p++r)[1]? =some (gl p.2.1.toNat)∧(iT p++r)[2]? =some (gl p.2.2.1.toNat)∧((iT p++r).drop (3+(cA p.2.2.2.length).length)).take p.2.2.2.length=p.2.2.2∧(iT p++r).drop (3+(cA p.2.2.2.length).length+p.2.2.2.length)=r:=by
 have hb:=kL h;have e:iT p++r=gl p.1.toNat::gl p.2.1.toNat::gl p.2.2.1.toNat::(cA p.2.2.2.length++(p.2.2.2++r)):=by simp [iT]
 rw[e];have e3: ∀ k,(gl p.1.toNat::gl p.2.1.toNat::gl p.2.2.1.toNat::(cA p.2.2.2.length++(p.2.2.2++r))).drop (3+k)=(cA p.2.2.2.length++(p.2.2.2++r)).drop k:=by
  intro k;rw[show 3+k=k+1+1+1 from by omega];rfl
 refine⟨by simp, ?_,by simp;omega,rfl,rfl,rfl, ?_, ?_⟩
 ·exact zP _ _ (by omega)
 ·rw[e3,ic,List.take_left]
 ·rw[bw,e3, ←ik,ic,ic]
theorem QV (p:bD) (h:dA p=0):(((gl p.1.toNat).toNat:Int),((gl p.2.1.toNat).toNat:Int),((gl p.2.2.1.toNat).toNat:Int),p.2.2.2)=p:=by
 obtain⟨h0,h1,h2,h3,h4,h5,_⟩:=kL h;obtain⟨a,b,c,d⟩:=p;dsimp only at*;simp only[Prod.mk.injEq,and_true];simp;omega
theorem ahR: ∀ (l:List bD),(∀ p∈l,dA p=0)→rd l.length (bJ l)=some l
 |[],_=>rfl
 |p::l,h=>by
  have hp:=h p bc;obtain⟨g1,g2,g3,g4,g5,g6,g7,g8⟩:=QU p hp (bJ l);have hbb:=QV p hp;have e:bJ (p::l)=iT p++bJ l:=rfl;rw[e,fb,IH g1 g2 g3 g4 g5 g6 (by rw[g7,hbb];exact hp),g7,g8,hbb,ahR l fun q hq=>h q (ax _ hq)];rfl
theorem asB: ∀ (k:Nat) (r:List UInt8) (l:List bD),rd k r=some l→l.length=k∧bJ l=r∧ ∀ p∈l,dA p=0
 |0,r,l,h=>by
  rw[rd] at h;split at h
  ·rename_i hr;cases h;exact⟨rfl,hr.symm,fun p hp=>absurd hp List.not_mem_nil⟩
  ·cases h
 |k+1,r,l,h=>by
  by_cases h3:r.length<3
  ·rw[YK h3] at h;cases h
  ·rcases oF (r.drop 3) with⟨j,n,e1,e2,e3,e4,e5⟩|e1|e1
   ·by_cases hn:r.length<3+j+n
    ·rw[arZ h3 e1 hn] at h;cases h
    ·obtain⟨y0,hy0⟩: ∃ b,r[0]? =some b:=⟨_,aj (by omega)⟩;obtain⟨y1,hy1⟩: ∃ b,r[1]? =some b:=⟨_,aj (by omega)⟩;obtain⟨y2,hy2⟩: ∃ b,r[2]? =some b:=⟨_,aj (by omega)⟩;by_cases hz:dA ((y0.toNat:Int),(y1.toNat:Int),(y2.toNat:Int),(r.drop (3+j)).take n)=0
     ·rw[IH h3 e1 hn hy0 hy1 hy2 hz] at h;obtain⟨l',hl',rfl⟩:=Option.map_eq_some_iff.1 h;obtain⟨g1,g2,g3⟩:=asB k _ _ hl';refine⟨by rw[fb,g1], ?_,fun p hp=> ?_⟩
      ·have e:bJ (((y0.toNat:Int),(y1.toNat:Int),(y2.toNat:Int),(r.drop (3+j)).take n)::l')=iT ((y0.toNat:Int),(y1.toNat:Int),(y2.toNat:Int),(r.drop (3+j)).take n)++bJ l':=rfl;have hln:((r.drop (3+j)).take n).length=n:=by rw[List.length_take,eu];omega
       rw[e,g2];unfold iT;simp only[hln,Int.toNat_natCast,e5]
       match r,h3,hy0,hy1,hy2 with
       |a::b::c::t,_,hy0,hy1,hy2=>
        simp only[List.getElem?_cons_zero,List.getElem?_cons_succ,Option.some.injEq] at hy0 hy1 hy2;subst hy0 hy1 hy2;have f1: ∀ k,(a::b::c::t).drop (3+k)=t.drop k:=by
         intro k;rw[show 3+k=k+1+1+1 from by omega];rfl
        have f3:(a::b::c::t).drop 3=t:=rfl;have e9:t.take j++((t.drop j).take n++t.drop (j+n))=t:=by rw[←ik,il,il]
        rw[bw,f1,f1,f3];simpa using e9
      ·rcases aw.1 hp with rfl|hp
       ·exact hz
       ·exact g3 p hp
     ·rw[asA h3 e1 hn hy0 hy1 hy2 hz] at h;cases h
   ·rw[adO h3 e1 (by decide)] at h;cases h
   ·rw[adO h3 e1 (by decide)] at h;cases h
theorem ahS: ∀ (l:List bD) (more:List UInt8),(∀ p∈l,dA p=0)→more≠[]→rd l.length (bJ l++more)=none
 |[],more,_,h=>by
  show rd 0 more=none;rw[rd,if_neg h]
 |p::l,more,h,hm=>by
  have hp:=h p bc;obtain⟨g1,g2,g3,g4,g5,g6,g7,g8⟩:=QU p hp (bJ l++more);have hbb:=QV p hp;have e:bJ (p::l)++more=iT p++(bJ l++more):=by
   show (iT p++bJ l)++more=_;rw[List.append_assoc]
  rw[e,fb,IH g1 g2 g3 g4 g5 g6 (by rw[g7,hbb];exact hp),g7,g8,hbb,ahS l more (fun q hq=>h q (ax _ hq)) hm];rfl
theorem YL (last:Bool) (n:Nat) (h:n<256):tZ last n=[(if last then 1 else 0),gl n]:=by
 unfold tZ;rw[pL n h];cases last<;>rfl
theorem mS {l:List bD} (h:bK l=0):l.length≤40∧(∀ p∈l,dA p=0)∧2+(bJ l).length≤1000:=by
 unfold bK at h;split at h
 ·cases h
 ·split at h
  ·rename_i h2;exact absurd h h2
  ·split at h
   ·cases h
   ·rename_i h1 h2 h3;simp only[ne_eq,ir] at h2;exact⟨by omega,jG.1 h2,by omega⟩
theorem CY {l:List bD} (h:l.length≤40∧(∀ p∈l,dA p=0)∧2+(bJ l).length≤1000):bK l=0:=by
 unfold bK;rw[if_neg (by omega),if_neg (by simp [jG.2 h.2.1]),if_neg (by omega)]
theorem jH {l:List bD} (last:Bool) (h:bK l=0):(aR l last).length≤1000∧kE (aR l last)=some l∧(((aR l last).getD 0 0).toNat==1)=last:=by
 obtain⟨h1,h2,h3⟩:=mS h;have e:aR l last=(if last then 1 else 0)::gl l.length::bJ l:=by
  unfold aR;rw[YL last _ (by omega)];rfl
 have hl:(gl l.length).toNat=l.length:=by simp;omega
 rw[e];refine⟨by simp;omega, ?_,by cases last<;>rfl⟩;unfold kE;rw[if_pos]
 ·show rd (gl l.length).toNat (bJ l)=some l;rw[hl];exact ahR l h2
 ·refine⟨by simp,by simp;omega, ?_, ?_⟩
  ·show (if last then (1:UInt8) else 0).toNat≤1;cases last<;>decide
  ·show (gl l.length).toNat≤40;omega
theorem xK {L:List UInt8} {l:List bD} (h:kE L=some l):bK l=0∧aR l ((L.getD 0 0).toNat==1)=L∧ ∀ more,more≠[]→kE (L++more)=none:=by
 unfold kE at h;split at h
 ·rename_i hh;obtain⟨h1,h2,h3,h4⟩:=hh;obtain⟨g1,g2,g3⟩:=asB _ _ _ h
  match L,h1,h2,h3,h4,g1,g2,g3 with
  |a::b::t,h1,h2,h3,h4,g1,g2,g3=>
   have h3':a.toNat≤1:=h3;have h4':b.toNat≤40:=h4;have g1':l.length=b.toNat:=g1;have g2':bJ l=t:=g2;refine⟨CY ⟨by omega,g3,by rw[g2'];simp at h2;omega⟩, ?_,fun more hm=> ?_⟩
   ·unfold aR;rw[YL _ _ (by omega),g1',g2'];have ea:a=0∨a=1:=by
     rcases iq a.toNat 1 with h|h
     ·left;apply iu.1;show a.toNat=0;omega
     ·right;apply iu.1;show a.toNat=1;omega
    rcases ea with rfl|rfl<;>simp
   ·unfold kE;split
    ·show rd b.toNat (t++more)=none;rw[←g1', ←g2'];exact ahS l more g3 hm
    ·rfl
 ·cases h
end Go.Proofs.YtbjalbcdbgcgdaaGreat.fV
