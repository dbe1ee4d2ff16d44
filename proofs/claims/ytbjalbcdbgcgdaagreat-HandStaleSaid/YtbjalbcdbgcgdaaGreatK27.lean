/- Law HandStale: its texts, packed. -/
import Derived.Test.YtbjalbcdbgcgdaaGreatK18
import Derived.Test.YtbjalbcdbgcgdaaGreatK19
import Derived.Test.YtbjalbcdbgcgdaaGreatK25
import Derived.Test.YtbjalbcdbgcgdaaGreatK26
import Derived.Test.YtbjalbcdbgcgdaaGreatK12
import Derived.Lib.ItoaNum
import Derived.Test.YtbjalbcdbgcgdaaGreatK00
import Derived.Lib.SmallJoins
import Derived.SizedLaws
import Derived.Test.YtbjalbcdbgcgdaaGreatK06
import Derived.Test.YtbjalbcdbgcgdaaGreatK07
import Derived.Test.YtbjalbcdbgcgdaaGreatK10
import Derived.Test.YtbjalbcdbgcgdaaGreatK16
import Derived.Test.YtbjalbcdbgcgdaaGreatK13
import Derived.Shelf.Strings.Builder1
import Derived.Shelf.Strings.Builder2
import Derived.Shelf.Small.Utf8
import Derived.Shelf.Small.Bits
import Derived.Shelf.Small.Strs
import Derived.Shelf.Strings.BuilderF
import Derived.Shelf.Strings.BuilderK
import Derived.Shelf.Strings.Search1
import Derived.Shelf.Strings.Search2
import Derived.Shelf.Strings.Search3
import Derived.Shelf.Strings.Count
import Derived.Shelf.Strings.Shaped
import Derived.Shelf.Strings.Prefix
import Derived.Shelf.Strings.Runes
import Derived.Shelf.Strings.IndexAny
import Derived.Shelf.Strings.AsciiSet
import Derived.Shelf.Strings.IndexAnyAll
import Derived.Shelf.Bits.Mul64
import Derived.Shelf.Strings.Repeat
import Derived.Test.YtbjalbcdbgcgdaaGreatProg
open List renaming cons_append->jg,countP_append->np,countP_le_length->nr,countP_pos_iff->nt,drop_left->ic,getD_eq_getElem?_getD->iw,length_append->ag,length_cons->fb,length_drop->eu,mem_cons->aw,mem_cons_of_mem->ax,mem_cons_self->bc,replicate->eb,replicate_succ->nu
open Nat renaming le_refl->aq,le_trans->ae,lt_or_ge->iq,mod_eq_of_lt->gy,pow_le_pow_right->ib,zero_le->fg
open Int renaming eq_ofNat_of_zero_le->iy,toNat_natCast->fq
open UInt8 renaming ofNat->gl
set_option linter.unusedVariables false
set_option maxRecDepth 100000
set_option maxHeartbeats 8000000
namespace Go.Proofs.YtbjalbcdbgcgdaaGreat.kG
open Go.RowKit bG sl flip
abbrev Mk:=Int×Int×Int
def DT (m:Mk):Prop:=(m.1=0∧m.2.1=0∧0≤m.2.2∧m.2.2≤255)∨(3≤m.1∧m.1≤66∧1≤m.2.1∧m.2.1≤511∧m.2.2=0)
theorem step_ok {out:List UInt8} {m:Mk} (hg:lz.qV m) (h:lz.nI out m=0):DT m:=by
 unfold lz.nI at h;have hb:0≤m.2.2∧m.2.2≤255:=by
  have:=hg.2.2;simp [Lit.wf,IntKind.min,IntKind.max,IntKind.signed,IntKind.bits] at this;omega
 by_cases hc:lz.lZ m≠0
 ·rw[if_pos hc] at h;exact absurd h hc
 ·rw[if_neg hc] at h;split at h
  ·omega
  ·split at h
   ·omega
   ·rename_i h1 h2;have hc:lz.lZ m=0:=by omega
    unfold lz.lZ at hc;split at hc
    ·rename_i h3;split at hc
     ·exact .inl ⟨h3,by assumption,hb⟩
     ·omega
    ·split at hc
     ·omega
     ·exact .inr ⟨by omega,by omega,by omega,by omega,by omega⟩
theorem MN: ∀ (l:List Mk) (out x:List UInt8),(∀ m∈l,lz.qV m)→lz.kN l out=(x,0)→ ∀ m∈l,DT m
 |[],_,_,_,_,m,hm=>absurd hm List.not_mem_nil
 |m::l,out,x,hg,h,u,hu=>by
  rw[lz.kN] at h;by_cases hs:lz.nI out m=0
  ·rw[if_pos hs] at h;rcases aw.1 hu with rfl|hu
   ·exact step_ok (hg _ bc) hs
   ·exact MN l _ x (fun v hv=>hg v (ax _ hv)) h u hu
  ·rw[if_neg hs] at h;exact absurd (congrArg Prod.snd h) hs
def fG (m:Mk):Nat:=if m.1=0 then m.2.2.toNat else 253+m.1.toNat
def eN (d:Int):Nat:=Lib.bitLen d.toNat-1
theorem aaG {m:Mk} (h:DT m):fG m<320:=by
 unfold fG;rcases h with⟨h1,h2,h3,h4⟩|⟨h1,h2,h3,h4,h5⟩
 ·rw[if_pos h1];omega
 ·rw[if_neg (by omega)];omega
theorem sH {d : Int} (h1 : 1 ≤ d) (h2 : d ≤ 511) : eN d < 9 ∧ (Lib.bitLen d.toNat : Int) - 1 = (eN d : Int) ∧ ((2 ^ eN d : Nat) : Int) ≤ d ∧ d < ((2 ^ (eN d + 1) : Nat) : Int) := by
  obtain ⟨n, rfl⟩ := iy (by omega : 0 ≤ d)
  have hb := Lib.bitLenAux_bounds 64 n (by have : n < 512 := by omega
                                           exact Nat.lt_trans this (by decide)) (by omega)
  have e : Lib.bitLenAux 64 n = Lib.bitLen n := rfl
  rw [e] at hb
  unfold eN
  rw [fq]
  obtain ⟨h3, h4, h5⟩ := hb
  obtain ⟨k, hk⟩ : ∃ k, Lib.bitLen n = k + 1 := ⟨Lib.bitLen n - 1, by omega⟩
  rw [hk] at h4 h5 ⊢
  rw [Nat.add_sub_cancel] at h4 ⊢
  have hk9 : k < 9 := by
    rcases iq k 9 with h | h
    · exact h
    · have : 2 ^ 9 ≤ 2 ^ k := ib (by decide) h
      omega
  exact ⟨hk9, by omega, by omega, by omega⟩
def PQ (l:List Mk) (i:Nat):Nat:=l.countP fun m=>decide (fG m=i)
def GX (l:List Mk) (i:Nat):Nat:=l.countP fun m=>decide (m.1≠0∧eN m.2.1=i)
theorem amX (l:List Mk) (m:Mk):PQ (l++[m])=fJ (PQ l) (fG m) (PQ l (fG m)+1):=by
 funext i;unfold PQ fJ;rw[np];by_cases h:i=fG m
 ·rw[if_pos h,h];simp
 ·rw[if_neg h];simp;exact fun e=>h e.symm
theorem amY (l:List Mk) (m:Mk) (h:m.1≠0):GX (l++[m])=fJ (GX l) (eN m.2.1) (GX l (eN m.2.1)+1):=by
 funext i;unfold GX fJ;rw[np];by_cases h2:i=eN m.2.1
 ·rw[if_pos h2,h2];simp [h]
 ·rw[if_neg h2];simp;exact fun _ e=>h2 e.symm
theorem amZ (l:List Mk) (m:Mk) (h:m.1=0):GX (l++[m])=GX l:=by
 funext i;unfold GX;rw[np];simp [h]
theorem good_row {n:Nat} {B:Nat→Nat} (hn:n≤320) (hB: ∀ i,B i≤512):dB.eT (dX n B):=by
 refine⟨by rw[eJ];exact hn,fun f hf=> ?_⟩;unfold dX at hf;obtain⟨i,_,rfl⟩:=List.mem_map.1 hf;have:=hB i;omega
theorem vR {F:List Int} (h:dB.eT F):dB.dL F 15=0:=by
 unfold dB.dL;rw[if_neg (by rw[dB.mW.2 h];simp),if_neg (by decide),if_neg];have h1:=dB.VI F F.length;have h2:=h.1;show ¬ 2^15<_;omega
theorem aaH {F:List Int} {l:Nat→Nat} (hl: ∀ i,i<F.length→(dB.iW F 15)[i]? =some (l i:Int)) (ok:dB.auI F 15 l): ∀ n,n≤F.length→lens.iF ((dB.iW F 15).take n)=pm.dV (fun i=>2^(15-l i)) (dB.eF F n)
 |0,_=>rfl
 |n+1,h=>by
  rw[List.take_add_one,hl n (by omega),lens.RG,aaH hl ok n (by omega)];show _+(lens.wt (l n:Int)+0)=_;by_cases hp:0<dB.wF F n
  ·have hm:n∈dB.eF F F.length:=dB.vP.2 ⟨by omega,hp⟩;have:=(ok.right.1 n hm).1;rw[dB.MB hp,pm.ZO];unfold lens.wt;rw[if_pos (by omega),fq];rfl
  ·have hm:n∉dB.eF F F.length:=fun hm=>hp (dB.vP.1 hm).2
   rw[dB.MD hp,ok.none n hm];rfl
theorem MO {F:List Int} (h:dB.dL F 15=0):lens.cH (dB.iW F 15)=0:=by
 obtain⟨l,hl,ok⟩:=dB.VM h;have hg:=(dB.xX h).1;have hle:(dB.iW F 15).length=F.length:=dB.qZ F 15;have e:=dB.vQ (dB.azZ h) (by rw[hle];exact hg.1);have h2:=aaH hl ok F.length (aq _);rw[List.take_of_length_le (by omega)] at h2;have h3:=ok.right.2;unfold lens.cH;rw[e,if_neg (by decide),h2,if_neg];have:(2:Nat)^(15:Int).toNat=32768:=rfl;rw[this] at h3;exact Nat.not_lt.2 h3
theorem aaI {n i:Nat} {B:Nat→Nat} (hn:n≤320) (hB: ∀ i,B i≤512) (hi:i<n) (h:0<B i):code.KZ (dB.iW (dX n B) 15) (i:Int):=by
 have hg:=good_row hn hB;obtain⟨l,hl,ok⟩:=dB.VM (vR hg);have hw:dB.wF (dX n B) i=(B i:Int):=by
  unfold dB.wF;rw[iw,dI _ hi];rfl
 have hm:i∈dB.eF (dX n B) (dX n B).length:=dB.vP.2 ⟨by rw[eJ];exact hi,by rw[hw];omega⟩;have h1:=(ok.right.1 i hm).1;refine⟨by omega, ?_⟩;rw[fq,iw,hl i (by rw[eJ];exact hi)];show (l i:Int)≠0;omega
theorem MP {l:List Int} {x:Int} (hc:lens.cH l=0) (h:code.KZ l x): ∃ i w:Nat,x=(i:Int)∧l[i]? =some (w:Int)∧(1≤w∧w≤15)∧code.iA l x=(((fZ (lens.fM l i) w:Nat):Int),(w:Int)):=by
 obtain⟨h0,h1⟩:=h;obtain⟨hl,hb⟩:=code.iL hc;obtain⟨i,rfl⟩:=iy h0;rw[fq] at h1;have hil:i<l.length:=by
  rcases iq i l.length with h|h
  ·exact h
  ·rw[iw,List.getElem?_eq_none h] at h1;exact absurd rfl h1
 obtain⟨y,hy⟩: ∃ y,l[i]? =some y:=⟨_,List.getElem?_eq_getElem hil⟩;rw[iw,hy] at h1;obtain⟨y0,y15⟩:=hb y (List.mem_of_getElem? hy);obtain⟨w,rfl⟩:=iy y0;have h1:((w:Nat):Int)≠0:=h1;exact⟨i,w,rfl,hy,⟨by omega,by omega⟩,code.atH hy⟩
def ajA (d:Int):Int:=d-((2^eN d:Nat):Int)
def pcs (A B:List Int) (m:Mk):List (Int×Int):=code.iA A (fG m)::(if m.1=0 then [] else [code.iA B (eN m.2.1),(ajA m.2.1,(eN m.2.1:Int))])
def rA (l:List Mk):List Int:=dX 320 (PQ l)
def oO (l:List Mk):List Int:=dX 9 (GX l)
def la (l:List Mk):List Int:=dB.iW (rA l) 15
def lb (l:List Mk):List Int:=dB.iW (oO l) 15
structure SA (A B:List Int) (l:List Mk):Prop where
 ca:lens.cH A=0
 cb:lens.cH B=0
 ok: ∀ m∈l,DT m
 hx: ∀ m∈l,code.KZ A (fG m:Int)
 hy: ∀ m∈l,m.1≠0→code.KZ B (eN m.2.1:Int)
theorem IV (l:List Mk) (i:Nat):PQ l i≤l.length:=nr
theorem IW (l:List Mk) (i:Nat):GX l i≤l.length:=nr
theorem aaJ {l:List Mk} (h: ∀ m∈l,DT m) (hl:l.length≤512):SA (la l) (lb l) l where
 ca:=MO (vR (good_row (by decide) fun i=>ae (IV l i) hl))
 cb:=MO (vR (good_row (by decide) fun i=>ae (IW l i) hl))
 ok:=h
 hx m hm:=aaI (by decide) (fun i=>ae (IV l i) hl) (aaG (h m hm)) (nt.2 ⟨m,hm,by simp⟩)
 hy m hm h0 := aaI (by decide) (fun i => ae (IW l i) hl) (by
  rcases h m hm with⟨h1,_⟩|⟨h1,h2,h3,h4,_⟩
  ·exact absurd h1 h0
  ·exact (sH h3 h4).1) (nt.2 ⟨m, hm, by simp [h0]⟩)
def pieces (A B:List Int) (l:List Mk):List (Int×Int):=l.flatMap (pcs A B)
theorem FW (A B:List Int) (m:Mk) (l:List Mk):pieces A B (m::l)=pcs A B m++pieces A B l:=List.flatMap_cons
theorem aeV (A B:List Int) (l r:List Mk):pieces A B (l++r)=pieces A B l++pieces A B r:=List.flatMap_append
theorem ajB {d:Int} (h1:1≤d) (h2:d≤511): ∃ r:Nat,ajA d=(r:Int)∧r<2^eN d∧d=((2^eN d+r:Nat):Int):=by
 obtain⟨a,b,c,e⟩:=sH h1 h2;unfold ajA;rw[Nat.pow_succ] at e;refine⟨(d-((2^eN d:Nat):Int)).toNat,by omega,by omega,by omega⟩
theorem aEP {A B:List Int} {l:List Mk} (h:SA A B l) {m:Mk} (hm:m∈l): ∀ p∈pcs A B m, ∃ a v:Nat,a<2^v∧v≤15∧p=((a:Int),(v:Int)):=fun p hp=>by
 rcases aw.1 hp with rfl|hp
 ·obtain⟨i,w,_,_,hw,e⟩:=MP h.ca (h.hx m hm);exact⟨_,w,zX _ _,hw.2,e⟩
 ·by_cases h0:m.1=0
  ·rw[if_pos h0] at hp;cases hp
  ·rw[if_neg h0] at hp;rcases aw.1 hp with rfl|hp
   ·obtain⟨i,w,_,_,hw,e⟩:=MP h.cb (h.hy m hm h0);exact⟨_,w,zX _ _,hw.2,e⟩
   ·rw[List.mem_singleton.1 hp];rcases h.ok m hm with⟨h1,_⟩|⟨_,_,h3,h4,_⟩
    ·exact absurd h1 h0
    ·obtain⟨r,e1,e2,_⟩:=ajB h3 h4;have:=(sH h3 h4).1;exact⟨r,eN m.2.1,e2,by omega,by rw[e1]⟩
theorem aAA (A B:List Int) (m:Mk):(pcs A B m).length≤3:=by
 unfold pcs;split<;>simp
theorem sJ (A B:List Int): ∀ l:List Mk,(pieces A B l).length≤3*l.length
 |[]=>aq _
 |m::l=>by
  have h1:=aAA A B m;have h2:=sJ A B l;rw[FW,ag,fb];omega
theorem vS {A B:List Int} {l:List Mk} (h:SA A B l): ∀ p∈pieces A B l, ∃ a v:Nat,a<2^v∧v≤15∧p=((a:Int),(v:Int)):=fun p hp=>by
 obtain⟨m,hm,hp⟩:=List.mem_flatMap.1 hp;exact aEP h hm p hp
theorem aAB {A B:List Int} {l:List Mk} (h:SA A B l) (hl:l.length≤512):bits.iV (pieces A B l)=0:=by
 obtain⟨h1,h2⟩:=code.LG (vS h);have h3:=sJ A B l;unfold bits.iV;rw[h1,if_neg (by simp),if_neg (by omega)]
structure eM (t:List UInt8) (k:Nat) (ps:List (Int×Int)):Prop where
 num:bits.pW t/2^k=bits.kF ps
 fits:k+bits.total ps≤8*t.length
 tight:8*t.length<k+bits.total ps+8
theorem VO {ps:List (Int×Int)} (h: ∀ p∈ps, ∃ a v:Nat,a<2^v∧v≤15∧p=((a:Int),(v:Int))):eM (bits.iG ps) 0 ps:=by
 have h1 := (code.LG h).1;have h2 := bits.atA ps (fun p hp => by
  obtain ⟨a, v, _, _, rfl⟩ := h p hp;exact Int.natCast_nonneg a) h1
 have hlen:(bits.iG ps).length=(bits.total ps+7)/8:=by unfold bits.iG;rw[bits.ZC]
 refine⟨?_,by rw[hlen];omega,by rw[hlen];omega⟩;unfold bits.iG;rw[bits.asZ,Nat.pow_zero,Nat.div_one];apply gy;have h3:(256:Nat)^((bits.total ps+7)/8)=2^(8*((bits.total ps+7)/8)):=by rw[Nat.pow_mul]
 have h4:2^bits.total ps≤2^(8*((bits.total ps+7)/8)):=ib (by decide) (by omega);omega
theorem FX {t:List UInt8} {k a v:Nat} {ps:List (Int×Int)} (h:eM t k (((a:Int),(v:Int))::ps)) (ha:a<2^v):bits.pW t/2^k%2^v=a∧k+v≤8*t.length∧eM t (k+v) ps:=by
 obtain⟨h1,h2,h3⟩:=h;rw[bits.kF] at h1;rw[bits.total] at h2 h3;simp only[fq] at h1 h2 h3;refine⟨?_,by omega, ?_,by omega,by omega⟩
 ·rw[h1,Nat.add_mul_mod_self_left,gy ha]
 ·rw[Nat.pow_add, ←Nat.div_div_eq_div_mul,h1,Nat.add_mul_div_left _ _ (Nat.two_pow_pos _),Nat.div_eq_of_lt ha,Nat.zero_add]
theorem uK {l:List Int} {t:List UInt8} {k:Nat} {x:Int} {ps:List (Int×Int)} (hc:lens.cH l=0) (hx:code.KZ l x) (h:eM t k (code.iA l x::ps)): ∃ w:Nat,code.one l t k=(x,k+w,0)∧k+w≤8*t.length∧eM t (k+w) ps:=by
 obtain⟨i,w,rfl,hi,hw,e⟩:=MP hc hx;rw[e] at h;obtain⟨h1,h2,h3⟩:=FX h (zX _ _);exact⟨w,code.amF hc hi hw.1 h1 h2,h2,h3⟩
theorem aeW {t:List UInt8} {k:Nat} (h:eM t k []):bits.pW t/2^k=0∧k≤8*t.length∧8*t.length<k+8:=⟨h.num,h.fits,h.tight⟩
def jS (s:List UInt8) (l:List Mk):List UInt8:=2::put.cA s.length++put.cA l.length++runs.aR (la l)++runs.aR (lb l)++bits.iG (pieces (la l) (lb l) l)
theorem pP (n:Nat):1≤(put.cA n).length∧(put.cA n).length≤11:=put.tW 10 n
theorem auL: ∀ (f:Nat) (l:List Int),(runs.wF f l).length≤l.length
 |0,_=>by rw[runs.wF];exact fg _
 |f+1,[]=>by rw[runs.wF];exact fg _
 |f+1,x::l=>by
  have h:=auL f (l.drop (runs.lead 15 x l));rw[eu] at h;rw[runs.wF,fb,fb];omega
theorem kO (l:List Int):(runs.aR l).length≤11+l.length:=by
 have h1:=pP l.length;have h2:=auL l.length l;unfold runs.aR;rw[ag];omega
theorem DU {A B:List Int} {l:List Mk} (h:SA A B l) (hl:l.length≤512):(bits.iG (pieces A B l)).length≤2881:=by
 obtain⟨h1,h2⟩:=code.LG (vS h);have h3:=sJ A B l;unfold bits.iG;rw[bits.ZC];omega
end Go.Proofs.YtbjalbcdbgcgdaaGreat.kG
namespace Go.Proofs.YtbjalbcdbgcgdaaGreat.bG
end Go.Proofs.YtbjalbcdbgcgdaaGreat.bG
namespace Go.Proofs.YtbjalbcdbgcgdaaGreat.kG
open Go.RowKit bG sl put get
theorem uA (n:Nat) (hn:n<18446744073709551616):Ct Tryz.prog 245 [.int .u64 (n:Int)] [] fun v H'=>v= .string (str (cA n))∧H'=[]:=
 aW fun W _=>(mM n hn W).mono fun e' w' ⟨h1,h2⟩=>⟨by rw[h1],h2⟩
theorem CX {l:List UInt8} {n k:Nat} (h:l.length≤1000000000000000) (e:eD l=(n,k,0)):Ct Tryz.prog 248 [.string (str l)] [] fun v H'=>v= .tuple #[.int .u64 (n:Int), .int .i64 (k:Int), .int .i64 0]∧H'=[]:=
 aW fun W _ => (zO (str l) (by rw [bP]; unfold maxLen; omega) W).mono fun e' w' ⟨h1, h2⟩ => ⟨by
  have h3 : eD (str l).data.toList = (n, k, 0) := e;rw [h1, h3]; rfl, by rw [← h2]; exact Below.refl _ _⟩
attribute [local irreducible] box own sl gH aH bC Qt cJ cG dC dG eO
theorem VP (b:Nat) {l:List UInt8} {n k:Nat} (h:l.length≤1000000000000000) (e:eD l=(n,k,0)) (hk:k≤l.length) (hn:n≤512):
  Ct Tryz.prog 220 [aH b 0, .int .u64 512] [box b [.string (str l), .bool false] 306] fun v H'=>v= .int .i64 (n:Int)∧H'=[box b [.string (str (l.drop k)), .bool false] 306]:=by
 have G0:=CX h e;(refine Ye Tryz.func220 Tryz.ntmps220 ?_;intro Fr);(repeat' (first|refine Wa ?_|refine We ?_|refine Wc (G0 ..) ?_|fail));exact Ea (x:=⟨rfl,rfl⟩)
theorem aAC (b:Nat) {l:List UInt8} {n k:Nat} (h:l.length≤1000000000000000) (e:eD l=(n,k,0)) (hn:512<n):
  Ct Tryz.prog 220 [aH b 0, .int .u64 512] [box b [.string (str l), .bool false] 306] fun v H'=>v= .int .i64 0∧H'=[box b [.string (str l), .bool true] 306]:=by
 have G0:=CX h e;(refine Ye Tryz.func220 Tryz.ntmps220 ?_;intro Fr);(repeat' (first|refine Wa ?_|refine We ?_|refine Wc (G0 ..) ?_|fail));exact Ea (x:=⟨rfl,rfl⟩)
def PS (n:Nat) (r:List UInt8):List UInt8×Int:=if n≤512∧r.length=n then (r,0) else ([],4)
theorem auM (l r:List UInt8) {n k:Nat} (h:l.length≤1000000000000000) (e:eD l=(n,k,0)) (hk:k≤l.length) (hr:l.drop k=r):
  Ct Tryz.prog 153 [.string (str (1::l))] [] fun v H'=>v= .tuple #[.string (str (PS n r).1), .int .i64 (PS n r).2]∧H'=[]:=by
 have hl:(1::l).length=l.length+1:=rfl;have e0:((1::l)==[])=false:=rfl;have e1:List.drop 1 (1::l)=l:=rfl;have e2:(1::l)[0]? =some 1:=rfl;have hu:UInt8.toNat 1=1:=rfl;by_cases hn:n≤512
 ·have N0:=fun b=>VP b h e hk hn
  rw[hr] at N0;have hrl:r.length≤l.length:=by rw[←hr,eu];omega
  by_cases hrn:r.length=n
  ·have ew:PS n r=(r,0):=by unfold PS;rw[if_pos ⟨hn,hrn⟩]
   rw[ew];(refine Ye Tryz.func153 Tryz.ntmps153 ?_;intro Fr);(repeat' (first|refine Wa ?_|refine We ?_|(refine Wb ?_;intro b)|fail));(refine Ca (N0 _) ?_;rintro _ _ ⟨_,⟨rfl,rfl⟩,rfl⟩;refine Da ?_);refine aZ ?_;exact Ea (x:=⟨rfl,rfl⟩)
  ·have ew:PS n r=([],4):=by unfold PS;rw[if_neg (fun h=>hrn h.2)]
   rw[ew];(refine Ye Tryz.func153 Tryz.ntmps153 ?_;intro Fr);(repeat' (first|refine Wa ?_|refine We ?_|(refine Wb ?_;intro b)|fail));(refine Ca (N0 _) ?_;rintro _ _ ⟨_,⟨rfl,rfl⟩,rfl⟩;refine Da ?_);refine aZ ?_;exact Ea (x:=⟨rfl,rfl⟩)
 ·have ew:PS n r=([],4):=by unfold PS;rw[if_neg (fun h=>hn h.1)]
  rw[ew];have N0:=fun b=>aAC b h e (by omega)
  (refine Ye Tryz.func153 Tryz.ntmps153 ?_;intro Fr);(repeat' (first|refine Wa ?_|refine We ?_|(refine Wb ?_;intro b)|fail));(refine Ca (N0 _) ?_;rintro _ _ ⟨_,⟨rfl,rfl⟩,rfl⟩;refine Da ?_);refine aZ ?_;exact Ea (x:=⟨rfl,rfl⟩)
end Go.Proofs.YtbjalbcdbgcgdaaGreat.kG
namespace Go.Proofs.YtbjalbcdbgcgdaaGreat.runs
open Go.RowKit bG put get
theorem SB: ∀ (c:Nat) (x:Int) (l:List Int),l.take (lead c x l)=eb (lead c x l) x
 |0,_,l=>by simp [lead]
 |_+1,_,[]=>by simp [lead]
 |c+1,x,y::l=>by
  rw[lead];split
  ·rename_i h;subst h;rw[List.take_succ_cons,SB c y l,nu]
  ·simp
theorem SC: ∀ (c:Nat) (x:Int) (l:List Int),lead c x l<c→ ∀ r,l.drop (lead c x l)≠x::r
 |0,_,_,h=>by omega
 |_+1,_,[],_=>by simp
 |c+1,x,y::l,h=>by
  rw[lead] at h ⊢;split at h
  ·rename_i hy;rw[if_pos hy,List.drop_succ_cons];exact SC c x l (by omega)
  ·rename_i hy;rw[if_neg hy,List.drop_zero];intro r e;exact hy (List.cons.inj e).1
theorem aeX (x:Int) (L:Nat) (hx:0≤x∧x≤15) (hL:L≤15):(gl (x.toNat*16+L)).toNat%16=L∧(((gl (x.toNat*16+L)).toNat/16:Nat):Int)=x:=by
 have e:(gl (x.toNat*16+L)).toNat=x.toNat*16+L:=by simp;omega
 rw[e];omega
theorem aaK: ∀ (f:Nat) (l:List Int) (more:List UInt8) (n k:Nat) (last:UInt8),l.length≤f→n=k+l.length→(∀ x∈l,0≤x∧x≤15)→(k=0∨last.toNat%16=15∨ ∀ r,l≠((last.toNat/16:Nat):Int)::r)→gG (wF f l++more) n k last=(l,(wF f l).length,0)
 |f,[],more,n,k,last,_,hn,_,_=>by
  rw[ML _ _ _ _ (by simp at hn;omega)];cases f<;>rfl
 |0,x::l,more,n,k,last,h,_,_,_=>by simp at h
 |f+1,x::l,more,n,k,last,h,hn,hx,hc=>by
  have h2 := aaE 15 x l;have hx0 := hx x (bc);obtain ⟨e1, e2⟩ := aeX x (lead 15 x l) hx0 h2.2;rw [wF, jg];simp only [fb] at h hn;have ih := aaK f (l.drop (lead 15 x l)) more n (k + (lead 15 x l + 1)) (gl (x.toNat * 16 + lead 15 x l)) (by simp; omega) (by simp; omega) (fun y hy => hx y (ax _ (List.mem_of_mem_drop hy))) (by
   by_cases hl:lead 15 x l<15
   ·right;right;rw[e2];exact SC 15 x l hl
   ·right; left;rw [e1]; omega)
  rw [MM _ _ _ _ _ (by omega) (by
   rw[e1];rintro (hb|⟨hb1,hb2,hb3⟩)
   ·omega
   ·rcases hc with hc|hc|hc
    ·omega
    ·exact hb3 hc
    ·exact hc l (by rw [← hb2, e2]))]
  rw[e1,ih,if_pos rfl,e2];simp only[Prod.mk.injEq,fb,and_true];have e3:eb (lead 15 x l) x++l.drop (lead 15 x l)=l:=by rw[←SB 15 x l];exact List.take_append_drop _ _
  rw[nu,jg,e3]
theorem jH (l:List Int) (h:eK l=0) (more:List UInt8):nK (aR l++more)=(l,(aR l).length,0):=by
 have hl:l.length≤320:=by
  unfold eK at h;split at h
  ·cases h
  ·omega
 have hbad:gM l=false:=by
  unfold eK at h;rw[if_neg (by omega)] at h;cases hb:gM l with
  |false=>rfl
  |true=>rw[hb] at h;simp at h
 have h1:=aaK l.length l more l.length 0 255 (aq _) (by omega) (fun x hx=>qR hbad hx) (.inl rfl);unfold nK aR;rw[List.append_assoc,zP l.length _ (by omega)];simp only[ne_eq,not_true_eq_false,if_false];rw[if_neg (by omega),ic,h1];simp;omega
end Go.Proofs.YtbjalbcdbgcgdaaGreat.runs
namespace Go.Proofs.YtbjalbcdbgcgdaaGreat.kG
open Go.RowKit bG sl put code lens
theorem aaL: ∀ {O:List Int},(∀ o∈O,0≤o∧o≤15)→runs.gM O=false
 |[],_=>rfl
 |o::O,h=>by
  have h1:=h o bc;rw[runs.gM,if_neg (by omega)];exact aaL fun x hx=>h x (ax _ hx)
theorem aeY {A:List Int} (h:cH A=0):runs.eK A=0:=by
 obtain⟨h1,h2⟩:=iL h;unfold runs.eK;rw[if_neg (by omega),aaL h2,if_neg (by decide)]
theorem aAD (A : List Int) (rest : List UInt8) {n : Nat} (hn : A.length = n) (h : cH A = 0) (hr : rest.length ≤ 100000) : Ct Tryz.prog 312 [.string (str (runs.aR A ++ rest))] [] fun v H' => ∃ q c, v = .tuple #[.slice q n c, .int .i64 ((runs.aR A).length : Int), .int .i64 0] ∧ H' = [own (.slice q n c) 3 1 n (flat fI A)] := ⟨fun Fr w hw => by
 have hl:=(iL h).1;have hwl:=kO A;refine (runs.oG (str (runs.aR A++rest)) (by rw[bP,ag];omega) w).mono fun e w' h1=> ?_
 obtain⟨ov,h2,h3,h4⟩:=h1;have hd:(str (runs.aR A++rest)).data.toList=runs.aR A++rest:=rfl;rw[hd,runs.jH A (aeY h) rest] at h2 h3;obtain⟨q,c,rfl⟩:=runs.aiZ h3;have hw2:aD Fr w:=hw;have hm:mP (fun _=>False) w w':=⟨h4.os,h4.tape,h4.output,h4.size,fun b hb' _=>h4.block b hb'⟩;subst hn;refine⟨_,[own (.slice q A.length c) 3 1 A.length (flat fI A)],h2,⟨q,c,rfl,rfl⟩,aD.new hw2 hm ?_ fun b hb=> ?_⟩
 ·rw[IL];refine⟨h3.1, ?_⟩;rcases h3.2 with hz|⟨g,cap,cur,hv,h0,r⟩
  ·exact .inl hz
  ·exact .inr ⟨g,cap,cur,hv,fg _,r⟩
 ·obtain ⟨_, _, _, h9, _⟩ := vA h3 hb;exact h9⟩
def rdE (a t:Nat) (k:Nat) (s:List UInt8):List Ent:=[box a [.int .i64 (k:Int)] 3,box t [.string (str s)] 9]
def anA (s:List UInt8) (k w:Nat):Nat:=bits.pW s/2^k%2^w
theorem aAE (w k a t : Nat) (s : List UInt8) (hw : w ≤ 64) (hle : k + w ≤ 8 * s.length) (hs : s.length ≤ 100000) : Ct Tryz.prog 316 [.int .i64 (w : Int), aH a 0, aH t 0] (rdE a t k s) fun v H' => v = .int .u64 ((anA s k w : Nat) : Int) ∧ H' = rdE a t (k + w) s := ⟨fun Fr W hW => by
 have ha:W.heap[a]? =some (.cells #[.int .i64 (k:Int)] 3 (0,0)):=hW.1 _ bc;have ht:W.heap[t]? =some (.cells #[.string (str s)] 9 (0,0)):=hW.1 _ (ax _ bc);refine (bits.atD w k a t (str s) W ⟨ha,ht⟩ hw (by rw[bP];exact hle) (by rw[bP];omega)).mono fun e w' ⟨h1,h2,h3⟩=> ?_
 refine ⟨_, _, h1, ⟨rfl, rfl⟩, ?_⟩;exact aD.pA (e := box a [.int .i64 (k : Int)] 3) (e' := box a [.int .i64 ((k + w : Nat) : Int)] 3) hW rfl ⟨h3.os, h3.tape, h3.output, h3.size, fun b hb hn => h3.block b hb fun e => hn (Option.some.inj e)⟩ h2.ha (fun b hb => .inl hb)⟩
def auN (a t:Nat):Value:= .func (.func 316) #[] #[aH a 0,aH t 0]
attribute [local irreducible] box own sl gH aH bC Qt cJ cG dC dG eO
theorem aAF (s:List UInt8) (k:Nat):Ct Tryz.prog 266 [.string (str s), .int .i64 (k:Int)] [] fun v H'=> ∃ a t,v=auN a t∧H'=rdE a t k s:=by
 unfold auN rdE;(refine Ye Tryz.func266 Tryz.ntmps266 ?_;intro Fr);(repeat' (first|refine Wa ?_|refine We ?_|(refine Wb ?_;intro b)|fail));exact Ea (x:=⟨_,_,rfl,rfl⟩)
theorem ajC (b:Nat) (A:List Int) (rest:List UInt8) {n:Nat} (hn:A.length=n) (hc:cH A=0) (hr:rest.length≤100000):
  Ct Tryz.prog 264 [aH b 0, .int .i64 (n:Int)] [box b [.string (str (runs.aR A++rest)), .bool false] 306]
   fun v H'=> ∃ q c,v= .agg (KX q c A).toArray∧H'=[own (.slice q (oJ A 15).length c) 3 1 (oJ A 15).length (flat fI (oJ A 15)),box b [.string (str rest), .bool false] 306]:=by
 have R0 := aAD A rest hn hc hr;obtain ⟨hl, hb⟩ := iL hc;have C1 := fun q c => eW (YZ q c A (fun x hx => by
  have := hb x hx;simp [Lit.wf, IntKind.min, IntKind.max, IntKind.signed, IntKind.bits];omega) (by omega)) (R' := fun v H' => ∃ q c, v = .tuple #[.slice q A.length c, .int .i64 0] ∧ H' = [own (.slice q A.length c) 3 1 A.length (flat fI (sX A))]) fun v H' h => by
  rcases h with⟨h1,_⟩|⟨_,h2⟩
  ·exact absurd hc h1
  ·exact h2
 have M0:=fun q c=>KY q c A hb hl
 rw[hn] at C1 M0;have hwl:=kO A;have hdr:(runs.aR A++rest).drop (runs.aR A).length=rest:=ic;have hal:(runs.aR A++rest).length=(runs.aR A).length+rest.length:=ag;generalize runs.aR A=wb at*;(refine Ye Tryz.func264 Tryz.ntmps264 ?_;intro Fr);(repeat' (first|refine Wa ?_|refine We ?_|(refine Wb ?_;intro b)|fail));(refine Ca (R0) ?_;rintro _ _ ⟨_,⟨q1,c1,rfl,rfl⟩,rfl⟩;refine Da ?_);refine aZ ?_;(refine Ca (C1 _ _) ?_;rintro _ _ ⟨_,⟨q2,c2,rfl,rfl⟩,rfl⟩;refine Da ?_);refine aZ ?_;(refine Ca (M0 _ _) ?_;rintro _ _ ⟨_,⟨q3,c3,rfl,rfl⟩,rfl⟩;refine Da ?_);refine eU ?_;rw[rZ (us:=KX q3 c3 A) (by unfold KX;rw[hU];rfl)];have hbk:KX q3 c3 A=sY (.slice q3 (oJ A 15).length c3) (fA A 16) (fR A 16) (fC A):=rfl;have hbl:=hU (.slice q3 (oJ A 15).length c3) (fA A 16) (fR A 16) (fC A);rw[←hbk] at hbl;exact Ea (x:=⟨q3,c3,rfl,rfl⟩)
end Go.Proofs.YtbjalbcdbgcgdaaGreat.kG
namespace Go.Proofs
open Go.Shelf
def Tryz.aaM:Go.Shelf.Ren:=⟨fun|125=>243|128=>290|129=>291|n=>n,fun|46=>330|3=>3|51=>322|53=>165|4=>4|5=>5|9=>9|n=>n,fun|n=>n⟩
theorem Tryz.aAG:Go.Proofs.Lays.n125 Tryz.prog Tryz.aaM:={
 mixed:=by kernel_rfl
 f125:=Tryz.func243.trans (congrArg some (by kernel_rfl))
 f128:=Tryz.func290.trans (congrArg some (by kernel_rfl))
 f129:=Tryz.func291.trans (congrArg some (by kernel_rfl))
 t3:=Tryz.underlying3
 a3:=Tryz.isAgg3
 z3:=Tryz.sizeOf3
 v3:=Tryz.zeroValue3
 t4:=Tryz.underlying4
 a4:=Tryz.isAgg4
 z4:=Tryz.sizeOf4
 v4:=Tryz.zeroValue4
 t5:=Tryz.underlying5
 a5:=Tryz.isAgg5
 z5:=Tryz.sizeOf5
 v5:=Tryz.zeroValue5
 t9:=Tryz.underlying9
 a9:=Tryz.isAgg9
 z9:=Tryz.sizeOf9
 v9:=Tryz.zeroValue9
 t46:=Tryz.underlying330
 a46:=Tryz.isAgg330
 z46:=Tryz.sizeOf330
 v46:=Tryz.zeroValue330
 t51:=Tryz.underlying322
 a51:=Tryz.isAgg322
 z51:=Tryz.sizeOf322
 v51:=Tryz.zeroValue322
 t53:=Tryz.underlying165
 a53:=Tryz.isAgg165
 z53:=Tryz.sizeOf165
 v53:=Tryz.zeroValue165 }
theorem Tryz.bits_Len (x:Int) (w:World) (h0:0≤x) (h1:x≤18446744073709551615):Calls Tryz.prog 243 #[.int .u64 x] w fun e w'=>e= .returned (.int .i64 (Lib.bitLen x.toNat))∧w'=w:=Any.bits_Len Tryz.aAG x w h0 h1
def Tryz.aaN:Go.Shelf.Ren:=⟨fun|106=>253|213=>293|265=>332|n=>n,fun|9=>9|3=>3|n=>n,fun|n=>n⟩
theorem Tryz.aAH:Go.Proofs.Lays.n106 Tryz.prog Tryz.aaN:={
 mixed:=by kernel_rfl
 f106:=Tryz.func253.trans (congrArg some (by kernel_rfl))
 f213:=Tryz.func293.trans (congrArg some (by kernel_rfl))
 f265:=Tryz.func332.trans (congrArg some (by kernel_rfl))
 t3:=Tryz.underlying3
 a3:=Tryz.isAgg3
 z3:=Tryz.sizeOf3
 v3:=Tryz.zeroValue3
 t9:=Tryz.underlying9
 a9:=Tryz.isAgg9
 z9:=Tryz.sizeOf9
 v9:=Tryz.zeroValue9 }
open Go.RowKit in
theorem Tryz.strings_Compare (a b:ByteArray) (w:World):
  Calls Tryz.prog 253 #[.string a, .string b] w fun e w'=>e= .returned (.int .i64 (Lib.compareBytes a.data.toList b.data.toList))∧w'=w:=Any.strings_Compare Tryz.aAH a b w
def Tryz.aaO:Go.Shelf.Ren:=⟨fun|137=>209|217=>254|266=>294|n=>n,fun|9=>9|5=>5|3=>3|n=>n,fun|n=>n⟩
theorem Tryz.aAI:Go.Proofs.Lays.n137 Tryz.prog Tryz.aaO:={
 mixed:=by kernel_rfl
 f137:=Tryz.func209.trans (congrArg some (by kernel_rfl))
 f217:=Tryz.func254.trans (congrArg some (by kernel_rfl))
 f266:=Tryz.func294.trans (congrArg some (by kernel_rfl))
 t3:=Tryz.underlying3
 a3:=Tryz.isAgg3
 z3:=Tryz.sizeOf3
 v3:=Tryz.zeroValue3
 t5:=Tryz.underlying5
 a5:=Tryz.isAgg5
 z5:=Tryz.sizeOf5
 v5:=Tryz.zeroValue5
 t9:=Tryz.underlying9
 a9:=Tryz.isAgg9
 z9:=Tryz.sizeOf9
 v9:=Tryz.zeroValue9 }
open Go.RowKit in
theorem Tryz.strings_IndexByte (s:ByteArray) (c:Int) (w:World):
  Calls Tryz.prog 209 #[.string s, .int .u8 c] w fun e w'=>e= .returned (.int .i64 (Lib.indexByte s.data.toList c.toNat.toUInt8))∧w'=w:=Any.strings_IndexByte Tryz.aAI s c w
def Tryz.aaP:Go.Shelf.Ren:=⟨fun|138=>259|195=>300|218=>301|143=>302|219=>337|217=>254|225=>335|224=>334|267=>348|266=>294|314=>355|n=>n,fun|9=>9|3=>3|4=>4|5=>5|0=>0|46=>330|146=>397|51=>322|n=>n,fun|1=>0|n=>n⟩
theorem Tryz.aAJ:Go.Proofs.Lays.n138 Tryz.prog Tryz.aaP:={
 mixed:=by kernel_rfl
 f138:=Tryz.func259.trans (congrArg some (by kernel_rfl))
 f143:=Tryz.func302.trans (congrArg some (by kernel_rfl))
 f195:=Tryz.func300.trans (congrArg some (by kernel_rfl))
 f217:=Tryz.func254.trans (congrArg some (by kernel_rfl))
 f218:=Tryz.func301.trans (congrArg some (by kernel_rfl))
 f219:=Tryz.func337.trans (congrArg some (by kernel_rfl))
 f224:=Tryz.func334.trans (congrArg some (by kernel_rfl))
 f225:=Tryz.func335.trans (congrArg some (by kernel_rfl))
 f266:=Tryz.func294.trans (congrArg some (by kernel_rfl))
 f267:=Tryz.func348.trans (congrArg some (by kernel_rfl))
 f314:=Tryz.func355.trans (congrArg some (by kernel_rfl))
 t0:=Tryz.underlying0
 a0:=Tryz.isAgg0
 z0:=Tryz.sizeOf0
 v0:=Tryz.zeroValue0
 t3:=Tryz.underlying3
 a3:=Tryz.isAgg3
 z3:=Tryz.sizeOf3
 v3:=Tryz.zeroValue3
 t4:=Tryz.underlying4
 a4:=Tryz.isAgg4
 z4:=Tryz.sizeOf4
 v4:=Tryz.zeroValue4
 t5:=Tryz.underlying5
 a5:=Tryz.isAgg5
 z5:=Tryz.sizeOf5
 v5:=Tryz.zeroValue5
 t9:=Tryz.underlying9
 a9:=Tryz.isAgg9
 z9:=Tryz.sizeOf9
 v9:=Tryz.zeroValue9
 t46:=Tryz.underlying330
 a46:=Tryz.isAgg330
 z46:=Tryz.sizeOf330
 v46:=Tryz.zeroValue330
 t51:=Tryz.underlying322
 a51:=Tryz.isAgg322
 z51:=Tryz.sizeOf322
 v51:=Tryz.zeroValue322
 t146:=Tryz.underlying397
 a146:=Tryz.isAgg397
 z146:=Tryz.sizeOf397
 v146:=Tryz.zeroValue397
 g1:=by kernel_rfl }
open Go.RowKit Go.Lib in
theorem Tryz.strings_Count_one (s:ByteArray) (c:UInt8) (w:World):
  Calls Tryz.prog 259 #[.string s, .string ⟨#[c]⟩] w fun e w'=>e= .returned (.int .i64 (Lib.countByte s.data.toList c))∧w'=w:=Any.strings_Count_one Tryz.aAJ s c w
def Tryz.aaQ:Go.Shelf.Ren:=⟨fun|150=>210|153=>255|152=>295|226=>296|227=>297|228=>298|137=>209|119=>333|224=>334|225=>335|217=>254|266=>294|n=>n,fun|9=>9|4=>4|3=>3|5=>5|21=>21|117=>382|116=>381|0=>0|46=>330|124=>419|n=>n,fun|n=>n⟩
theorem Tryz.aAK:Go.Proofs.Lays.n150 Tryz.prog Tryz.aaQ:={
 mixed:=by kernel_rfl
 f119:=Tryz.func333.trans (congrArg some (by kernel_rfl))
 f137:=Tryz.func209.trans (congrArg some (by kernel_rfl))
 f150:=Tryz.func210.trans (congrArg some (by kernel_rfl))
 f152:=Tryz.func295.trans (congrArg some (by kernel_rfl))
 f153:=Tryz.func255.trans (congrArg some (by kernel_rfl))
 f217:=Tryz.func254.trans (congrArg some (by kernel_rfl))
 f224:=Tryz.func334.trans (congrArg some (by kernel_rfl))
 f225:=Tryz.func335.trans (congrArg some (by kernel_rfl))
 f226:=Tryz.func296.trans (congrArg some (by kernel_rfl))
 f227:=Tryz.func297.trans (congrArg some (by kernel_rfl))
 f228:=Tryz.func298.trans (congrArg some (by kernel_rfl))
 f266:=Tryz.func294.trans (congrArg some (by kernel_rfl))
 t0:=Tryz.underlying0
 a0:=Tryz.isAgg0
 z0:=Tryz.sizeOf0
 v0:=Tryz.zeroValue0
 t3:=Tryz.underlying3
 a3:=Tryz.isAgg3
 z3:=Tryz.sizeOf3
 v3:=Tryz.zeroValue3
 t4:=Tryz.underlying4
 a4:=Tryz.isAgg4
 z4:=Tryz.sizeOf4
 v4:=Tryz.zeroValue4
 t5:=Tryz.underlying5
 a5:=Tryz.isAgg5
 z5:=Tryz.sizeOf5
 v5:=Tryz.zeroValue5
 t9:=Tryz.underlying9
 a9:=Tryz.isAgg9
 z9:=Tryz.sizeOf9
 v9:=Tryz.zeroValue9
 t21:=Tryz.underlying21
 a21:=Tryz.isAgg21
 z21:=Tryz.sizeOf21
 v21:=Tryz.zeroValue21
 t46:=Tryz.underlying330
 a46:=Tryz.isAgg330
 z46:=Tryz.sizeOf330
 v46:=Tryz.zeroValue330
 t116:=Tryz.underlying381
 a116:=Tryz.isAgg381
 z116:=Tryz.sizeOf381
 t117:=Tryz.underlying382
 a117:=Tryz.isAgg382
 z117:=Tryz.sizeOf382
 v117:=Tryz.zeroValue382
 t124:=Tryz.underlying419
 a124:=Tryz.isAgg419
 z124:=Tryz.sizeOf419
 v124:=Tryz.zeroValue419 }
def Tryz.pQ:Go.Shelf.Ren:=⟨fun|105=>221|212=>261|99=>141|165=>262|166=>225|170=>263|169=>226|263=>309|264=>310|206=>207|240=>268|241=>311|276=>317|277=>343|n=>n,fun|9=>9|3=>3|4=>4|20=>20|0=>0|46=>330|109=>347|5=>5|72=>313|76=>316|51=>322|146=>397|53=>165|148=>399|70=>311|37=>292|75=>315|127=>360|164=>403|80=>318|n=>n,fun|n=>n⟩
theorem Tryz.aO:Go.Proofs.Lays.n105 Tryz.prog Tryz.pQ:={
 mixed:=by kernel_rfl
 f99:=Tryz.func141.trans (congrArg some (by kernel_rfl))
 f105:=Tryz.func221.trans (congrArg some (by kernel_rfl))
 f165:=Tryz.func262.trans (congrArg some (by kernel_rfl))
 f166:=Tryz.func225.trans (congrArg some (by kernel_rfl))
 f169:=Tryz.func226.trans (congrArg some (by kernel_rfl))
 f170:=Tryz.func263.trans (congrArg some (by kernel_rfl))
 f206:=Tryz.func207.trans (congrArg some (by kernel_rfl))
 f212:=Tryz.func261.trans (congrArg some (by kernel_rfl))
 f240:=Tryz.func268.trans (congrArg some (by kernel_rfl))
 f241:=Tryz.func311.trans (congrArg some (by kernel_rfl))
 f263:=Tryz.func309.trans (congrArg some (by kernel_rfl))
 f264:=Tryz.func310.trans (congrArg some (by kernel_rfl))
 f276:=Tryz.func317.trans (congrArg some (by kernel_rfl))
 f277:=Tryz.func343.trans (congrArg some (by kernel_rfl))
 t0:=Tryz.underlying0
 a0:=Tryz.isAgg0
 z0:=Tryz.sizeOf0
 v0:=Tryz.zeroValue0
 t3:=Tryz.underlying3
 a3:=Tryz.isAgg3
 z3:=Tryz.sizeOf3
 v3:=Tryz.zeroValue3
 t4:=Tryz.underlying4
 a4:=Tryz.isAgg4
 z4:=Tryz.sizeOf4
 v4:=Tryz.zeroValue4
 t5:=Tryz.underlying5
 a5:=Tryz.isAgg5
 z5:=Tryz.sizeOf5
 v5:=Tryz.zeroValue5
 t9:=Tryz.underlying9
 a9:=Tryz.isAgg9
 z9:=Tryz.sizeOf9
 v9:=Tryz.zeroValue9
 t20:=Tryz.underlying20
 a20:=Tryz.isAgg20
 z20:=Tryz.sizeOf20
 v20:=Tryz.zeroValue20
 t37:=Tryz.underlying292
 a37:=Tryz.isAgg292
 z37:=Tryz.sizeOf292
 v37:=Tryz.zeroValue292
 t46:=Tryz.underlying330
 a46:=Tryz.isAgg330
 z46:=Tryz.sizeOf330
 v46:=Tryz.zeroValue330
 t51:=Tryz.underlying322
 a51:=Tryz.isAgg322
 z51:=Tryz.sizeOf322
 v51:=Tryz.zeroValue322
 t53:=Tryz.underlying165
 a53:=Tryz.isAgg165
 z53:=Tryz.sizeOf165
 v53:=Tryz.zeroValue165
 t70:=Tryz.underlying311
 a70:=Tryz.isAgg311
 z70:=Tryz.sizeOf311
 v70:=Tryz.zeroValue311
 t72:=Tryz.underlying313
 a72:=Tryz.isAgg313
 z72:=Tryz.sizeOf313
 v72:=Tryz.zeroValue313
 t75:=Tryz.underlying315
 a75:=Tryz.isAgg315
 z75:=Tryz.sizeOf315
 v75:=Tryz.zeroValue315
 t76:=Tryz.underlying316
 a76:=Tryz.isAgg316
 z76:=Tryz.sizeOf316
 v76:=Tryz.zeroValue316
 t109:=Tryz.underlying347
 a109:=Tryz.isAgg347
 z109:=Tryz.sizeOf347
 v109:=Tryz.zeroValue347
 t127:=Tryz.underlying360
 a127:=Tryz.isAgg360
 z127:=Tryz.sizeOf360
 v127:=Tryz.zeroValue360
 t146:=Tryz.underlying397
 a146:=Tryz.isAgg397
 z146:=Tryz.sizeOf397
 v146:=Tryz.zeroValue397
 t148:=Tryz.underlying399
 a148:=Tryz.isAgg399
 z148:=Tryz.sizeOf399
 v148:=Tryz.zeroValue399
 t164:=Tryz.underlying403
 a164:=Tryz.isAgg403
 z164:=Tryz.sizeOf403
 v164:=Tryz.zeroValue403 }
theorem Tryz.iX:Builder.Extra Tryz.prog Tryz.pQ:={
 sizeBuilder:=by kernel_rfl
 liesBuilder:=by kernel_rfl
 t5:=Tryz.underlying5
 a5:=Tryz.isAgg5
 z5:=Tryz.sizeOf5
 v5:=Tryz.zeroValue5
 infoByte:=by kernel_rfl
 cellsByte:=by kernel_rfl
 sizeByte:=by kernel_rfl
 neB5:=by decide }
open Go.RowKit Go.Lib in
theorem Tryz.strings_Repeat (s:ByteArray) (c:Nat) (w:World) (hc:c≤9223372036854775807) (hlen:s.size*c≤140737488355328):
  Calls Tryz.prog 221 #[.string s, .int .i64 c] w fun e w'=>e= .returned (.string ⟨(Lib.repeatL s.data.toList c).toArray⟩)∧Below w.heap.size w w':=Any.strings_Repeat Tryz.aO Tryz.iX s c w hc hlen
end Go.Proofs
