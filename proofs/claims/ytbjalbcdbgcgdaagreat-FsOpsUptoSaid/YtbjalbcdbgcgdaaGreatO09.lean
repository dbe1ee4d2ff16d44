/- FsOps, packed. -/
import Derived.Test.YtbjalbcdbgcgdaaGreatOQ
import Derived.Test.YtbjalbcdbgcgdaaGreatO08
import Derived.Test.YtbjalbcdbgcgdaaGreatO06
import Derived.Test.YtbjalbcdbgcgdaaGreatO07
import Derived.Test.YtbjalbcdbgcgdaaGreatO01
import Derived.Lib.ItoaNum
import Derived.Test.YtbjalbcdbgcgdaaGreatO03
import Derived.Test.YtbjalbcdbgcgdaaGreatO02
import Derived.Test.YtbjalbcdbgcgdaaGreatO00
import Derived.Test.YtbjalbcdbgcgdaaGreatO04
open Go.Proofs.Tryz renaming prog->lk
open List renaming append_nil->ke,cons_append->dw,countP_append->aeo,countP_le_length->aep,countP_pos_iff->aeq,drop->adq,drop_left->aar,getD_eq_getElem?_getD->my,length_append->ae,length_cons->dv,length_singleton->gk,length_take->ar,mem_cons->al,mem_cons_of_mem->a8,mem_cons_self->bu,mem_of_getElem?->jg,replicate->du,take_add_one->ib,take_of_length_le->bd
open Nat renaming le_refl->df,le_trans->gm,lt_or_ge->ig,mod_eq_of_lt->aag,pow_le_pow_right->mr,zero_le->fe
open Int renaming eq_ofNat_of_zero_le->adg,one_mul->aes,toNat_natCast->dc,toNat_of_nonneg->aer
open Prod renaming ext->aet
open UInt8 renaming toNat->aaw
open Go.Value renaming oneCell'->a6
open Go.IntKind renaming bits->jm,i64->kx,max->jv,min->ju,signed->iz
open Go.Lit renaming wf->k9
set_option linter.unusedVariables false
set_option maxRecDepth 100000
set_option maxHeartbeats 8000000
namespace Go.Proofs.YtbjalbcdbgcgdaaGreat
open Go.RowKit bO sl
namespace mI
open flip
abbrev Mk:=Int×Int×Int
def KR (m:Mk):Prop:=(m.1=0∧m.2.1=0∧0≤m.2.2∧m.2.2≤255)∨(3≤m.1∧m.1≤66∧1≤m.2.1∧m.2.1≤511∧m.2.2=0)
theorem step_ok {out:List UInt8} {m:Mk} (hg:lz.uF m) (h:lz.pZ out m=0):KR m:=by
 unfold lz.pZ at h;have hb:0≤m.2.2∧m.2.2≤255:=by
  have:=hg.2.2;simp [k9,ju,jv,iz,jm] at this;omega
 by_cases hc:lz.oM m≠0
 ·rw[Jg hc] at h;exact absurd h hc
 ·rw[Jf hc] at h;split at h
  ·omega
  ·split at h
   ·omega
   ·rename_i h1 h2;have hc:lz.oM m=0:=Z8
    unfold lz.oM at hc;split at hc
    ·rename_i h3;split at hc
     ·exact .inl ⟨h3,Jc,hb⟩
     ·omega
    ·split at hc
     ·omega
     ·exact .inr ⟨Z8,Z8,Z8,Z8,Z8⟩
theorem UF: ∀ (l:List Mk) (out x:List UInt8),(∀ m∈l,lz.uF m)→lz.mR l out=(x,0)→ ∀ m∈l,KR m
 |[],_,_,_,_,m,hm=>absurd hm List.not_mem_nil
 |m::l,out,x,hg,h,u,hu=>by
  rw[lz.mR] at h;by_cases hs:lz.pZ out m=0
  ·rw[Jg hs] at h;rcases al.1 hu with rfl|hu
   ·exact step_ok (hg _ bu) hs
   ·exact UF l _ x (fun v hv=>hg v (a8 _ hv)) h u hu
  ·rw[Jf hs] at h;exact absurd (congrArg Prod.snd h) hs
def gZ (m:Mk):Nat:=if m.1=0 then m.2.2.toNat else 253+m.1.toNat
def gF (d:Int):Nat:=Lib.bitLen d.toNat-1
theorem ajG {m:Mk} (h:KR m):gZ m<320:=by
 unfold gZ;rcases h with⟨h1,h2,h3,h4⟩|⟨h1,h2,h3,h4,h5⟩
 ·rw[Jg h1];omega
 ·rw[Jf Z8];omega
theorem wD {d : Int} (h1 : 1 ≤ d) (h2 : d ≤ 511) : gF d < 9 ∧ (Lib.bitLen d.toNat : Int) - 1 = (gF d : Int) ∧ ((2 ^ gF d : Nat) : Int) ≤ d ∧ d < ((2 ^ (gF d + 1) : Nat) : Int) := by
  obtain ⟨n, rfl⟩ := adg (Z8 : 0 ≤ d)
  have hb := Lib.bitLenAux_bounds 64 n (by have : n < 512 :=Z8
                                           exact Nat.lt_trans this Z9) Z8
  have e : Lib.bitLenAux 64 n = Lib.bitLen n := rfl
  rw [e] at hb
  unfold gF
  rw [dc]
  obtain ⟨h3, h4, h5⟩ := hb
  obtain ⟨k, hk⟩ : ∃ k, Lib.bitLen n = k + 1 := ⟨Lib.bitLen n - 1, Z8⟩
  rw [hk] at h4 h5 ⊢
  rw [Nat.add_sub_cancel] at h4 ⊢
  have zy : k < 9 := by
    rcases ig k 9 with h | h
    · exact h
    · have : 2 ^ 9 ≤ 2 ^ k := mr Z9 h
      omega
  exact ⟨zy, Z8, Z8, Z8⟩
def XJ (l:List Mk) (i:Nat):Nat:=l.countP fun m=>decide (gZ m=i)
def OM (l:List Mk) (i:Nat):Nat:=l.countP fun m=>decide (m.1≠0∧gF m.2.1=i)
theorem awP (l:List Mk) (m:Mk):XJ (l++[m])=gN (XJ l) (gZ m) (XJ l (gZ m)+1):=by
 funext i;unfold XJ gN;rw[aeo];by_cases h:i=gZ m
 ·rw[Jg h,h];simp
 ·rw[Jf h];simp;exact fun e=>h e.symm
theorem awQ (l:List Mk) (m:Mk) (h:m.1≠0):OM (l++[m])=gN (OM l) (gF m.2.1) (OM l (gF m.2.1)+1):=by
 funext i;unfold OM gN;rw[aeo];by_cases h2:i=gF m.2.1
 ·rw[Jg h2,h2];simp [h]
 ·rw[Jf h2];simp;exact fun _ e=>h2 e.symm
theorem awR (l:List Mk) (m:Mk) (h:m.1=0):OM (l++[m])=OM l:=by
 funext i;unfold OM;rw[aeo];simp [h]
theorem good_row {n:Nat} {B:Nat→Nat} (hn:n≤320) (hB: ∀ i,B i≤512):eD.gA (dQ n B):=by
 refine⟨by rw[kC];exact hn,fun f hf=> ?_⟩;unfold dQ at hf;obtain⟨i,_,rfl⟩:=List.mem_map.1 hf;have:=hB i;omega
theorem zQ {F:List Int} (h:eD.gA F):eD.eM F 15=0:=by
 unfold eD.eM;rw[Jf (by rw[eD.pL.2 h];simp),Jf Z9,Jf];have h1:=eD.adP F F.length;have h2:=h.1;show ¬ 2^15<_;omega
theorem ajH {F:List Int} {l:Nat→Nat} (hl: ∀ i,i<F.length→(eD.kW F 15)[i]? =some (l i:Int)) (ok:eD.aFB F 15 l): ∀ n,n≤F.length→lens.jR ((eD.kW F 15).take n)=pm.eY (fun i=>2^(15-l i)) (eD.fN F n)
 |0,_=>rfl
 |n+1,h=>by
  rw[ib,hl n Z8,lens.aaL,ajH hl ok n Z8];show _+(lens.wt (l n:Int)+0)=_;by_cases hp:0<eD.wF F n
  ·have hm:n∈eD.fN F F.length:=eD.zP.2 ⟨Z8,hp⟩;have:=(ok.right.1 n hm).1;rw[eD.TW hp,pm.aiO];unfold lens.wt;rw[Jg Z8,dc];rfl
  ·have hm:n∉eD.fN F F.length:=fun hm=>hp (eD.zP.1 hm).2
   rw[eD.TX hp,ok.none n hm];rfl
theorem UG {F:List Int} (h:eD.eM F 15=0):lens.dD (eD.kW F 15)=0:=by
 obtain⟨l,hl,ok⟩:=eD.adS h;have hg:=(eD.CY h).1;have hle:(eD.kW F 15).length=F.length:=eD.uP F 15;have e:=eD.wC (eD.aLY h) (by rw[hle];exact hg.1);have h2:=ajH hl ok F.length (df _);rw[bd Z8] at h2;have h3:=ok.right.2;unfold lens.dD;rw[e,Jf Z9,h2,Jf];have:(2:Nat)^(15:Int).toNat=32768:=rfl;rw[this] at h3;exact Nat.not_lt.2 h3
theorem ajI {n i:Nat} {B:Nat→Nat} (hn:n≤320) (hB: ∀ i,B i≤512) (hi:i<n) (h:0<B i):code.SQ (eD.kW (dQ n B) 15) (i:Int):=by
 have hg:=good_row hn hB;obtain⟨l,hl,ok⟩:=eD.adS (zQ hg);have hw:eD.wF (dQ n B) i=(B i:Int):=by
  unfold eD.wF;rw[my,eG _ hi];rfl
 have hm:i∈eD.fN (dQ n B) (dQ n B).length:=eD.zP.2 ⟨by rw[kC];exact hi,by rw[hw];omega⟩;have h1:=(ok.right.1 i hm).1;refine⟨Z8, ?_⟩;rw[dc,my,hl i (by rw[kC];exact hi)];show (l i:Int)≠0;omega
theorem UH {l:List Int} {x:Int} (hc:lens.dD l=0) (h:code.SQ l x): ∃ i w:Nat,x=(i:Int)∧l[i]? =some (w:Int)∧(1≤w∧w≤15)∧code.jK l x=(((iS (lens.iG l i) w:Nat):Int),(w:Int)):=by
 obtain⟨h0,h1⟩:=h;obtain⟨hl,hb⟩:=code.jY hc;obtain⟨i,rfl⟩:=adg h0;rw[dc] at h1;have zy:i<l.length:=by
  rcases ig i l.length with h|h
  ·exact h
  ·rw[my,List.getElem?_eq_none h] at h1;exact absurd rfl h1
 obtain⟨y,hy⟩: ∃ y,l[i]? =some y:=⟨_,List.getElem?_eq_getElem zy⟩;rw[my,hy] at h1;obtain⟨y0,y15⟩:=hb y (jg hy);obtain⟨w,rfl⟩:=adg y0;have h1:((w:Nat):Int)≠0:=h1;exact⟨i,w,rfl,hy,⟨Z8,Z8⟩,code.aED hy⟩
def arZ (d:Int):Int:=d-((2^gF d:Nat):Int)
def yA (A B:List Int) (m:Mk):List (Int×Int):=code.jK A (gZ m)::(if m.1=0 then [] else [code.jK B (gF m.2.1),(arZ m.2.1,(gF m.2.1:Int))])
def uQ (l:List Mk):List Int:=dQ 320 (XJ l)
def rV (l:List Mk):List Int:=dQ 9 (OM l)
def la (l:List Mk):List Int:=eD.kW (uQ l) 15
def lb (l:List Mk):List Int:=eD.kW (rV l) 15
structure abB (A B:List Int) (l:List Mk):Prop where
 ca:lens.dD A=0
 cb:lens.dD B=0
 ok: ∀ m∈l,KR m
 hx: ∀ m∈l,code.SQ A (gZ m:Int)
 hy: ∀ m∈l,m.1≠0→code.SQ B (gF m.2.1:Int)
theorem PI (l:List Mk) (i:Nat):XJ l i≤l.length:=aep
theorem PJ (l:List Mk) (i:Nat):OM l i≤l.length:=aep
theorem ajJ {l:List Mk} (h: ∀ m∈l,KR m) (hl:l.length≤512):abB (la l) (lb l) l where
 ca:=UG (zQ (good_row Z9 fun i=>gm (PI l i) hl))
 cb:=UG (zQ (good_row Z9 fun i=>gm (PJ l i) hl))
 ok:=h
 hx m hm:=ajI Z9 (fun i=>gm (PI l i) hl) (ajG (h m hm)) (aeq.2 ⟨m,hm,Ja⟩)
 hy m hm h0 := ajI Z9 (fun i => gm (PJ l i) hl) (by
  rcases h m hm with⟨h1,_⟩|⟨h1,h2,h3,h4,_⟩
  ·exact absurd h1 h0
  ·exact (wD h3 h4).1) (aeq.2 ⟨m, hm, by simp [h0]⟩)
def pieces (A B:List Int) (l:List Mk):List (Int×Int):=l.flatMap (yA A B)
theorem NL (A B:List Int) (m:Mk) (l:List Mk):pieces A B (m::l)=yA A B m++pieces A B l:=List.flatMap_cons
theorem anS (A B:List Int) (l r:List Mk):pieces A B (l++r)=pieces A B l++pieces A B r:=List.flatMap_append
theorem asA {d:Int} (h1:1≤d) (h2:d≤511): ∃ r:Nat,arZ d=(r:Int)∧r<2^gF d∧d=((2^gF d+r:Nat):Int):=by
 obtain⟨a,b,c,e⟩:=wD h1 h2;unfold arZ;rw[Nat.pow_succ] at e;refine⟨(d-((2^gF d:Nat):Int)).toNat,Z8,Z8,Z8⟩
theorem aRM {A B:List Int} {l:List Mk} (h:abB A B l) {m:Mk} (hm:m∈l): ∀ p∈yA A B m, ∃ a v:Nat,a<2^v∧v≤15∧p=((a:Int),(v:Int)):=fun p hp=>by
 rcases al.1 hp with rfl|hp
 ·obtain⟨i,w,_,_,hw,e⟩:=UH h.ca (h.hx m hm);exact⟨_,w,GB _ _,hw.2,e⟩
 ·by_cases h0:m.1=0
  ·rw[Jg h0] at hp;cases hp
  ·rw[Jf h0] at hp;rcases al.1 hp with rfl|hp
   ·obtain⟨i,w,_,_,hw,e⟩:=UH h.cb (h.hy m hm h0);exact⟨_,w,GB _ _,hw.2,e⟩
   ·rw[List.mem_singleton.1 hp];rcases h.ok m hm with⟨h1,_⟩|⟨_,_,h3,h4,_⟩
    ·exact absurd h1 h0
    ·obtain⟨r,e1,e2,_⟩:=asA h3 h4;have:=(wD h3 h4).1;exact⟨r,gF m.2.1,e2,Z8,by rw[e1]⟩
theorem aLZ (A B:List Int) (m:Mk):(yA A B m).length≤3:=by
 unfold yA;split<;>simp
theorem wE (A B:List Int): ∀ l:List Mk,(pieces A B l).length≤3*l.length
 |[]=>df _
 |m::l=>by
  have h1:=aLZ A B m;have h2:=wE A B l;rw[NL,ae,dv];omega
theorem zR {A B:List Int} {l:List Mk} (h:abB A B l): ∀ p∈pieces A B l, ∃ a v:Nat,a<2^v∧v≤15∧p=((a:Int),(v:Int)):=fun p hp=>by
 obtain⟨m,hm,hp⟩:=List.mem_flatMap.1 hp;exact aRM h hm p hp
theorem aMA {A B:List Int} {l:List Mk} (h:abB A B l) (hl:l.length≤512):bits.kV (pieces A B l)=0:=by
 obtain⟨h1,h2⟩:=code.TB (zR h);have h3:=wE A B l;unfold bits.kV;rw[h1,Jf Ja,Jf Z8]
structure gE (t:List UInt8) (k:Nat) (ps:List (Int×Int)):Prop where
 num:bits.tJ t/2^k=bits.mH ps
 fits:k+bits.total ps≤8*t.length
 tight:8*t.length<k+bits.total ps+8
theorem adU {ps:List (Int×Int)} (h: ∀ p∈ps, ∃ a v:Nat,a<2^v∧v≤15∧p=((a:Int),(v:Int))):gE (bits.jS ps) 0 ps:=by
 have h1 := (code.TB h).1;have h2 := bits.aDW ps (fun p hp => by
  obtain ⟨a, v, _, _, rfl⟩ := h p hp;exact Int.natCast_nonneg a) h1
 have hlen:(bits.jS ps).length=(bits.total ps+7)/8:=by unfold bits.jS;rw[bits.aiC]
 refine⟨?_,by rw[hlen];omega,by rw[hlen];omega⟩;unfold bits.jS;rw[bits.aDV,Nat.pow_zero,Nat.div_one];apply aag;have h3:(256:Nat)^((bits.total ps+7)/8)=2^(8*((bits.total ps+7)/8)):=by rw[Nat.pow_mul]
 have h4:2^bits.total ps≤2^(8*((bits.total ps+7)/8)):=mr Z9 Z8;omega
theorem NM {t:List UInt8} {k a v:Nat} {ps:List (Int×Int)} (h:gE t k (((a:Int),(v:Int))::ps)) (ha:a<2^v):bits.tJ t/2^k%2^v=a∧k+v≤8*t.length∧gE t (k+v) ps:=by
 obtain⟨h1,h2,h3⟩:=h;rw[bits.mH] at h1;rw[bits.total] at h2 h3;simp only[dc] at h1 h2 h3;refine⟨?_,Z8, ?_,Z8,Z8⟩
 ·rw[h1,Nat.add_mul_mod_self_left,aag ha]
 ·rw[Nat.pow_add, ←Nat.div_div_eq_div_mul,h1,Nat.add_mul_div_left _ _ (Nat.two_pow_pos _),Nat.div_eq_of_lt ha,Nat.zero_add]
theorem yB {l:List Int} {t:List UInt8} {k:Nat} {x:Int} {ps:List (Int×Int)} (hc:lens.dD l=0) (hx:code.SQ l x) (h:gE t k (code.jK l x::ps)): ∃ w:Nat,code.one l t k=(x,k+w,0)∧k+w≤8*t.length∧gE t (k+w) ps:=by
 obtain⟨i,w,rfl,hi,hw,e⟩:=UH hc hx;rw[e] at h;obtain⟨h1,h2,h3⟩:=NM h (GB _ _);exact⟨w,code.avX hc hi hw.1 h1 h2,h2,h3⟩
theorem anT {t:List UInt8} {k:Nat} (h:gE t k []):bits.tJ t/2^k=0∧k≤8*t.length∧8*t.length<k+8:=⟨h.num,h.fits,h.tight⟩
def lR (s:List UInt8) (l:List Mk):List UInt8:=2::put.cY s.length++put.cY l.length++runs.bE (la l)++runs.bE (lb l)++bits.jS (pieces (la l) (lb l) l)
theorem sW (n:Nat):1≤(put.cY n).length∧(put.cY n).length≤11:=put.xH 10 n
theorem aFE: ∀ (f:Nat) (l:List Int),(runs.wF f l).length≤l.length
 |0,_=>by rw[runs.wF];exact fe _
 |f+1,[]=>by rw[runs.wF];exact fe _
 |f+1,x::l=>by
  have h:=aFE f (l.drop (runs.lead 15 x l));rw[List.length_drop] at h;rw[runs.wF,dv,dv];omega
theorem mS (l:List Int):(runs.bE l).length≤11+l.length:=by
 have h1:=sW l.length;have h2:=aFE l.length l;unfold runs.bE;rw[ae];omega
theorem KS {A B:List Int} {l:List Mk} (h:abB A B l) (hl:l.length≤512):(bits.jS (pieces A B l)).length≤2881:=by
 obtain⟨h1,h2⟩:=code.TB (zR h);have h3:=wE A B l;unfold bits.jS;rw[bits.aiC];omega
end mI
namespace mI
open put code lens
theorem ajL: ∀ {O:List Int},(∀ o∈O,0≤o∧o≤15)→runs.jB O=false
 |[],_=>rfl
 |o::O,h=>by
  have h1:=h o bu;rw[runs.jB,Jf Z8];exact ajL fun x hx=>h x (a8 _ hx)
theorem anV {A:List Int} (h:dD A=0):runs.gC A=0:=by
 obtain⟨h1,h2⟩:=jY h;unfold runs.gC;rw[Jf Z8,ajL h2,Jf Z9]
theorem aMC (A : List Int) (rest : List UInt8) {n : Nat} (hn : A.length = n) (h : dD A = 0) (hr : rest.length ≤ 100000) : Ct lk 312 [.string (str (runs.bE A ++ rest))] [] fun v H' => ∃ q c, v = .tuple #[.slice q n c, .int .i64 ((runs.bE A).length : Int), .int .i64 0] ∧ H' = [own (.slice q n c) 3 1 n (flat fI A)] := ⟨fun Fr w hw => by
 have hl:=(jY h).1;have hwl:=mS A;refine (runs.rI (str (runs.bE A++rest)) (by rw[cZ,ae];omega) w).mono fun e w' h1=> ?_
 obtain⟨ov,h2,h3,h4⟩:=h1;have hd:(str (runs.bE A++rest)).data.toList=runs.bE A++rest:=rfl;rw[hd,runs.lJ A (anV h) rest] at h2 h3;obtain⟨q,c,rfl⟩:=runs.arY h3;have zy:aG Fr w:=hw;have hm:oB (fun _=>False) w w':=⟨h4.os,h4.tape,h4.output,h4.size,fun b zx _=>h4.block b zx⟩;subst hn;refine⟨_,[own (.slice q A.length c) 3 1 A.length (flat fI A)],h2,⟨q,c,rfl,rfl⟩,aG.new zy hm ?_ fun b hb=> ?_⟩
 ·rw[PF];refine⟨h3.1, ?_⟩;rcases h3.2 with hz|⟨g,cap,cur,hv,h0,r⟩
  ·exact .inl hz
  ·exact .inr ⟨g,cap,cur,hv,fe _,r⟩
 ·obtain ⟨_, _, _, h9, _⟩ := yS h3 hb;exact h9⟩
def rdE (a t:Nat) (k:Nat) (s:List UInt8):List Ent:=[box a [.int .i64 (k:Int)] 3,box t [.string (str s)] 9]
def awS (s:List UInt8) (k w:Nat):Nat:=bits.tJ s/2^k%2^w
theorem aMD (w k a t : Nat) (s : List UInt8) (hw : w ≤ 64) (hle : k + w ≤ 8 * s.length) (hs : s.length ≤ 100000) : Ct lk 316 [.int .i64 (w : Int), aH a 0, aH t 0] (rdE a t k s) fun v H' => v = .int .u64 ((awS s k w : Nat) : Int) ∧ H' = rdE a t (k + w) s := ⟨fun Fr W hW => by
 have ha:W.heap[a]? =some (.cells #[.int .i64 (k:Int)] 3 (0,0)):=hW.1 _ bu;have ht:W.heap[t]? =some (.cells #[.string (str s)] 9 (0,0)):=hW.1 _ (a8 _ bu);refine (bits.aDZ w k a t (str s) W ⟨ha,ht⟩ hw (by rw[cZ];exact hle) (by rw[cZ];omega)).mono fun e w' ⟨h1,h2,h3⟩=> ?_
 refine ⟨_, _, h1, ⟨rfl, rfl⟩, ?_⟩;exact aG.qO (e := box a [.int .i64 (k : Int)] 3) (e' := box a [.int .i64 ((k + w : Nat) : Int)] 3) hW rfl ⟨h3.os, h3.tape, h3.output, h3.size, fun b hb hn => h3.block b hb fun e => hn (Option.some.inj e)⟩ h2.ha (fun b hb => .inl hb)⟩
def aFG (a t:Nat):Value:= .func (.func 316) #[] #[aH a 0,aH t 0]
attribute [local irreducible] box own sl bL aH bJ Qt cN cM dG dL eQ
theorem aME (s:List UInt8) (k:Nat):Ct lk 266 [.string (str s), .int .i64 (k:Int)] [] fun v H'=> ∃ a t,v=aFG a t∧H'=rdE a t k s:=by
 unfold aFG rdE;(refine Ye Tryz.func266 Tryz.ntmps266 ?_;intro Fr);(repeat' (first|refine Y3 ?_|(refine Wb ?_;intro b)|fail));exact Ea (x:=⟨_,_,rfl,rfl⟩)
theorem asC (b:Nat) (A:List Int) (rest:List UInt8) {n:Nat} (hn:A.length=n) (hc:dD A=0) (hr:rest.length≤100000):
  Ct lk 264 [aH b 0, .int .i64 (n:Int)] [box b [.string (str (runs.bE A++rest)), .bool false] 306]
   fun v H'=> ∃ q c,v= .agg (SN q c A).toArray∧H'=[own (.slice q (rQ A 15).length c) 3 1 (rQ A 15).length (flat fI (rQ A 15)),box b [.string (str rest), .bool false] 306]:=by
 have R0 := aMC A rest hn hc hr;obtain ⟨hl, hb⟩ := jY hc;have C1 := fun q c => bY (ahZ q c A (fun x hx => by
  have := hb x hx;simp [k9, ju, jv, iz, jm];omega) Z8) (R' := fun v H' => ∃ q c, v = .tuple #[.slice q A.length c, .int .i64 0] ∧ H' = [own (.slice q A.length c) 3 1 A.length (flat fI (wQ A))]) fun v H' h => by
  rcases h with⟨h1,_⟩|⟨_,h2⟩
  ·exact absurd hc h1
  ·exact h2
 have M0:=fun q c=>SO q c A hb hl
 rw[hn] at C1 M0;have hwl:=mS A;have hdr:(runs.bE A++rest).drop (runs.bE A).length=rest:=aar;have hal:(runs.bE A++rest).length=(runs.bE A).length+rest.length:=ae;generalize runs.bE A=wb at*;(refine Ye Tryz.func264 Tryz.ntmps264 ?_;intro Fr);(refine bF ?_;intro b);(refine Ca (R0) ?_;rintro _ _ ⟨_,⟨q1,c1,rfl,rfl⟩,rfl⟩;refine Da ?_);refine bM ?_;(refine Ca (C1 _ _) ?_;rintro _ _ ⟨_,⟨q2,c2,rfl,rfl⟩,rfl⟩;refine Da ?_);refine bM ?_;(refine Ca (M0 _ _) ?_;rintro _ _ ⟨_,⟨q3,c3,rfl,rfl⟩,rfl⟩;refine Da ?_);refine iC ?_;rw[vW (us:=SN q3 c3 A) (by unfold SN;rw[mN];rfl)];have zy:SN q3 c3 A=wR (.slice q3 (rQ A 15).length c3) (fA A 16) (fR A 16) (fC A):=rfl;have zx:=mN (.slice q3 (rQ A 15).length c3) (fA A 16) (fR A 16) (fC A);rw[←zy] at zx;exact Ea (x:=⟨q3,c3,rfl,rfl⟩)
end mI
namespace mI
open put code lens
theorem ajO (b:Nat) (q:Option Addr) (c:Nat) {A:List Int} (hc:dD A=0) (T:List UInt8) (hT:T.length≤100000) (k:Nat) (hk:k≤8*T.length) {x:Int} {k2:Nat} (h:code.one A T k=(x,k2,0)):Ct lk 265 [aH b 0, .string (str T), .int .i64 (k:Int)] [box b (wR (.slice q (rQ A 15).length c) (fA A 16) (fR A 16) (fC A)) 351,sl 1 (.slice q (rQ A 15).length c) ((rQ A 15).map fI)] fun v H'=>v= .tuple #[.int .i64 x, .int .i64 (k2:Int), .int .i64 0]∧H'=[box b (wR (.slice q (rQ A 15).length c) (fA A 16) (fR A 16) (fC A)) 351]:=by
 have hl:=(jY hc).1;have O:=aLF b q c (rQ A 15) (fA A 16) (fR A 16) (fC A) T k (aQY hl) (aQZ hl) (aRA A) (by have h9:=arD A 15;have:15*A.length≤15*320:=Nat.mul_le_mul_left _ hl;omega) Z8 hk;unfold code.one at h;rw[h] at O;exact O
theorem aRO (m:Mk): ∀ u∈AE m,u.oneCell'=true:=by simp [AE,a6]
attribute [local irreducible] box own sl bL aH bJ Qt cN cM dG dL eQ
attribute [local irreducible] wR dD rQ fA fR fC code.one pieces awS gZ gF yA runs.bE bits.jS bits.tJ bits.total
theorem awZ (b0:Nat) (A B:List Int) (out:List Mk) (h:abB A B out) (hA:A.length=320) (hB:B.length=9) (zf:out.length≤512):
  Ct lk 222 [aH b0 0, .int .i64 (out.length:Int)] [box b0 [.string (str (runs.bE A++(runs.bE B++bits.jS (pieces A B out)))), .bool false] 306]
   fun v H'=> ∃ q c,v= .slice q out.length c∧H'=[own (.slice q out.length c) 356 3 out.length (flat AE out),box b0 [.string (str (bits.jS (pieces A B out))), .bool false] 306]:=by
 have hpl:=KS h zf;have hw2:=mS B;have hst:=adU (zR h);have L1:=asC b0 A (runs.bE B++bits.jS (pieces A B out)) hA h.ca Zm;have L2:=asC b0 B (bits.jS (pieces A B out)) hB h.cb Z8;have zu:=h.ca;have zm:=h.cb;have OA:=fun b q c k hk x k2 h=>ajO b q c zu (bits.jS (pieces A B out)) Z8 k hk (x:=x) (k2:=k2) h
 have OB:=fun b q c k hk x k2 h=>ajO b q c zm (bits.jS (pieces A B out)) Z8 k hk (x:=x) (k2:=k2) h
 have FR:=fun k=>aME (bits.jS (pieces A B out)) k
 have NX:=fun w k a t h1 h2=>aMD w k a t (bits.jS (pieces A B out)) h1 h2 Z8
 unfold rdE aFG at FR;unfold rdE at NX;unfold SN at L1 L2;generalize bits.jS (pieces A B out)=T at*;generalize runs.bE A=w1 at*;generalize runs.bE B=w2 at*;(refine Ye Tryz.func222 Tryz.ntmps222 ?_;intro Fr);refine bM ?_;(refine Ca (L1) ?_;rintro _ _ ⟨_,⟨q1,c1,rfl,rfl⟩,rfl⟩;refine Da ?_);refine aN (bB (f:=fI) (ys:=rQ A 15) aU (fun _=>rfl) rfl) ?_;(repeat' (first|(refine Wb ?_;intro b)|fail));refine dC wt (dR rfl rfl rfl aU (mN ..) ZS ?_ (vW ZS)) ?_
 ·unfold wR;simp [a6]
 rintro _ _ ⟨rfl,rfl⟩;refine bM ?_;obtain⟨b1,ze⟩: ∃ x,x=b:=⟨_,rfl⟩;subst ze;(refine Ca (L2) ?_;rintro _ _ ⟨_,⟨q2,c2,rfl,rfl⟩,rfl⟩;refine Da ?_);refine aN (bB (f:=fI) (ys:=rQ B 15) aU (fun _=>rfl) rfl) ?_;(repeat' (first|(refine Wb ?_;intro b)|fail));refine dC wt (dR rfl rfl rfl aU (mN ..) ZS ?_ (vW ZS)) ?_
 ·unfold wR;simp [a6]
 rintro _ _ ⟨rfl,rfl⟩;refine bM ?_;obtain⟨b2,zb⟩: ∃ x,x=b:=⟨_,rfl⟩;subst zb;clear L1 L2;refine aO (aS _ 356 3) ?_;(refine aC (σ:=Nat×Nat×Option Addr×Nat) (fun x=>x.1≤out.length∧gE T x.2.1 (pieces A B (out.drop x.1))) (fun x=>[(27, .int .i64 (x.1:Int)),(7, .int .i64 (x.2.1:Int)),(8, .slice x.2.2.1 x.1 x.2.2.2)]) (fun x=>[own (.slice x.2.2.1 x.1 x.2.2.2) 356 3 x.1 (flat AE (out.take x.1)),box b1 (wR (.slice q1 (rQ A 15).length c1) (fA A 16) (fR A 16) (fC A)) 351,box b2 (wR (.slice q2 (rQ B 15).length c2) (fA B 16) (fR B 16) (fC B)) 351]) _ (fun x=>out.length-x.1) ((0,0,none,0)) (by exact⟨fe _,hst⟩) Ze Zb (fun⟨i,k,q3,c3⟩ ⟨hi,hk⟩=> ?_);refine Da ?_);dsimp only at hi hk;have zl:k≤8*T.length:=by have:=hk.fits;omega
 rcases dW out i with⟨m,hm,hlt⟩|hge
 ·have zx:=jg hm;have zk:=h.ok m zx;have za:out.drop i=m::out.drop (i+1):=by
   rw[List.drop_eq_getElem_cons hlt,(List.getElem?_eq_some_iff.1 hm).2]
  have zw:(out.take i).length=i:=by rw[ar];omega
  have zj:out.take (i+1)=out.take i++[m]:=by rw[ib,hm];rfl
  rw[za,NL] at hk;have hone: ∀ y, ∀ u∈AE y,u.oneCell'=true:=aRO;by_cases h0:m.1=0
  ·have zv:yA A B m=[jK A (gZ m)]:=by unfold yA;rw[Jg h0]
   rw[zv] at hk;obtain⟨w,g1,g2,g3⟩:=yB zu (h.hx m zx) hk;obtain⟨x,hx,hx255⟩: ∃ x:Nat,m=(0,0,(x:Int))∧x≤255:=by
    obtain⟨m1,m2,m3⟩:=m;rcases zk with⟨e1,e2,e3,e4⟩|⟨e1,_⟩
    ·dsimp only at e1 e2 e3 e4;subst e1 e2;exact⟨m3.toNat,by rw[aer e3],Z8⟩
    ·dsimp only at e1 h0;omega
   have zt:((gZ m:Nat):Int)=(x:Int):=by rw[hx];unfold gZ;rw[Jg rfl];rfl
   rw[zt] at g1;have O1:=OA b1 q1 c1 k zl _ _ g1;clear OA OB hk hst;refine bM ?_;(refine Ca (O1) ?_;rintro _ _ ⟨_,⟨rfl,rfl⟩,rfl⟩;refine Da ?_);(refine mW ?_;intro q);refine aL wt Jb (by first|exact Ma (AE) [((0,0,(x:Int)):Mk)] rfl|exact Mb (AE) [((0,0,(x:Int)):Mk)] rfl) ?_;rintro _ _ ⟨q6,c6,rfl,rfl⟩;have zr:(out.take i++[((0,0,(x:Int)):Mk)]).length=i+1:=by rw[ae,gk,zw]
   rw[zr, ←hx, ←zj];refine iC ?_;refine Ee ((i+1,k+w,q6,c6)) ?_ ?_
   ·exact⟨hlt,g3⟩
   ·show out.length-(i+1)<out.length-i;omega
  ·obtain⟨hn1,hn2,zh,zg,hz⟩:3≤m.1∧m.1≤66∧1≤m.2.1∧m.2.1≤511∧m.2.2=0:=by
    rcases zk with⟨e1,_⟩|e
    ·exact absurd e1 h0
    ·exact e
   have zv:yA A B m=[jK A (gZ m),jK B (gF m.2.1),(arZ m.2.1,(gF m.2.1:Int))]:=by unfold yA;rw[Jf h0]
   rw[zv] at hk;obtain⟨w,g1,g2,g3⟩:=yB zu (h.hx m zx) hk;obtain⟨v,f1,f2,f3⟩:=yB zm (h.hy m zx h0) g3;obtain⟨r,r1,r2,r3⟩:=asA zh zg;obtain⟨hy9,_⟩:=wD zh zg;have zq:kx.wrap (1*2^gF m.2.1)=((2^gF m.2.1:Nat):Int):=by
    have hp:2^gF m.2.1≤2^9:=mr Z9 Z8;rw[aes,show ((2:Int)^gF m.2.1)=((2^gF m.2.1:Nat):Int) by simp];exact tC Z8
   rw[r1] at f3;obtain⟨j1,j2,j3⟩:=NM f3 r2;have zy:awS T (k+w+v) (gF m.2.1)=r:=by unfold awS;exact j1
   obtain⟨n,hn⟩:=adg (by omega:0≤m.1);have zt:((gZ m:Nat):Int)=(253:Int)+(n:Int):=by unfold gZ;rw[Jf h0,hn];simp
   have zn:m=((n:Int),((2^gF m.2.1:Nat):Int)+(r:Int),0):=by
    obtain⟨m1,m2,m3⟩:=m;dsimp only at hn hz r3 ⊢;exact aet hn (aet Zn hz)
   rw[zt] at g1;have O1:=OA b1 q1 c1 k zl _ _ g1;have O2:=OB b2 q2 c2 (k+w) g2 _ _ f1;have NX:=NX (gF m.2.1) (k+w+v);rw[zy] at NX;generalize gF m.2.1=y at*;have hp:2^y≤2^9:=mr Z9 Z8;generalize hpw:2^y=pw at*;clear OA OB hk hst g1 f1 g3 f3 j1 zy r3 zv;refine bM ?_;(refine Ca (O1) ?_;rintro _ _ ⟨_,⟨rfl,rfl⟩,rfl⟩;refine Da ?_);refine bM ?_;(refine Ca (O2) ?_;rintro _ _ ⟨_,⟨rfl,rfl⟩,rfl⟩;refine Da ?_);refine kB ?_;(refine aD (Hq:=[_]) [4] [] rfl Jd Za ?_);refine jV ?_;(refine aB 5 ?_;refine bN _ rfl rfl wt Je kA rfl (eD.UA (m:=y) rfl rfl rfl rfl Z8 zq) ?_);refine jV ?_;(refine Cc 11 (FR _) ?_;rintro _ _ ⟨_,⟨ra,rt,rfl,rfl⟩,rfl⟩;refine Te ?_;(try refine Da ?_));refine jV ?_;(refine aB 13 ?_;refine jH _ Jb Jb Jd wt Jb (pG rfl rfl rfl (NX ra rt Z8 Z8) rfl wY) ?_;rintro _ _ ⟨_,⟨rfl,rfl⟩,rfl⟩;refine⟨(by first|exact fun h=>absurd h Z9|exact fun _=>kA), ?_⟩;(try dsimp only[dw,List.nil_append]));refine jV ?_;rw[show (253:Int)+(n:Int)-256+3=(n:Int) by omega];(refine aB 17 ?_;refine Oa (l:=by exact aT rfl rfl rfl Zp rfl rfl Z9 rfl) (k:= ?_);rintro _ _ ⟨q8,rfl,rfl⟩;refine Te ?_;(try refine Da ?_));(refine aB 18 ?_;refine Oa (l:=by exact (by first|exact Ma (AE) [(((n:Int),(pw:Int)+(r:Int),0):Mk)] rfl|exact Mb (AE) [(((n:Int),(pw:Int)+(r:Int),0):Mk)] rfl)) (k:= ?_);rintro _ _ ⟨q6,c6,rfl,rfl⟩;refine Te ?_;(try refine Da ?_));have zr:(out.take i++[(((n:Int),(pw:Int)+(r:Int),0):Mk)]).length=i+1:=by rw[ae,gk,zw]
   rw[zr, ←zn, ←zj];refine sO ?_;refine Ee ((i+1,k+w+v+y,q6,c6)) ?_ ?_
   ·exact⟨hlt,j3⟩
   ·show out.length-(i+1)<out.length-i;omega
 ·have z8:i=out.length:=Z8
  subst z8;rw[List.drop_length,show pieces A B []=[] from by unfold pieces;rfl] at hk;obtain⟨e1,e2,e3⟩:=anT hk;have zw:out.take out.length=out:=List.take_length;rw[zw];obtain⟨lf,hlf⟩: ∃ lf:Nat,8*T.length=k+lf:=⟨8*T.length-k,Z8⟩;have z7:(8:Int)*(T.length:Int)-(k:Int)=(lf:Int):=Z8
  have zy:awS T k lf=0:=by unfold awS;rw[e1,Nat.zero_mod]
  have NX:=NX lf k;rw[zy] at NX;clear OA OB hk hst e1 zy;rcases Nat.eq_zero_or_pos lf with hz|hz
  ·refine bM ?_;exact Ea (x:=⟨q3,c3,rfl,rfl⟩)
  ·refine bM ?_;(refine Ca (FR _) ?_;rintro _ _ ⟨_,⟨ra,rt,rfl,rfl⟩,rfl⟩;refine Da ?_);refine iC ?_;rw[z7];refine aL wt rfl (pG rfl rfl rfl (NX ra rt Z8 Z8) rfl wY) ?_;rintro _ _ ⟨_,⟨rfl,rfl⟩,rfl⟩;refine Da ?_;refine bM ?_;exact Ea (x:=⟨q3,c3,rfl,rfl⟩)
theorem axA (c:Nat) (hc:c≤1000000):Ct lk 221 [.string (str [0]), .int .i64 (c:Int)] [] fun v H'=>v= .string (str (du c 0))∧H'=[]:=
 bK fun w _=>by
  have h:=Tryz.strings_Repeat (str [0]) c w Z8 (by show 1*c≤_;omega);have e:Lib.repeatL (str [0]).data.toList c=du c 0:=by
   show Lib.repeatL [0] c=_;clear h;induction c with
   |zero=>rfl
   |succ c ih=>show 0::Lib.repeatL [0] c=_;rw[ih Z8];rfl
  rw[e] at h;exact h
end mI
namespace mI
open put code
theorem abG: ∀ {O:List Int},(∀ o∈O,0≤o∧o≤15)→runs.jB O=false
 |[],_=>rfl
 |o::O,h=>by
  have h1:=h o bu;rw[runs.jB,Jf Z8];exact abG fun x hx=>h x (a8 _ hx)
theorem aFQ {x:Int} (h:0≤x∧x≤15):(Lit.int .i64 x).wf=true:=by
 simp [k9,ju,jv,iz,jm];omega
theorem aPM (q:Option Addr) (c:Nat) (xs:List Int) {n:Nat} (hn:xs.length=n) (h:lens.dD xs=0):Ct lk 307 [.slice q n c] [sl 1 (.slice q n c) (xs.map fI)] fun v H'=>v= .tuple #[.string (str (runs.bE xs)), .int .i64 0]∧H'=[]:=by
 obtain⟨h1,h2⟩:=jY h;have e:runs.gC xs=0:=by unfold runs.gC;rw[Jf Z8,abG h2,Jf Z9]
 refine bK fun W hW=>(runs.kJ _ xs W (hW.head:bX W 1 _ (xs.map fI)) (fun x hx=>aFQ (h2 x hx)) Z8).mono fun e' w' ⟨h3,h4⟩=>⟨?_,h4⟩
 rw[h3,e,runs.fL,Jg e];rfl
theorem aMM (q:Option Addr) (c:Nat) (xs:List (Int×Int)) (h: ∀ p∈xs, ∃ a v:Nat,a<2^v∧v≤15∧p=((a:Int),(v:Int))) (he:bits.kV xs=0) (hn:xs.length≤100000000000000000):Ct lk 308 [.slice q xs.length c] [sl 2 (.slice q xs.length c) (xs.map OH)] fun v H'=>v= .tuple #[.string (str (bits.jS xs)), .int .i64 0]∧H'=[]:=by
 refine bK fun W hW=>(bits.aDX _ xs W (hW.head:bX W 2 _ (xs.map OH)) (fun p hp=> ?_) hn).mono fun e' w' ⟨h3,h4⟩=>⟨?_,h4⟩
 ·obtain⟨a,v,h1,h2,rfl⟩:=h p hp;have h3:2^v≤2^15:=mr Z9 h2;refine⟨?_,aFQ ⟨Z8,Z8⟩⟩;simp [k9,ju,jv,iz,jm];omega
 ·rw[h3,he,bits.NB,Jg he];rfl
theorem aRP (n:Nat) (h:n<1000000):Ct lk 243 [.int .u64 (n:Int)] [] fun v H'=>v= .int .i64 (Lib.bitLen n:Int)∧H'=[]:=
 bK fun W _=>(Tryz.bits_Len (n:Int) W Z8 Z8).mono fun e' w' ⟨h1,h2⟩=>⟨by rw[h1,dc],by rw[h2];exact Below.refl _ _⟩
def uR (m:Mk):Int:=if m.1=0 then -1 else (gF m.2.1:Int)
attribute [local irreducible] box own sl bL aH bJ Qt cN cM dG dL eQ
theorem axB (b:Int) (h0:0≤b) (h1:b≤255):Ct lk 304 [.agg #[.int .i64 0, .int .i64 0, .int .u8 b]] [] fun v H'=>v= .tuple #[.int .i64 b, .int .i64 (-1)]∧H'=[]:=by
 (refine Ye Tryz.func304 Tryz.ntmps304 ?_;intro Fr);(refine bF ?_;intro b);exact Ea (x:=⟨rfl,rfl⟩)
theorem axC (n d:Nat) (h0:3≤n) (h1:n≤66) (h2:1≤d) (h3:d≤511):Ct lk 304 [.agg #[.int .i64 (n:Int), .int .i64 (d:Int), .int .u8 0]] [] fun v H'=>v= .tuple #[.int .i64 ((253+n:Nat):Int), .int .i64 (gF (d:Int):Int)]∧H'=[]:=by
 have L0:=aRP d Z8;obtain⟨a1,a2,a3,a4⟩:=wD (d:=(d:Int)) Z8 Z8;rw[dc] at a2;generalize Lib.bitLen d=bl at*;generalize gF (d:Int)=y at*;have e1:(256:Int)+(n:Int)-3=((253+n:Nat):Int):=Z8
 (refine Ye Tryz.func304 Tryz.ntmps304 ?_;intro Fr);(repeat' (first|refine Y1 ?_|(refine Wb ?_;intro b)|refine Wc (L0 ..) ?_|fail));exact Ea (x:=⟨by rw[e1,a2],rfl⟩)
theorem asF {m:Mk} (h:KR m):Ct lk 304 [.agg (AE m).toArray] [] fun v H'=>v= .tuple #[.int .i64 (gZ m:Int), .int .i64 (uR m)]∧H'=[]:=by
 obtain⟨n,d,b⟩:=m;rcases h with⟨h1,h2,h3,h4⟩|⟨h1,h2,h3,h4,h5⟩
 ·dsimp only at h1 h2 h3 h4;subst h1;subst h2;have e:((gZ (0,0,b):Nat):Int)=b:=by unfold gZ;rw[Jg rfl];exact aer h3
  have e2:uR (0,0,b)= -1:=by unfold uR;rw[Jg rfl]
  rw[e,e2];exact axB b h3 h4
 ·dsimp only at h1 h2 h3 h4 h5;subst h5;obtain⟨n,rfl⟩:=adg (by omega:0≤n);obtain⟨d,rfl⟩:=adg (by omega:0≤d);have e:gZ ((n:Int),(d:Int),0)=253+n:=by unfold gZ;rw[Jf Zn];rfl
  have e2:uR ((n:Int),(d:Int),0)=(gF (d:Int):Int):=by unfold uR;rw[Jf Zn]
  rw[e,e2];exact axC n d Z8 Z8 Z8 Z8
theorem asG (q:Option Addr) (c:Nat) (F:List Int) (n:Nat) (hn:F.length=n) (hg:eD.gA F):Ct lk 305 [.slice q n c] [sl 1 (.slice q n c) (F.map fI)] fun v H'=> ∃ q' c',v= .slice q' n c'∧H'=[own (.slice q' n c') 3 1 n (flat fI (eD.kW F 15))]:=by
 have h:=zQ hg;have LN:=eD.aFA q c F 15 (by have:=hg.1;omega);rw[hn] at LN;have LN:Ct lk 339 [.slice q n c, .int .i64 15] [sl 1 (.slice q n c) (F.map fI)] fun v H'=> ∃ q' c',v= .tuple #[.slice q' n c', .int .i64 0]∧H'=[own (.slice q' n c') 3 1 n (flat fI (eD.kW F 15))]:=alX LN fun v H' h2=>by
  rcases h2 with⟨_,h3⟩|⟨h3,_⟩
  ·rw[hn] at h3;exact h3
  ·exact absurd h h3
 clear h;(refine Ye Tryz.func305 Tryz.ntmps305 ?_;intro Fr);refine bM ?_;(refine Ca (LN) ?_;rintro _ _ ⟨_,⟨q1,c1,rfl,rfl⟩,rfl⟩;refine Da ?_);refine bM ?_;exact Ea (x:=⟨q1,c1,rfl,rfl⟩)
theorem qW {α:Type} {l:List α} {k:Nat} {x:α} (h:l[k]? =some x):l.take (k+1)=l.take k++[x]:=by
 rw[ib,h];rfl
theorem asH (q:Option Addr) (c:Nat) (A:List Int) {n:Nat} (hn:A.length=n) (hc:lens.dD A=0) {x:Nat} (hx:code.SQ A (x:Int)) (qs:Option Addr) (cs:Nat):Ct lk 306 [.slice q n c, .slice qs 1 cs] [sl 1 (.slice q n c) (A.map fI),sl 1 (.slice qs 1 cs) ([(x:Int)].map fI)] fun v H'=> ∃ q2 c2,v= .tuple #[.slice q2 1 c2, .int .i64 0]∧H'=[own (.slice q2 1 c2) 394 2 1 (flat OH [code.jK A (x:Int)])]:=by
 obtain⟨h1,h2⟩:=jY hc;have W0:=code.kJ q qs c cs A [(x:Int)] (fun x hx=>aFQ (h2 x hx)) Z8 (by show 1≤1000000;decide);have e:code.rR A [(x:Int)]=([code.jK A (x:Int)],0):=by
  unfold code.rR;rw[Jg hc,code.wrF,Jg hx,code.wrF];rfl
 rw[e,hn] at W0;exact W0
theorem yD (p:Int×Int): ∀ u∈OH p,u.oneCell'=true:=by simp [OH,a6]
theorem anZ (s:List UInt8) (hs:s.length≤512):Ct lk 260 [.string (str s)] [] fun v H'=> ∃ out,lz.Found s out∧v= .string (str (lR s out))∧H'=[]:=by
 have F0:=lz.aML s hs;(refine Ye Tryz.func260 Tryz.ntmps260 ?_;intro Fr);refine kB ?_;(refine Ca (F0) ?_;rintro _ _ ⟨_,⟨out,q1,c1,hF,rfl,rfl⟩,rfl⟩;refine Da ?_);have zq:=UF out [] s hF.2.1 hF.1;have zv:=hF.2.2.1;have zy:=ajJ zq zv;refine kB ?_;refine qH 0 (σ:=Option Addr×Option Addr) (fun _=>True) (fun x=>[(5, .slice x.1 320 320),(6, .slice x.2 9 9)]) (fun x=>[own (.slice x.1 320 320) 3 1 320 (flat fI (uQ (out.take 0))),own (.slice x.2 9 9) 3 1 9 (flat fI (rV (out.take 0)))]) ?_ ?_<;>dsimp only[adq]
 ·rw[show uQ (out.take 0)=du 320 (0:Int) from (nA 320).symm,show rV (out.take 0)=du 9 (0:Int) from (nA 9).symm];(refine aD (Hq:=[]) [] [] rfl Jd Za ?_);(refine aB 0 ?_;refine cD 1 Jd ?_ ?_)
  ·(refine Oc (l:=by exact (dH (fI) (0) (c:=320) rfl rfl rfl Zf Zf rfl rfl Z8 Zi)) (k:= ?_);rintro _ _ ⟨q3,rfl,rfl⟩;refine Te ?_;(try refine Da ?_));refine jV ?_;(refine aB 1 ?_;refine Oa (l:=by exact (dH (fI) (0) (c:=9) rfl rfl rfl Zf Zf rfl rfl Z8 Zi)) (k:= ?_);rintro _ _ ⟨q4,rfl,rfl⟩;refine Te ?_;(try refine Da ?_));refine Yw7 ?_;exact sL ((q3,q4)) ZT (kP.of fsa) MN
  ·(refine Oc (l:=by exact (dH (fI) (0) (c:=9) rfl rfl rfl Zf Zf rfl rfl Z8 Zi)) (k:= ?_);rintro _ _ ⟨q4,rfl,rfl⟩;refine Te ?_;(try refine Da ?_));refine jV ?_;(refine aB 0 ?_;refine Oa (l:=by exact (dH (fI) (0) (c:=320) rfl rfl rfl Zf Zf rfl rfl Z8 Zi)) (k:= ?_);rintro _ _ ⟨q3,rfl,rfl⟩;refine Te ?_;(try refine Da ?_));refine Yw7 ?_;exact sL ((q3,q4)) ZT (kP.of fsa) MN
 rintro⟨q3,q4⟩ _;refine Da ?_;refine kB ?_;(refine aC (σ:=Nat) (fun k=>k≤out.length) (fun k=>[(35, .int .i64 (k:Int))]) (fun k=>[own (.slice q3 320 320) 3 1 320 (flat fI (uQ (out.take k))),own (.slice q4 9 9) 3 1 9 (flat fI (rV (out.take k)))]) _ (fun k=>out.length-k) (0) Zx Ze Zb (fun k hk=> ?_);refine Da ?_);rcases dW out k with⟨m,hm,hlt⟩|zn
 ·have zw:=zq m (jg hm);have S0:=asF zw;have hx:=ajG zw;have hax:(uQ (out.take k))[gZ m]? =some ((XJ (out.take k) (gZ m):Nat):Int):=eG _ hx;have za:=PI (out.take k) (gZ m);rw[ar] at za;have zm:(uQ (out.take k)).length=320:=kC _ _;have zg:(uQ (out.take k)).set (gZ m) (((XJ (out.take k) (gZ m):Nat):Int)+1)=uQ (out.take (k+1)):=by
   rw[qW hm];unfold uQ;rw[awP];exact iD _ _ hx
  by_cases h0:m.1=0
  ·have zx:uR m= -1:=by unfold uR;rw[Jg h0]
   have zl:rV (out.take (k+1))=rV (out.take k):=by
    rw[qW hm];unfold rV;rw[awR _ _ h0]
   rw[zx] at S0;generalize XJ (out.take k) (gZ m)=cx at*;(repeat' (first|refine Y3 ?_|(refine Wb ?_;intro b)|refine Wc (S0 ..) ?_|fail));(refine dC wt (aI (f:=fI) (q':=(cx:Int)+1) rfl rfl rfl rfl Zk rfl Z8 Zg Jc rfl rfl Jb) ?_;rintro _ _ ⟨rfl,rfl⟩);rw[zg, ←zl];refine bM ?_;refine Ee (k+1) ?_ ?_
   ·exact hlt
   ·show out.length-(k+1)<out.length-k;omega
  ·have zx:uR m=((gF m.2.1:Nat):Int):=by unfold uR;rw[Jf h0]
   have zu:gF m.2.1<9:=by
    rcases zw with⟨h1,_⟩|⟨h1,h2,h3,h4,_⟩
    ·exact absurd h1 h0
    ·exact (wD h3 h4).1
   have hay:(rV (out.take k))[gF m.2.1]? =some ((OM (out.take k) (gF m.2.1):Nat):Int):=eG _ zu;have z8:=PJ (out.take k) (gF m.2.1);rw[ar] at z8;have zl:(rV (out.take k)).set (gF m.2.1) (((OM (out.take k) (gF m.2.1):Nat):Int)+1)=rV (out.take (k+1)):=by
    rw[qW hm];unfold rV;rw[awQ _ _ h0];exact iD _ _ zu
   rw[zx] at S0;generalize XJ (out.take k) (gZ m)=cx at*;generalize OM (out.take k) (gF m.2.1)=cy at*;generalize gF m.2.1=y at*;(repeat' (first|refine Y3 ?_|(refine Wb ?_;intro b)|refine Wc (S0 ..) ?_|fail));(refine dC wt (aI (f:=fI) (q':=(cx:Int)+1) rfl rfl rfl rfl Zk rfl Z8 Zg Jc rfl rfl Jb) ?_;rintro _ _ ⟨rfl,rfl⟩);rw[zg];refine bM ?_;(refine dC wt (aI (f:=fI) (q':=(cy:Int)+1) rfl rfl rfl rfl Zk rfl Z8 Zg Jc rfl rfl Jb) ?_;rintro _ _ ⟨rfl,rfl⟩);rw[zl];refine iC ?_;refine Ee (k+1) ?_ ?_
   ·exact hlt
   ·show out.length-(k+1)<out.length-k;omega
 ·rw[bd zn];have hX:eD.gA (uQ out):=good_row Z9 fun i=>gm (PI out i) zv
  have hY:eD.gA (rV out):=good_row Z9 fun i=>gm (PJ out i) zv
  have zm:320=(uQ out).length:=(kC _ _).symm;have zu:9=(rV out).length:=(kC _ _).symm;have BX:=asG q3 320 (uQ out) 320 zm.symm hX;have BY:=asG q4 9 (rV out) 9 zu.symm hY;have eA:eD.kW (uQ out) 15=la out:=rfl;have eB:eD.kW (rV out) 15=lb out:=rfl;have zf:320=(la out).length:=by rw[←eA,eD.uP];exact zm
  have ze:9=(lb out).length:=by rw[←eB,eD.uP];exact zu
  rw[eA] at BX;rw[eB] at BY;have z7:lR s out=2::put.cY s.length++put.cY out.length++runs.bE (la out)++runs.bE (lb out)++bits.jS (pieces (la out) (lb out) out):=rfl;have yz:=aMA zy zv;have yx:=zR zy;generalize la out=A at*;generalize lb out=B at*;clear eA eB;refine kB ?_;(refine Ca (BX) ?_;rintro _ _ ⟨_,⟨qa,ca,rfl,rfl⟩,rfl⟩;refine Da ?_);refine iC ?_;(refine Ca (BY) ?_;rintro _ _ ⟨_,⟨qb,cb,rfl,rfl⟩,rfl⟩;refine Da ?_);refine kB ?_;refine aO (aS _ 394 2) ?_;(refine aC (σ:=Nat×Option Addr×Nat×List (Int×Int)) (fun x=>x.1≤out.length∧x.2.2.2=pieces A B (out.take x.1)) (fun x=>[(65, .int .i64 (x.1:Int)),(13, .slice x.2.1 x.2.2.2.length x.2.2.1)]) (fun x=>[own (.slice x.2.1 x.2.2.2.length x.2.2.1) 394 2 x.2.2.2.length (flat OH x.2.2.2)]) _ (fun x=>out.length-x.1) ((0,none,0,[])) ZD Ze Zb (fun⟨i,qp,cp,P⟩ ⟨hi,hP⟩=> ?_);refine Da ?_);dsimp only at hi hP;have hPl:P.length≤3*i:=by
   have:=wE A B (out.take i);rw[←hP,ar] at this;omega
  rcases dW out i with⟨m,hm,hlt⟩|zn
  ·have zk:=jg hm;have zw:=zq m zk;have S0:=asF zw;have WX:=fun q c=>asH qa ca A zf.symm zy.ca (zy.hx m zk) q c
   have zt:pieces A B (out.take (i+1))=P++yA A B m:=by
    rw[qW hm,anS, ←hP];exact congrArg _ (ke _)
   by_cases h0:m.1=0
   ·have zx:uR m= -1:=by unfold uR;rw[Jg h0]
    have zj:yA A B m=[jK A (gZ m)]:=by unfold yA;rw[Jg h0]
    rw[zx] at S0;rw[zj] at zt;generalize jK A (gZ m)=pa at*;(repeat' (first|refine Y3 ?_|(refine Wb ?_;intro b)|(refine Wq ?_;intro q)|refine Wc (S0 ..) ?_|fail));(refine Ca (WX _ _) ?_;rintro _ _ ⟨_,⟨q5,c5,rfl,rfl⟩,rfl⟩;refine Da ?_);refine bM ?_;refine aN (bB (f:=OH) (ys:=[pa]) aU (fun _=>rfl) rfl) ?_;(refine aL wt rfl (jA (cnt:=0) (f:=OH) (ys:=[pa]) rfl rfl rfl aU aU Zg yD rfl (by show (P.length+1)*16≤_;omega) (by show P.length+1≤maxLen;unfold maxLen;omega)) ?_;rintro _ _ ⟨q6,c6,rfl,rfl⟩);rw[←eD.pK,show P.length+[pa].length=(P++[pa]).length from (ae).symm];rw[←zt];refine bM ?_;refine Ee ((i+1,q6,c6,pieces A B (out.take (i+1)))) ?_ ?_
    ·exact⟨hlt,rfl⟩
    ·show out.length-(i+1)<out.length-i;omega
   ·have zx:uR m=((gF m.2.1:Nat):Int):=by unfold uR;rw[Jf h0]
    obtain⟨yv,yu⟩:1≤m.2.1∧m.2.1≤511:=by
     rcases zw with⟨h1,_⟩|⟨h1,h2,h3,h4,_⟩
     ·exact absurd h1 h0
     ·exact⟨h3,h4⟩
    obtain⟨hy1,_,hy3,hy4⟩:=wD yv yu;have zj:yA A B m=[jK A (gZ m),jK B (gF m.2.1),(m.2.1-((2^gF m.2.1:Nat):Int),(gF m.2.1:Int))]:=by unfold yA;rw[Jf h0];rfl
    have WY:=fun q c=>asH qb cb B ze.symm zy.cb (zy.hy m zk h0) q c
    have zh:kx.wrap (1*2^gF m.2.1)=((2^gF m.2.1:Nat):Int):=by
     rw[aes,show ((2:Int)^gF m.2.1)=((2^gF m.2.1:Nat):Int) by simp];exact tC Z8
    rw[zx] at S0;rw[zj] at zt;generalize jK A (gZ m)=pa at*;generalize jK B (gF m.2.1)=pb at*;generalize gF m.2.1=y at*;generalize 2^y=w at*;(repeat' (first|refine Y3 ?_|(refine Wb ?_;intro b)|(refine Wq ?_;intro q)|refine Wc (S0 ..) ?_|fail));(refine Ca (WX _ _) ?_;rintro _ _ ⟨_,⟨q5,c5,rfl,rfl⟩,rfl⟩;refine Da ?_);refine bM ?_;refine aN (bB (f:=OH) (ys:=[pa]) aU (fun _=>rfl) rfl) ?_;(refine aL wt rfl (jA (cnt:=0) (f:=OH) (ys:=[pa]) rfl rfl rfl aU aU Zg yD rfl (by show (P.length+1)*16≤_;omega) (by show P.length+1≤maxLen;unfold maxLen;omega)) ?_;rintro _ _ ⟨q6,c6,rfl,rfl⟩);rw[←eD.pK,show P.length+[pa].length=(P++[pa]).length from (ae).symm];(refine mW ?_;intro q);(refine Ca (WY _ _) ?_;rintro _ _ ⟨_,⟨q7,c7,rfl,rfl⟩,rfl⟩;refine Da ?_);refine iC ?_;refine aO (bB (f:=OH) (ys:=[pb]) aU (fun _=>rfl) rfl) ?_;obtain⟨P2,zr⟩: ∃ P2,P2=P++[pa]++[pb]:=⟨_,rfl⟩;have hP2l:P2.length=P.length+2:=by rw[zr,ae,ae];rfl
    have zb:P2++[(m.2.1-(w:Int),(y:Int))]=P++[pa,pb,(m.2.1-(w:Int),(y:Int))]:=by rw[zr];simp
    have hone: ∀ y, ∀ u∈OH y,u.oneCell'=true:=yD;(refine aD (Hq:=[_]) [5] [] rfl Jd Za ?_);refine jV ?_;(refine aB 6 ?_;refine bN _ rfl rfl wt Je kA rfl (eD.UA (m:=y) rfl rfl rfl rfl Z8 zh) ?_);refine jV ?_;(refine aB 2 ?_;refine cD 11 Jd ?_ ?_)
    ·(refine Oc (l:=by exact (jA (cnt:=0) (f:=OH) (ys:=[pb]) rfl rfl rfl aU aU Zg yD rfl (by show ((P++[pa]).length+1)*16≤_;rw[ae,gk];omega) (by show (P++[pa]).length+1≤maxLen;rw[ae,gk];unfold maxLen;omega))) (k:= ?_);rintro _ _ ⟨q9,c9,rfl,rfl⟩;refine Te ?_;(try refine Da ?_));rw[←eD.pK,show (P++[pa]).length+[pb].length=(P++[pa]++[pb]).length from (ae).symm, ←zr];(refine aB 11 ?_;refine Oa (l:=by exact aT rfl rfl rfl Zp rfl rfl Z9 rfl) (k:= ?_);rintro _ _ ⟨q8,rfl,rfl⟩;refine Te ?_;(try refine Da ?_));(refine aB 12 ?_;refine Oa (l:=by exact (by first|exact Ma (OH) [((m.2.1-(w:Int),(y:Int)))] rfl|exact Mb (OH) [((m.2.1-(w:Int),(y:Int)))] rfl)) (k:= ?_);rintro _ _ ⟨q10,c10,rfl,rfl⟩;refine Te ?_;(try refine Da ?_));rw[zb, ←zt];refine sO ?_;refine Ee ((i+1,q10,c10,pieces A B (out.take (i+1)))) ?_ ?_
     ·exact⟨hlt,rfl⟩
     ·show out.length-(i+1)<out.length-i;omega
    ·(refine Oc (l:=by exact aT rfl rfl rfl Zp rfl rfl Z9 rfl) (k:= ?_);rintro _ _ ⟨q8,rfl,rfl⟩;refine Te ?_;(try refine Da ?_));(refine aB 2 ?_;refine Oa (l:=by exact (jA (cnt:=0) (f:=OH) (ys:=[pb]) rfl rfl rfl aU aU Zg yD rfl (by show ((P++[pa]).length+1)*16≤_;rw[ae,gk];omega) (by show (P++[pa]).length+1≤maxLen;rw[ae,gk];unfold maxLen;omega))) (k:= ?_);rintro _ _ ⟨q9,c9,rfl,rfl⟩;refine Te ?_;(try refine Da ?_));rw[←eD.pK,show (P++[pa]).length+[pb].length=(P++[pa]++[pb]).length from (ae).symm, ←zr];(refine aB 12 ?_;refine Oa (l:=by exact (by first|exact Ma (OH) [((m.2.1-(w:Int),(y:Int)))] rfl|exact Mb (OH) [((m.2.1-(w:Int),(y:Int)))] rfl)) (k:= ?_);rintro _ _ ⟨q10,c10,rfl,rfl⟩;refine Te ?_;(try refine Da ?_));rw[zb, ←zt];refine sO ?_;refine Ee ((i+1,q10,c10,pieces A B (out.take (i+1)))) ?_ ?_
     ·exact⟨hlt,rfl⟩
     ·show out.length-(i+1)<out.length-i;omega
  ·rw[bd zn] at hP;subst hP;have RA:=fun q c=>aPM q c A zf.symm zy.ca
   have RB:=fun q c=>aPM q c B ze.symm zy.cb
   have PK:=fun q c=>aMM q c (pieces A B out) yx yz Z8
   have P1:=xK s.length Z8;have P2:=xK out.length Z8;have l1:=sW s.length;have l2:=sW out.length;have l3:=mS A;have l4:=mS B;have l5:=KS zy zv;generalize put.cY s.length=b1 at*;generalize put.cY out.length=b2 at*;generalize runs.bE A=b3 at*;generalize runs.bE B=b4 at*;generalize bits.jS (pieces A B out)=b5 at*;(repeat' (first|refine Y3 ?_|refine Wc (RA ..) ?_|refine Wc (RB ..) ?_|refine Wc (PK ..) ?_|refine Wc (P1 ..) ?_|refine Wc (P2 ..) ?_|fail));exact Ea (x:=⟨out,hF,by rw[z7];rfl,rfl⟩)
end mI
namespace mI
open put
def XM (s:List UInt8):List UInt8:=1::put.cY s.length++s
def aMN (s:List UInt8):Prop:= ∀ b∈s,b=0
def tL (s t:List UInt8):Prop:=(aMN s∧t=0::put.cY s.length)∨
 (¬ aMN s∧ ∃ out,lz.Found s out∧((lR s out).length<(XM s).length∧t=lR s out∨ ¬ (lR s out).length<(XM s).length∧t=XM s))
theorem UK {s:List UInt8}:aMN s↔s.count 0=s.length:=by
 rw[List.count_eq_length];exact⟨fun h b hb=>(h b hb).symm,fun h b hb=>(h b hb).symm⟩
theorem aFR (s:List UInt8):Ct lk 259 [.string (str s), .string (str [0])] [] fun v H'=>v= .int .i64 ((s.count 0:Nat):Int)∧H'=[]:=
 bK fun W _=>(Tryz.strings_Count_one (str s) 0 W).mono fun e' w' ⟨h1,h2⟩=>⟨h1,by rw[h2];exact Below.refl _ _⟩
theorem abH {s t:List UInt8} (h:tL s t):t≠[]∧t.length≤s.length+1+(put.cY s.length).length:=by
 have e:(XM s).length=s.length+1+(put.cY s.length).length:=by
  unfold XM;rw[ae,dv];omega
 rcases h with⟨_,rfl⟩|⟨_,out,_,⟨h1,rfl⟩|⟨_,rfl⟩⟩
 ·exact⟨Ja,by rw[dv];omega⟩
 ·exact⟨by unfold lR;simp,Z8⟩
 ·exact⟨by unfold XM;simp,Z8⟩
attribute [local irreducible] box own sl bL aH bJ Qt cN cM dG dL eQ
theorem axD (s:List UInt8) (hs:s.length≤512):Ct lk 219 [.string (str s)] [] fun v H'=> ∃ t,tL s t∧v= .tuple #[.string (str t), .int .i64 0]∧H'=[]:=by
 have P0:=xK s.length Z8;have l1:=sW s.length;have C0:=aFR s;have MA:=anZ s hs;have hcl:s.count 0≤s.length:=List.count_le_length;have zy:XM s=1::put.cY s.length++s:=rfl;by_cases hz:s.count 0=s.length
 ·have R0:tL s (0::put.cY s.length):= .inl ⟨UK.2 hz,rfl⟩;generalize put.cY s.length=b1 at*;generalize s.count 0=ct at*;(refine Ye Tryz.func219 Tryz.ntmps219 ?_;intro Fr);(repeat' (first|refine Y3 ?_|refine Wc (P0 ..) ?_|refine Wc (C0 ..) ?_|fail));exact Ea (x:=⟨_,R0,rfl,rfl⟩)
 ·have zw: ¬ aMN s:=fun h=>hz (UK.1 h)
  have R1: ∀ out,lz.Found s out→(lR s out).length<(XM s).length→tL s (lR s out):=fun out h1 h2=> .inr ⟨zw,out,h1, .inl ⟨h2,rfl⟩⟩
  have R2: ∀ out,lz.Found s out→ ¬ (lR s out).length<(XM s).length→tL s (XM s):=fun out h1 h2=> .inr ⟨zw,out,h1, .inr ⟨h2,rfl⟩⟩
  rw[zy] at R1 R2;generalize put.cY s.length=b1 at*;generalize s.count 0=ct at*;(refine Ye Tryz.func219 Tryz.ntmps219 ?_;intro Fr);(repeat' (first|refine Y3 ?_|refine Wc (P0 ..) ?_|refine Wc (C0 ..) ?_|fail));(refine Ca (MA) ?_;rintro _ _ ⟨_,⟨out,hF,rfl,rfl⟩,rfl⟩;refine Da ?_);have R1:=R1 out hF;have R2:=R2 out hF;have zx:(1::b1++s).length=1+b1.length+s.length:=by simp;omega
  generalize lR s out=mb at*;have hbl2:(1::(b1++s)).length=1+b1.length+s.length:=zx;by_cases hlt:mb.length<1+b1.length+s.length
  ·have R1:=R1 (by rw[zx];exact hlt);refine bM ?_;exact Ea (x:=⟨mb,R1,rfl,rfl⟩)
  ·have R2:=R2 (by rw[zx];exact hlt);refine bM ?_;exact Ea (x:=⟨_,R2,rfl,rfl⟩)
end mI
namespace mI
open put get
theorem GW (n:Nat) (r:List UInt8) (h:n≤512):fK (put.cY n++r)=(n,(put.cY n).length,0)∧(put.cY n).length≤(put.cY n++r).length∧(put.cY n++r).drop (put.cY n).length=r:=
 ⟨FE n r Z8,by rw[ae];omega,aar⟩
theorem aoB (s:List UInt8) (out:List Mk):lR s out=2::(put.cY s.length++(put.cY out.length++(runs.bE (la out)++(runs.bE (lb out)++bits.jS (pieces (la out) (lb out) out))))):=by
 unfold lR;simp only[dw,List.append_assoc]
attribute [local irreducible] box own sl bL aH bJ Qt cN cM dG dL eQ
attribute [local irreducible] lens.dD pieces gF gZ yA runs.bE bits.jS bits.tJ bits.total fK put.cY la lb eD.kW
theorem axE (n:Nat) (hn:n≤512):Ct lk 153 [.string (str (0::put.cY n))] [] fun v H'=>v= .tuple #[.string (str (du n 0)), .int .i64 0]∧H'=[]:=by
 obtain⟨g1,g2,g3⟩:=GW n [] hn;rw[ke] at g1 g2 g3;have l1:=sW n;have N0:=fun b=>adV b Z8 g1 g2 hn
 rw[g3] at N0;have R0:=axA n Z8;have hl:(0::put.cY n).length=(put.cY n).length+1:=rfl;have e0:((0::put.cY n)==[])=false:=rfl;have e1:adq 1 (0::put.cY n)=put.cY n:=rfl;have e2:(0::put.cY n)[0]? =some 0:=rfl;have hu:aaw 0=0:=rfl;have hrl:(du n (0:UInt8)).length=n:=List.length_replicate;clear g1 g2 g3;generalize put.cY n=b1 at*;generalize du n (0:UInt8)=z at*;(refine Ye Tryz.func153 Tryz.ntmps153 ?_;intro Fr);(refine bF ?_;intro b);(refine Ca (N0 _) ?_;rintro _ _ ⟨_,⟨rfl,rfl⟩,rfl⟩;refine Da ?_);(repeat' (first|refine Y3 ?_|refine Wc (R0 ..) ?_|fail));exact Ea (x:=⟨rfl,rfl⟩)
theorem ajP (s:List UInt8) (hs:s.length≤512) (out:List Mk) (hF:lz.Found s out):Ct lk 153 [.string (str (lR s out))] [] fun v H'=>v= .tuple #[.string (str s), .int .i64 0]∧H'=[]:=by
 have zw:=UF out [] s hF.2.1 hF.1;have zy:=hF.2.2.1;have zx:=ajJ zw zy;have hA:(la out).length=320:=by unfold la;rw[eD.uP];exact kC _ _
 have hB:(lb out).length=9:=by unfold lb;rw[eD.uP];exact kC _ _
 have MK:=fun b=>awZ b (la out) (lb out) out zx hA hB zy
 have X1:=fun q c=>lz.awY q c out hF.2.1 Z8 hF.1
 have hpl:=KS zx zy;have zv:=mS (la out);have zu:=mS (lb out);have l1:=sW s.length;have l2:=sW out.length;rw[aoB];generalize bits.jS (pieces (la out) (lb out) out)=T at*;generalize runs.bE (lb out)=w2 at*;generalize runs.bE (la out)=w1 at*;have hr1:(w1++(w2++T)).length≤10000:=by simp only[ae];omega
 generalize w1++(w2++T)=r1 at*;obtain⟨k1,k2,k3⟩:=GW out.length r1 zy;have hr2:(put.cY out.length++r1).length≤10100:=by simp only[ae];omega
 generalize zt:put.cY out.length++r1=r2 at*;obtain⟨g1,g2,g3⟩:=GW s.length r2 hs;have hr3:(put.cY s.length++r2).length≤10200:=by simp only[ae];omega
 generalize zr:put.cY s.length++r2=r3 at*;have N0:=fun b=>adV b Z8 g1 g2 hs
 have N1:=fun b=>adV b Z8 k1 k2 zy
 rw[g3] at N0;rw[k3] at N1;have hl:(2::r3).length=r3.length+1:=rfl;have e0:((2::r3)==[])=false:=rfl;have e1:adq 1 (2::r3)=r3:=rfl;have e2:(2::r3)[0]? =some 2:=rfl;have hu:aaw 2=2:=rfl;clear g1 g2 g3 k1 k2 k3 hF zw zx hA hB zt zr l1 l2 zv zu;(refine Ye Tryz.func153 Tryz.ntmps153 ?_;intro Fr);(refine bF ?_;intro b);(refine Ca (N0 _) ?_;rintro _ _ ⟨_,⟨rfl,rfl⟩,rfl⟩;refine Da ?_);refine bM ?_;(refine Ca (N1 _) ?_;rintro _ _ ⟨_,⟨rfl,rfl⟩,rfl⟩;refine Da ?_);refine bM ?_;(refine Ca (MK _) ?_;rintro _ _ ⟨_,⟨q1,c1,rfl,rfl⟩,rfl⟩;refine Da ?_);(repeat' (first|refine Y3 ?_|refine Wc (X1 ..) ?_|fail));exact Ea (x:=⟨rfl,rfl⟩)
theorem QY {s t:List UInt8} (hs:s.length≤512) (h:tL s t):Ct lk 153 [.string (str t)] [] fun v H'=>v= .tuple #[.string (str s), .int .i64 0]∧H'=[]:=by
 rcases h with⟨hz,rfl⟩|⟨_,out,hF,⟨_,rfl⟩|⟨_,rfl⟩⟩
 ·have e:s=du s.length 0:=List.eq_replicate_iff.2 ⟨rfl,hz⟩;have:=axE s.length hs;rw[←e] at this;exact this
 ·exact ajP s hs out hF
 ·obtain⟨g1,g2,g3⟩:=GW s.length s hs;have l1:=sW s.length;have:=aFF (put.cY s.length++s) s Zm g1 g2 g3;have e:XK s.length s=(s,0):=by unfold XK;rw[Jg ⟨hs,rfl⟩]
  rw[e] at this;exact this
end mI
