/- Law HandStale: its texts, packed. -/
import Derived.Test.YtbjalbcdbgcgdaaGreatK05
import Derived.Test.YtbjalbcdbgcgdaaGreatK07
import Derived.Test.YtbjalbcdbgcgdaaGreatK36
import Derived.Test.YtbjalbcdbgcgdaaGreatK12
import Derived.Test.YtbjalbcdbgcgdaaGreatK09
import Derived.Test.YtbjalbcdbgcgdaaGreatK06
import Derived.Test.YtbjalbcdbgcgdaaGreatK13
import Derived.Test.YtbjalbcdbgcgdaaGreatK10
open List renaming append_assoc->ep,filter_append->l8,getElem?_eq_getElem->aj,length_append->ag,length_cons->fb,length_map->jj,length_nil->lk,map_append->mw,mem_map->fu,range_succ->nf,replicate->eb,take_of_length_le->dc
open Nat renaming le_refl->aq,lt_or_ge->iq,sub_self->jl,zero_le->fg
open Int renaming toNat_natCast->fq
open UInt8 renaming ofNat->gl
set_option linter.unusedVariables false
set_option maxRecDepth 100000
set_option maxHeartbeats 8000000
namespace Go.Proofs.YtbjalbcdbgcgdaaGreat.dO
open Go.RowKit bG sl fix put get
attribute [local irreducible] box own sl gH aH bC Qt cJ cG dC dG eO
theorem avY (l:List UInt8) (h:l.length≤1000000000000000):Ct Tryz.prog 248 [.string (str l)] [] fun v H'=>v=aDU (eD l)∧H'=[]:=
 aW fun W _=>(zO (str l) (by rw[bP];unfold maxLen;omega) W).mono fun e w' ⟨h1,h2⟩=>⟨h1,by rw[←h2];exact Below.refl _ _⟩
theorem CX {l:List UInt8} {n k:Nat} (h:l.length≤1000000000000000) (e:eD l=(n,k,0)):Ct Tryz.prog 248 [.string (str l)] [] fun v H'=>v= .tuple #[.int .u64 (n:Int), .int .i64 (k:Int), .int .i64 0]∧H'=[]:=by
 have:=avY l h;rwa [e] at this
theorem KK {l:List UInt8} {m:Nat} (h:l.length≤1000000000000000) (e:eD l=(0,0,m)):Ct Tryz.prog 248 [.string (str l)] [] fun v H'=>v= .tuple #[.int .u64 0, .int .i64 0, .int .i64 (m:Int)]∧H'=[]:=by
 have:=avY l h;rwa [e] at this
theorem ED:Ct Tryz.prog 164 [] [] fun v H'=> ∃ qa qg,v= .agg #[.slice qa 48 48, .slice qg 48 48]∧H'=[own (.slice qa 48 48) 77 2 48 (flat jW (eb 48 (0,0))),own (.slice qg 48 48) 3 1 48 (flat fI (eb 48 0))]:=by
 (refine Ye Tryz.func164 Tryz.ntmps164 ?_;intro Fr);(repeat' (first|refine Wa ?_|refine Wk ?_|refine aF ?_|(refine Wb ?_;intro b)|(refine Wq ?_;intro q)|(refine Ws ?_ ?_<;>intro h)|refine Wz ?_|fail));(refine aB (Hq:=[]) [] [] rfl (by kernel_rfl) Za ?_);(refine aA 0 ?_;refine cU 1 (by kernel_rfl) ?_ ?_)
 ·(refine Oc (l:=by exact (cT (jW) ((0,0)) (c:=48) rfl rfl rfl Ze Ze rfl rfl (by omega) Zg)) (k:= ?_);rintro _ _ ⟨qa,rfl,rfl⟩;refine Te ?_;(try refine Da ?_));(refine aA 1 ?_;refine Oa (l:=by exact (cT (fI) (0) (c:=48) rfl rfl rfl Ze Ze rfl rfl (by omega) Zg)) (k:= ?_);rintro _ _ ⟨qg,rfl,rfl⟩;refine Te ?_;(try refine Da ?_));(repeat' (first|refine Wa ?_|refine Wk ?_|refine We ?_|(refine Wb ?_;intro b)|(refine Wq ?_;intro q)|(refine Ws ?_ ?_<;>intro h)|refine Wz ?_|fail));exact Ea (x:=⟨qa,qg,rfl,rfl⟩)
 ·(refine Oc (l:=by exact (cT (fI) (0) (c:=48) rfl rfl rfl Ze Ze rfl rfl (by omega) Zg)) (k:= ?_);rintro _ _ ⟨qg,rfl,rfl⟩;refine Te ?_;(try refine Da ?_));(refine aA 0 ?_;refine Oa (l:=by exact (cT (jW) ((0,0)) (c:=48) rfl rfl rfl Ze Ze rfl rfl (by omega) Zg)) (k:= ?_);rintro _ _ ⟨qa,rfl,rfl⟩;refine Te ?_;(try refine Da ?_));(repeat' (first|refine Wa ?_|refine Wk ?_|refine We ?_|(refine Wb ?_;intro b)|(refine Wq ?_;intro q)|(refine Ws ?_ ?_<;>intro h)|refine Wz ?_|fail));exact Ea (x:=⟨qa,qg,rfl,rfl⟩)
theorem lG (i:Int) (w:Nat) (h1:1≤w∧w≤8) (hi:0≤i∧i<18446744073709551616):Ct Tryz.prog 194 [.int .u64 i, .int .i64 (w:Int)] [] fun v H'=>v= .string (str (dM i.toNat w))∧H'=[]:=by
 obtain⟨n,rfl⟩: ∃ n:Nat,i=(n:Int):=⟨i.toNat,by omega⟩;exact aW fun W _=>UK n w h1.1 h1.2 (by omega) W
theorem uA (i:Int) (hi:0≤i∧i<18446744073709551616):Ct Tryz.prog 245 [.int .u64 i] [] fun v H'=>v= .string (str (cA i.toNat))∧H'=[]:=by
 obtain⟨n,rfl⟩: ∃ n:Nat,i=(n:Int):=⟨i.toNat,by omega⟩;exact aW fun W _=>mM n (by omega) W
theorem aEY {ps:List (Int×Int)} {gs:List Int} {i:Nat} {p:Int×Int} {g:Int} (hp:ps[i]? =some p) (hg:gs[i]? =some g):(ps.zip gs)[i]? =some (p,g):=by
 rw[List.getElem?_zip_eq_some];exact⟨hp,hg⟩
theorem nX {zs:List ((Int×Int)×Int)} {k:Nat} {z:(Int×Int)×Int} (h:zs[k]? =some z):eG (zs.take (k+1))=eG (zs.take k)++yE z:=by
 rw[take_one h,yF];simp [eG]
theorem sL (qa qg:Option Addr) (ca cg:Nat) {ps:List (Int×Int)} {gs:List Int} (hw:WfM ps gs) (h:dP ps gs):Ct Tryz.prog 192 [.agg #[.slice qa ps.length ca, .slice qg gs.length cg]] [sl 2 (.slice qa ps.length ca) (ps.map jW),sl 1 (.slice qg gs.length cg) (gs.map fI)] fun v H'=>v= .tuple #[.string (str (eG (ps.zip gs))), .int .i64 0]∧H'=[]:=by
 have CK:=lY (.slice qa ps.length ca) (.slice qg gs.length cg) hw h;obtain⟨h1,h2,h3⟩:=h;clear hw;(refine Ye Tryz.func192 Tryz.ntmps192 ?_;intro Fr);(repeat' (first|refine Wa ?_|refine Wk ?_|refine We ?_|(refine Wb ?_;intro b)|(refine Wq ?_;intro q)|refine Wc (CK ..) ?_|(refine Ws ?_ ?_<;>intro h)|refine Wz ?_|fail));(refine aC (σ:=Nat×List UInt8) (fun s=>s.1≤48∧s.2=eG ((ps.zip gs).take s.1)∧s.2.length≤13*s.1) (fun s=>[(16, .int .i64 (s.1:Int)),(5, .string (str s.2))]) (fun s=>[]) _ (fun s=>48-s.1) ((0,[])) (by exact⟨fg _,rfl,aq _⟩) (by exact gA) Zb (fun⟨k,o⟩ ⟨hk,ho,hol⟩=> ?_);refine Da ?_);dsimp only at hk ho hol;rcases iq k 48 with hlt|hge
 ·obtain⟨p,hp⟩: ∃ p,ps[k]? =some p:=⟨_,aj (by omega)⟩;obtain⟨g,hg⟩: ∃ g,gs[k]? =some g:=⟨_,aj (by omega)⟩;obtain⟨⟨o1,o2,o3,o4,_,_⟩,o5,o6⟩:=h3 k hlt p g hp hg;have tn:=nX (aEY hp hg);rw[←ho] at tn;have rl:=abI (p,g);have F1:=lG p.1 1 (by decide) (by omega);have F2:=lG p.2 1 (by decide) (by omega);have P1:=uA g (by omega);have er:yE (p,g)=cA g.toNat++dM p.1.toNat 1++dM p.2.toNat 1:=rfl;have l1:=bQ p.1.toNat 1;have l2:=bQ p.2.toNat 1;rw[er] at tn rl;generalize dM p.1.toNat 1=f1 at*;generalize dM p.2.toNat 1=f2 at*;generalize cA g.toNat=pg at*;rw[ag,ag] at rl;clear ho er;(repeat' (first|refine Wa ?_|refine Wk ?_|refine We ?_|(refine Wb ?_;intro b)|(refine Wq ?_;intro q)|refine Wc (CK ..) ?_|refine Wc (F1 ..) ?_|refine Wc (F2 ..) ?_|refine Wc (P1 ..) ?_|(refine Ws ?_ ?_<;>intro h)|refine Wz ?_|fail));refine Ee ((k+1,o++(pg++f1++f2))) ?_ ?_
  ·exact⟨hlt,tn.symm,by show (o++(pg++f1++f2)).length≤13*(k+1);simp only[ag];omega⟩
  ·show 48-(k+1)<48-k;omega
 ·have hk8:k=48:=by omega
  have ht:(ps.zip gs).take k=ps.zip gs:=dc (by rw[List.length_zip];omega);rw[ht] at ho;rw[←ho];clear ho ht;(repeat' (first|refine Wa ?_|refine Wk ?_|refine We ?_|(refine Wb ?_;intro b)|(refine Wq ?_;intro q)|(refine Ws ?_ ?_<;>intro h)|refine Wz ?_|fail));exact Ea (x:=⟨rfl,rfl⟩)
def Bytes (zs:List ((Int×Int)×Int)):Prop:= ∀ z∈zs,0≤z.1.1∧z.1.1<256∧0≤z.1.2∧z.1.2<256∧0≤z.2∧z.2≤2147483647
theorem oR {zs:List ((Int×Int)×Int)} (h:Bytes zs) (a b:UInt8) (n:Nat) (hn:n≤2147483647):Bytes (zs++[(((a.toNat:Int),(b.toNat:Int)),(n:Int))]):=by
 intro z hz;rcases List.mem_append.1 hz with hz|hz
 ·exact h z hz
 ·simp only[List.mem_singleton] at hz;subst hz;have:=a.toNat_lt;have:=b.toNat_lt;refine⟨?_, ?_, ?_, ?_, ?_, ?_⟩<;>simp<;>omega
theorem wfi {i:Int} (h:0≤i∧i≤2147483647):(Lit.int .i64 i).wf=true:=by
 simp [Lit.wf,IntKind.min,IntKind.max,IntKind.bits,IntKind.signed];omega
theorem avZ {zs:List ((Int×Int)×Int)} (h:Bytes zs) (hl:zs.length=48):WfM (zs.map (·.1)) (zs.map (·.2)):=by
 refine⟨fun p hp=> ?_,fun z hz=> ?_,by simp [hl],by simp [hl]⟩
 ·obtain⟨z,hz,rfl⟩:=fu.1 hp;have:=h z hz;exact⟨wfi (by omega),wfi (by omega)⟩
 ·obtain⟨y,hy,rfl⟩:=fu.1 hz;have:=h y hy;exact wfi (by omega)
def rowOf {α:Type} (z0:α) (xs:List α):List α:=xs++eb (48-xs.length) z0
theorem SR {α:Type} (z0:α) {xs:List α} (h:xs.length=48):rowOf z0 xs=xs:=by simp [rowOf,h]
theorem abM {α:Type} (z0:α) {xs:List α} (h:xs.length<48):(rowOf z0 xs)[xs.length]? =some z0:=by
 rw[rowOf,List.getElem?_append_right (aq _),jl,List.getElem?_replicate,if_pos (by omega)]
theorem SU {α:Type} (z0 z:α) {xs:List α} (h:xs.length<48):(rowOf z0 xs).set xs.length z=rowOf z0 (xs++[z]):=by
 have e:48-xs.length=(48-(xs.length+1))+1:=by omega
 rw[rowOf,e,List.replicate_succ,List.set_append_right _ _ (aq _),jl,List.set_cons_zero];simp [rowOf]
def abN (L:List UInt8) (v:Value) (H':List Ent):Prop:=
 (∃ zs qa qg,(wW zs∧L=eG zs)∧v= .tuple #[.agg #[.slice qa 48 48, .slice qg 48 48], .int .i64 0]∧H'=[own (.slice qa 48 48) 77 2 48 (flat jW (zs.map (·.1))),own (.slice qg 48 48) 3 1 48 (flat fI (zs.map (·.2)))])∨
 ((¬ ∃ zs,wW zs∧L=eG zs)∧v= .tuple #[.agg #[.slice none 0 0, .slice none 0 0], .int .i64 4]∧H'=[])
theorem oG (L:List UInt8) (hL:L.length≤1000000000000000):Ct Tryz.prog 228 [.string (str L)] [] (abN L):=by
 (refine Ye Tryz.func228 Tryz.ntmps228 ?_;intro Fr);(repeat' (first|refine Wa ?_|refine Wk ?_|refine We ?_|(refine Wb ?_;intro b)|(refine Wq ?_;intro q)|(refine Ws ?_ ?_<;>intro h)|refine Wz ?_|fail));(refine Ca (ED) ?_;rintro _ _ ⟨_,⟨qa,qg,rfl,rfl⟩,rfl⟩;refine Da ?_);(repeat' (first|refine Wa ?_|refine Wk ?_|refine We ?_|(refine Wb ?_;intro b)|(refine Wq ?_;intro q)|(refine Ws ?_ ?_<;>intro h)|refine Wz ?_|fail));rename_i br;(refine aC (σ:=Nat×List ((Int×Int)×Int)×List UInt8) (fun s=>s.1≤48∧s.2.1.length=s.1∧Inv L s.2.1 s.2.2∧Bytes s.2.1∧s.2.2.length≤1000000000000000) (fun s=>[(13, .int .i64 (s.1:Int)),(0, .string (str s.2.2))]) (fun s=>[own (.slice qa 48 48) 77 2 48 (flat jW (rowOf (0,0) (s.2.1.map (·.1)))),own (.slice qg 48 48) 3 1 48 (flat fI (rowOf 0 (s.2.1.map (·.2)))),box b [.slice qa 48 48, .slice qg 48 48] 73]) _ (fun s=>48-s.1) ((0,[],L)) (by exact⟨fg _,rfl,aoL L,(fun z hz=>absurd hz List.not_mem_nil),hL⟩) (by exact gA) Zb (fun⟨i,zs,r⟩ ⟨hz,hzi,hI,hB,hr⟩=> ?_);refine Da ?_);dsimp only at hz hzi hI hB hr;have hA:(zs.map (·.1)).length=i:=by rw[jj];exact hzi
 have hG:(zs.map (·.2)).length=i:=by rw[jj];exact hzi
 rcases iq i 48 with hlt|hge
 ·have hzl:zs.length<48:=by omega
  have bad:(∀ n k,eD r=(n,k,0)→n≤2147483647→ ¬ k+2≤r.length)→abN L (.tuple #[.agg #[.slice none 0 0, .slice none 0 0], .int .i64 4]) []:=fun h=> .inr ⟨aBD hI hzl h,rfl,rfl⟩
  rcases oF r with⟨k,n,e1,e2,e3,e4,e5⟩|e1|e1
  ·have G1:=CX hr e1;by_cases hn:n≤2147483647
   ·by_cases hk:k+2≤r.length
    ·obtain⟨b1,hb1⟩: ∃ b1,r[k]? =some b1:=⟨_,aj (by omega)⟩;obtain⟨b2,hb2⟩: ∃ b2,r[k+1]? =some b2:=⟨_,aj (by omega)⟩;have hI2:=avX hI hzl e1 hn hb1 hb2;have hB2:=oR hB b1 b2 n hn;have sA:=SU ((0:Int),(0:Int)) ((b1.toNat:Int),(b2.toNat:Int)) (xs:=zs.map (·.1)) (by omega);have sG:=SU (0:Int) (n:Int) (xs:=zs.map (·.2)) (by omega);have xA:=abM ((0:Int),(0:Int)) (xs:=zs.map (·.1)) (by omega);have xG:=abM (0:Int) (xs:=zs.map (·.2)) (by omega);have mA:zs.map (·.1)++[((b1.toNat:Int),(b2.toNat:Int))]=(zs++[(((b1.toNat:Int),(b2.toNat:Int)),(n:Int))]).map (·.1):=by rw[mw];rfl
     have mG:zs.map (·.2)++[(n:Int)]=(zs++[(((b1.toNat:Int),(b2.toNat:Int)),(n:Int))]).map (·.2):=by rw[mw];rfl
     rw[hA,mA] at sA;rw[hG,mG] at sG;rw[hA] at xA;rw[hG] at xG;clear e1 e5 bad hI hB;(repeat' (first|refine Wa ?_|refine Wk ?_|refine aF ?_|(refine Wb ?_;intro b)|(refine Wq ?_;intro q)|refine Wc (G1 ..) ?_|(refine Ws ?_ ?_<;>intro h)|refine Wz ?_|fail));(refine aB (Hq:=[_]) [2] [] rfl (by kernel_rfl) Za ?_);(repeat' (first|refine Wa ?_|refine Wk ?_|refine We ?_|(refine Wb ?_;intro b)|(refine Wq ?_;intro q)|(refine Ws ?_ ?_<;>intro h)|refine Wz ?_|fail));(refine aA 19 ?_;refine Ob (l:=by exact (aG (f:=fI) (q':=(n:Int)) rfl rfl rfl rfl (by exact aN) rfl (by omega) (by intro _;rfl) (by assumption) rfl rfl (by rfl))) (k:= ?_);rintro _ _ ⟨rfl,rfl⟩;refine Te ?_;(try refine Da ?_));rw[sG];refine aA 20 ?_;(repeat' (first|refine Wa ?_|refine Wk ?_|refine We ?_|(refine Wb ?_;intro b)|(refine Wq ?_;intro q)|(refine Ws ?_ ?_<;>intro h)|refine Wz ?_|fail));(refine aA 21 ?_;refine Ob (l:=by exact (aG (f:=jW) (q':=((b1.toNat:Int),(b2.toNat:Int))) rfl rfl rfl rfl (by exact aN) rfl (by omega) (by intro _;rfl) (by assumption) rfl rfl (by rfl))) (k:= ?_);rintro _ _ ⟨rfl,rfl⟩;refine Te ?_;(try refine Da ?_));rw[sA];(repeat' (first|refine Wa ?_|refine Wk ?_|refine We ?_|(refine Wb ?_;intro b)|(refine Wq ?_;intro q)|(refine Ws ?_ ?_<;>intro h)|refine Wz ?_|fail));refine Ee ((i+1,zs++[(((b1.toNat:Int),(b2.toNat:Int)),(n:Int))],r.drop (k+2))) ?_ ?_
     ·exact⟨hlt,by rw[ag,hzi];rfl,hI2,hB2,by show (r.drop (k+2)).length≤_;rw[List.length_drop];omega⟩
     ·show 48-(i+1)<48-i;omega
    ·have B0:=bad fun n' k' e h1 h2=>by rw[e1] at e;cases e;exact hk h2
     (repeat' (first|refine Wa ?_|refine Wk ?_|refine We ?_|(refine Wb ?_;intro b)|(refine Wq ?_;intro q)|refine Wc (G1 ..) ?_|(refine Ws ?_ ?_<;>intro h)|refine Wz ?_|fail));exact Ea (x:=B0)
   ·have B0:=bad fun n' k' e h1 h2=>by rw[e1] at e;cases e;exact hn h1
    (repeat' (first|refine Wa ?_|refine Wk ?_|refine We ?_|(refine Wb ?_;intro b)|(refine Wq ?_;intro q)|refine Wc (G1 ..) ?_|(refine Ws ?_ ?_<;>intro h)|refine Wz ?_|fail));exact Ea (x:=B0)
  ·have G1:=KK hr e1;have B0:=bad fun n' k' e h1 h2=>by rw[e1] at e;cases e
   (repeat' (first|refine Wa ?_|refine Wk ?_|refine We ?_|(refine Wb ?_;intro b)|(refine Wq ?_;intro q)|refine Wc (G1 ..) ?_|(refine Ws ?_ ?_<;>intro h)|refine Wz ?_|fail));exact Ea (x:=B0)
  ·have G1:=KK hr e1;have B0:=bad fun n' k' e h1 h2=>by rw[e1] at e;cases e
   (repeat' (first|refine Wa ?_|refine Wk ?_|refine We ?_|(refine Wb ?_;intro b)|(refine Wq ?_;intro q)|refine Wc (G1 ..) ?_|(refine Ws ?_ ?_<;>intro h)|refine Wz ?_|fail));exact Ea (x:=B0)
 ·have hi:i=48:=by omega
  subst hi;rw[SR _ hA,SR _ hG];have hw:=avZ hB hzi;by_cases hrn:r=[]
  ·subst hrn;have hLz:L=eG zs:=by have:=hI.1;rwa [List.append_nil] at this
   have e1:(([]:List UInt8)==[])=true:=rfl;by_cases hgd:dP (zs.map (·.1)) (zs.map (·.2))
   ·have hgz:wW zs:=by have:=avW hgd;rwa [abJ] at this
    have CK:=fun a g=>lY a g hw hgd
    clear hgd hI hB hw;(repeat' (first|refine Wa ?_|refine Wk ?_|refine We ?_|(refine Wb ?_;intro b)|(refine Wq ?_;intro q)|refine Wc (CK ..) ?_|(refine Ws ?_ ?_<;>intro h)|refine Wz ?_|fail));exact Ea (x:= .inl ⟨zs,qa,qg,⟨hgz,hLz⟩,rfl,rfl⟩)
   ·have CK:=fun a g=>QY a g hw hgd
    have B0:abN L (.tuple #[.agg #[.slice none 0 0, .slice none 0 0], .int .i64 4]) []:= .inr ⟨fun⟨zs0,h0,h1⟩=>hgd (by rw[←(ajQ hI hzi h0 h1).1];exact qV h0),rfl,rfl⟩;clear hgd hI hB hw;(repeat' (first|refine Wa ?_|refine Wk ?_|refine We ?_|(refine Wb ?_;intro b)|(refine Wq ?_;intro q)|refine Wc (CK ..) ?_|(refine Ws ?_ ?_<;>intro h)|refine Wz ?_|fail));exact Ea (x:=B0)
  ·have e1:(r==[])=false:=by simpa using hrn
   have B0:abN L (.tuple #[.agg #[.slice none 0 0, .slice none 0 0], .int .i64 4]) []:= .inr ⟨fun⟨zs0,h0,h1⟩=>hrn (ajQ hI hzi h0 h1).2,rfl,rfl⟩;(repeat' (first|refine Wa ?_|refine Wk ?_|refine We ?_|(refine Wb ?_;intro b)|(refine Wq ?_;intro q)|(refine Ws ?_ ?_<;>intro h)|refine Wz ?_|fail));exact Ea (x:=B0)
end Go.Proofs.YtbjalbcdbgcgdaaGreat.dO
namespace Go.Proofs.YtbjalbcdbgcgdaaGreat.dO
open Go.RowKit bG sl fix put get
attribute [local irreducible] box own sl gH aH bC Qt cJ cG dC dG eO
theorem yG (zs:List ((Int×Int)×Int)):(eG zs).length≤13*zs.length:=by
 induction zs with
 |nil=>exact aq _
 |cons z zs ih=>
  have:=abI z;show (yE z++eG zs).length≤_;rw[ag,fb];omega
end Go.Proofs.YtbjalbcdbgcgdaaGreat.dO
namespace Go.Proofs.YtbjalbcdbgcgdaaGreat.BI
open Go.RowKit bG sl fix PH
open dO (WfM dP wW eG avW qV abJ yG abN ED)
open jX (dH lU FG lH tX sV lI lV dU)
def NR (serial:Int) (zs:List ((Int×Int)×Int)):List UInt8:=dM serial.toNat 4++eG zs
def yH (turn serial:Int) (zs:List ((Int×Int)×Int)):List UInt8:=dH 2 turn (NR serial zs)
def ajR (turn serial:Int):Prop:=0≤serial∧serial≤2147483647∧0≤turn∧turn≤2147483647
theorem aoM {serial:Int} {zs:List ((Int×Int)×Int)} (h:zs.length=48):(NR serial zs).length≤1000:=by
 have:=yG zs;simp only[NR,ag,bQ];omega
theorem GD {turn serial:Int} {zs:List ((Int×Int)×Int)} (h:zs.length=48) (hp:ajR turn serial):lU 2 turn (NR serial zs).length=0:=
 Go.Proofs.YtbjalbcdbgcgdaaGreat.jX.KG ⟨.inr rfl,hp.2.2.1,hp.2.2.2,aoM h⟩
attribute [local irreducible] box own sl gH aH bC Qt cJ cG dC dG eO
theorem uN (qa qg:Option Addr) (ca cg:Nat) {turn serial:Int} {ps:List (Int×Int)} {gs:List Int} (hw:WfM ps gs) (hm:dP ps gs) (hp:ajR turn serial):
  Ct Tryz.prog 127 [.int .i64 turn, .agg #[.int .i64 serial, .slice qa ps.length ca, .slice qg gs.length cg]] [sl 2 (.slice qa ps.length ca) (ps.map jW),sl 1 (.slice qg gs.length cg) (gs.map fI)] fun v H'=>v= .tuple #[.string (str (yH turn serial (ps.zip gs))), .int .i64 0]∧H'=[]:=by
 have WM:=Go.Proofs.YtbjalbcdbgcgdaaGreat.dO.sL qa qg ca cg hw hm;obtain⟨p1,p2,p3,p4⟩:=hp;have F1:=Go.Proofs.YtbjalbcdbgcgdaaGreat.jX.lG serial 4 (by decide) (by omega);have hgz:=avW hm;have SE:=GD hgz.1 ⟨p1,p2,p3,p4⟩ (turn:=turn) (serial:=serial);have S1:=Go.Proofs.YtbjalbcdbgcgdaaGreat.jX.YF 2 turn (NR serial (ps.zip gs));rw[SE,Go.Proofs.YtbjalbcdbgcgdaaGreat.jX.YI SE] at S1;have hpb:dH 2 turn (NR serial (ps.zip gs))=yH turn serial (ps.zip gs):=rfl;rw[hpb] at S1;have hbd:NR serial (ps.zip gs)=dM serial.toNat 4++eG (ps.zip gs):=rfl;rw[hbd] at S1;have l1:=bQ serial.toNat 4;have l2:=yG (ps.zip gs);rw[hgz.1] at l2;generalize yH turn serial (ps.zip gs)=pb at*;generalize eG (ps.zip gs)=wm at*;generalize dM serial.toNat 4=fx at*;clear hw hm SE hpb hbd hgz;(refine Ye Tryz.func127 Tryz.ntmps127 ?_;intro Fr);(repeat' (first|refine Wa ?_|refine Wk ?_|refine We ?_|(refine Wb ?_;intro b)|(refine Wq ?_;intro q)|refine Wc (WM ..) ?_|refine Wc (F1 ..) ?_|refine Wc (S1 ..) ?_|(refine Ws ?_ ?_<;>intro h)|refine Wz ?_|fail));exact Ea (x:=⟨rfl,rfl⟩)
end Go.Proofs.YtbjalbcdbgcgdaaGreat.BI
namespace Go.Proofs.YtbjalbcdbgcgdaaGreat.fs
open Go.RowKit bG sl aX use dO
def iH (F:Nat→Nat) (i:Nat):List Int:=((List.range i).filter fun j=>decide (2≤j)&&decide (F j=0)).map fun (j:Nat)=>(j:Int)
theorem abO {F:Nat→Nat} {i:Nat} (h2:2≤i) (h:F i=0):iH F (i+1)=iH F i++[(i:Int)]:=by
 unfold iH;rw[nf,l8,mw,List.filter_cons_of_pos (by simp [h2,h])];rfl
theorem aoN {F:Nat→Nat} {i:Nat} (h:F i≠0):iH F (i+1)=iH F i:=by
 unfold iH;rw[nf,l8,mw,List.filter_cons_of_neg (by simp [h])];simp
theorem vX (F:Nat→Nat) (i:Nat):(iH F i).length≤i:=by
 unfold iH;rw[jj];exact Nat.le_trans (List.length_filter_le _ _) (by rw[List.length_range];exact aq _)
theorem aEZ {a w qa qg:Option Addr} {ca cw ca2 cg:Nat} {cs:List ByteArray} {ps:List (Int×ByteArray)} {at':List (Int×Int)} {aE:List Int} {L:List (Int×Nat)} (hc:cs.length≤maxLen) (hp:ps.length≤maxLen) (hw:WfM at' aE) (h:KR cs ps at' aE L):Ct Tryz.prog 48 [.agg #[.slice a cs.length ca, .slice w ps.length cw], .agg #[.slice qa at'.length ca2, .slice qg aE.length cg]] [sl 1 (.slice a cs.length ca) (cs.map fS),sl 2 (.slice w ps.length cw) (ps.map fP),sl 2 (.slice qa at'.length ca2) (at'.map jW),sl 1 (.slice qg aE.length cg) (aE.map fI)] fun v H'=> ∃ q,v= .tuple #[.slice q cs.length cs.length, .int .i64 0]∧H'=[own (.slice q cs.length cs.length) 3 1 cs.length (flat fI (dX cs.length (cN (fun _=>0) L)))]:=
 eW (alO a w qa qg ca cw ca2 cg cs ps at' aE hc hp hw) fun v H' h2=>by
  rcases h2 with⟨L2,q,h3,h4,h5⟩|⟨h3,_⟩
  ·have:=h3.2.2.symm.trans h.2.2;cases this;exact⟨q,h4,h5⟩
  ·exact absurd ⟨L,h⟩ h3
attribute [local irreducible] box own sl gH aH bC Qt cJ cG dC dG eO
theorem awA (b:Nat) (d:FD) (s t f o:Value) {L:List (Int×Nat)} (hc:d.cs.length≤1000000) (hp:d.ps.length≤1000000) (hn2:2≤d.cs.length) (hw:WfM d.at' d.aE) (h:KR d.cs d.ps d.at' d.aE L):
  Ct Tryz.prog 129 [aH b 0] (bE b d s t f o::bB d) fun v H'=> ∃ q c,v= .int .i64 0∧H'=[bE b d s t (.slice q (iH (cN (fun _=>0) L) d.cs.length).length c) o,own (.slice q (iH (cN (fun _=>0) L) d.cs.length).length c) 3 1 (iH (cN (fun _=>0) L) d.cs.length).length (flat fI (iH (cN (fun _=>0) L) d.cs.length))]:=by
 have C0:=aEZ (a:=d.a) (w:=d.w) (ca:=d.ca) (cw:=d.cw) (qa:=d.m) (ca2:=d.cm) (qg:=d.g) (cg:=d.cg) Zh Zh hw h;obtain⟨a,ca,cs,w,cw,wl,m,cm,at1,qg,cg,aE⟩:=d;unfold bE bB;dsimp only at C0 hc hp hn2 h ⊢;generalize cN (fun _=>0) L=F at C0 ⊢;generalize hN:cs.length=N at C0 hc hn2 ⊢;(refine Ye Tryz.func129 Tryz.ntmps129 ?_;intro Fr);refine dN ?_;(repeat' (first|refine Wk ?_|refine We ?_|refine Wz ?_|fail));(refine Cc 8 (C0) ?_;rintro _ _ ⟨_,⟨q1,rfl,rfl⟩,rfl⟩;refine Te ?_;(try refine Da ?_));refine KA ?_;refine aT (aY _ 3 1) ?_;(refine aC (σ:=Nat×Option Addr×Nat) (fun x=>2≤x.1∧x.1≤N) (fun x=>[(5, .int .i64 (x.1:Int))]) (fun x=>[box b [.slice a N ca, .slice w wl.length cw, .slice m at1.length cm, .slice qg aE.length cg,s,t, .slice x.2.1 (iH F x.1).length x.2.2,o] 136,own (.slice x.2.1 (iH F x.1).length x.2.2) 3 1 (iH F x.1).length (flat fI (iH F x.1))]) _ (fun x=>N-x.1) ((2,none,0)) (by exact⟨aq _,by omega⟩) (by exact gA) Zb (fun⟨i,qf,cf⟩ ⟨hi2,hiN⟩=> ?_);refine Da ?_);dsimp only at hi2 hiN ⊢;rcases iq i N with hlt|hge
 ·have gR:(dX N F)[i]? =some ((F i:Nat):Int):=dI _ hlt;have hlen:=vX F i;by_cases h0:F i=0
  ·rw[h0] at gR;(repeat' (first|refine Wa ?_|refine We ?_|(refine Wq ?_;intro q)|fail));(refine aI wt (by rfl) (by first|exact Ma (fI) [(i:Int)] rfl|exact Mb (fI) [(i:Int)] rfl) ?_;rintro _ _ ⟨q5,c5,rfl,rfl⟩);rw[←abO hi2 h0];refine eU ?_;refine Ee ((i+1,q5,c5)) ?_ ?_
   ·exact⟨by dsimp only;omega,hlt⟩
   ·dsimp only;omega
  ·refine aZ ?_;rw[←aoN h0];refine Ee ((i+1,qf,cf)) ?_ ?_
   ·exact⟨by dsimp only;omega,hlt⟩
   ·dsimp only;omega
 ·obtain rfl:i=N:=by omega
  refine aZ ?_;exact Ea (x:=⟨qf,cf,rfl,rfl⟩)
end Go.Proofs.YtbjalbcdbgcgdaaGreat.fs
namespace Go.Proofs.YtbjalbcdbgcgdaaGreat.fV
open Go.RowKit bG sl fix PH put get
attribute [local irreducible] box own sl gH aH bC Qt cJ cG dC dG eO
theorem jR (q:Option Addr) (c:Nat) (l:List bD) (last:Bool) (hl:l.length≤maxLen):Ct Tryz.prog 203 [.slice q l.length c, .bool last] [sl 4 (.slice q l.length c) (l.map xJ)] fun v H'=>v= .tuple #[.string (str (eE l last)), .int .i64 (bK l)]∧H'=[]:=by
 unfold maxLen at hl;by_cases h40:40<(l.length:Int)
 ·have hE:bK l=2:=by unfold bK;rw[if_pos h40]
  have hS:eE l last=[]:=by unfold eE;rw[if_neg Zl]
  rw[hE,hS];(refine Ye Tryz.func203 Tryz.ntmps203 ?_;intro Fr);refine aZ ?_;exact Ea (x:=⟨rfl,rfl⟩)
 ·have F1:=lG (l.length:Int) 1 (by decide) (by omega);rw[fq] at F1;have f1:=bQ l.length 1;obtain⟨hd,hhd⟩: ∃ hd,hd=tZ last l.length:=⟨_,rfl⟩;have hdl:hd.length=2:=by rw[hhd];unfold tZ;rw[ag,f1];cases last<;>rfl
  have hW:aR l last=hd++bJ l:=by rw[hhd];rfl
  (refine Ye Tryz.func203 Tryz.ntmps203 ?_;intro Fr);cases last with
  |false=>
   have h0:[0]++dM l.length 1=hd:=hhd.symm;generalize dM l.length 1=f at*;clear hhd;(repeat' (first|refine Wa ?_|refine We ?_|refine Wc (F1 ..) ?_|fail));rw[h0];(refine aC (σ:=Nat×List UInt8) (fun s=>s.1≤l.length∧cI (l.take s.1)=0∧s.2=hd++bJ (l.take s.1)∧s.2.length≤2+614*s.1) (fun s=>[(22, .int .i64 (s.1:Int)),(6, .string (str s.2))]) (fun s=>[]) _ (fun s=>l.length-s.1) ((0,hd)) (by exact⟨fg _,rfl,by simp [bJ],by show hd.length≤_;omega⟩) (by exact gA) Zb (fun⟨k,o⟩ ⟨hk,hf,ho,hol⟩=> ?_);refine Da ?_);dsimp only at hk hf ho hol;rcases iJ l k with⟨p,hp,hlt⟩|hge
   ·have CK:=IG p;by_cases hz:dA p=0
    ·have hb:=kL hz;rw[hz] at CK;have hf2:=tY hp hf hz;have hb2:=KH hp;have ob:iT p=[gl p.1.toNat,gl p.2.1.toNat,gl p.2.2.1.toNat]++cA p.2.2.2.length++p.2.2.2:=rfl;have P1:=uA (p.2.2.2.length:Int) (by omega);rw[fq] at P1;have pl:=KI p.2.2.2.length;generalize cA p.2.2.2.length=pb at*;rw[ob] at hb2;clear hf hz ob;(repeat' (first|refine Wa ?_|refine Wk ?_|refine We ?_|(refine Wb ?_;intro b)|(refine Wq ?_;intro q)|refine Wc (CK ..) ?_|refine Wc (P1 ..) ?_|(refine aA 10 ?_;refine cU 16 (by decide +kernel) ?_ ?_)|(refine Wj ?_;intro q)|refine Wz ?_|fail));all_goals
      refine Ee ((k+1,o++([gl p.1.toNat,gl p.2.1.toNat,gl p.2.2.1.toNat]++pb++p.2.2.2))) ?_ ?_
      ·refine⟨hlt,hf2, ?_, ?_⟩
       ·show o++_=hd++bJ (l.take (k+1));rw[hb2,ho,ep]
       ·show (o++_).length≤2+614*(k+1);simp only[ag,fb,lk];omega
      ·show l.length-(k+1)<l.length-k;omega
    ·have hE:bK l=dA p:=by unfold bK;rw[if_neg h40,vJ hp hf hz,if_pos hz]
     have hS:eE l false=[]:=by unfold eE;rw[if_neg (by rw[hE];exact hz)]
     rw[hE,hS];clear hE hS ho hf;generalize dA p=z at*;(repeat' (first|refine Wa ?_|refine We ?_|(refine Wb ?_;intro b)|refine Wc (CK ..) ?_|fail));exact Ea (x:=⟨rfl,rfl⟩)
   ·rw[dc hge] at hf ho;by_cases hbig:1000<(2+(bJ l).length:Int)
    ·have hE:bK l=2:=by unfold bK;rw[if_neg h40,if_neg (by simp [hf]),if_pos hbig]
     have hS:eE l false=[]:=by unfold eE;rw[if_neg Zl]
     have hol2:o.length=2+(bJ l).length:=by rw[ho,ag,hdl]
     rw[hE,hS];clear hE hS ho hf;refine aZ ?_;exact Ea (x:=⟨rfl,rfl⟩)
    ·have hE:bK l=0:=by unfold bK;rw[if_neg h40,if_neg (by simp [hf]),if_neg hbig]
     have hS:eE l false=o:=by unfold eE;rw[if_pos hE,hW,ho]
     have hol2:o.length=2+(bJ l).length:=by rw[ho,ag,hdl]
     rw[hE,hS];clear hE hS ho hf hW;refine aZ ?_;exact Ea (x:=⟨rfl,rfl⟩)
  |true=>
   have h0:[1]++dM l.length 1=hd:=hhd.symm;generalize dM l.length 1=f at*;clear hhd;(repeat' (first|refine Wa ?_|refine We ?_|refine Wc (F1 ..) ?_|fail));rw[h0];(refine aC (σ:=Nat×List UInt8) (fun s=>s.1≤l.length∧cI (l.take s.1)=0∧s.2=hd++bJ (l.take s.1)∧s.2.length≤2+614*s.1) (fun s=>[(22, .int .i64 (s.1:Int)),(6, .string (str s.2))]) (fun s=>[]) _ (fun s=>l.length-s.1) ((0,hd)) (by exact⟨fg _,rfl,by simp [bJ],by show hd.length≤_;omega⟩) (by exact gA) Zb (fun⟨k,o⟩ ⟨hk,hf,ho,hol⟩=> ?_);refine Da ?_);dsimp only at hk hf ho hol;rcases iJ l k with⟨p,hp,hlt⟩|hge
   ·have CK:=IG p;by_cases hz:dA p=0
    ·have hb:=kL hz;rw[hz] at CK;have hf2:=tY hp hf hz;have hb2:=KH hp;have ob:iT p=[gl p.1.toNat,gl p.2.1.toNat,gl p.2.2.1.toNat]++cA p.2.2.2.length++p.2.2.2:=rfl;have P1:=uA (p.2.2.2.length:Int) (by omega);rw[fq] at P1;have pl:=KI p.2.2.2.length;generalize cA p.2.2.2.length=pb at*;rw[ob] at hb2;clear hf hz ob;(repeat' (first|refine Wa ?_|refine Wk ?_|refine We ?_|(refine Wb ?_;intro b)|(refine Wq ?_;intro q)|refine Wc (CK ..) ?_|refine Wc (P1 ..) ?_|(refine aA 10 ?_;refine cU 16 (by decide +kernel) ?_ ?_)|(refine Wj ?_;intro q)|refine Wz ?_|fail));all_goals
      refine Ee ((k+1,o++([gl p.1.toNat,gl p.2.1.toNat,gl p.2.2.1.toNat]++pb++p.2.2.2))) ?_ ?_
      ·refine⟨hlt,hf2, ?_, ?_⟩
       ·show o++_=hd++bJ (l.take (k+1));rw[hb2,ho,ep]
       ·show (o++_).length≤2+614*(k+1);simp only[ag,fb,lk];omega
      ·show l.length-(k+1)<l.length-k;omega
    ·have hE:bK l=dA p:=by unfold bK;rw[if_neg h40,vJ hp hf hz,if_pos hz]
     have hS:eE l true=[]:=by unfold eE;rw[if_neg (by rw[hE];exact hz)]
     rw[hE,hS];clear hE hS ho hf;generalize dA p=z at*;(repeat' (first|refine Wa ?_|refine We ?_|(refine Wb ?_;intro b)|refine Wc (CK ..) ?_|fail));exact Ea (x:=⟨rfl,rfl⟩)
   ·rw[dc hge] at hf ho;by_cases hbig:1000<(2+(bJ l).length:Int)
    ·have hE:bK l=2:=by unfold bK;rw[if_neg h40,if_neg (by simp [hf]),if_pos hbig]
     have hS:eE l true=[]:=by unfold eE;rw[if_neg Zl]
     have hol2:o.length=2+(bJ l).length:=by rw[ho,ag,hdl]
     rw[hE,hS];clear hE hS ho hf;refine aZ ?_;exact Ea (x:=⟨rfl,rfl⟩)
    ·have hE:bK l=0:=by unfold bK;rw[if_neg h40,if_neg (by simp [hf]),if_neg hbig]
     have hS:eE l true=o:=by unfold eE;rw[if_pos hE,hW,ho]
     have hol2:o.length=2+(bJ l).length:=by rw[ho,ag,hdl]
     rw[hE,hS];clear hE hS ho hf hW;refine aZ ?_;exact Ea (x:=⟨rfl,rfl⟩)
end Go.Proofs.YtbjalbcdbgcgdaaGreat.fV
