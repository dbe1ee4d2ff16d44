/- Law HandStale: its texts, packed. -/
import Derived.Test.YtbjalbcdbgcgdaaGreatK11
import Derived.Test.YtbjalbcdbgcgdaaGreatK07
import Derived.Test.YtbjalbcdbgcgdaaGreatK09
import Derived.Test.YtbjalbcdbgcgdaaGreatK06
import Derived.Test.YtbjalbcdbgcgdaaGreatK05
open List renaming drop_eq_getElem_cons->cu,ext_getElem?->da,getD_eq_getElem?_getD->iw,getElem?_eq_getElem->aj,getElem?_eq_none->dz,getElem?_eq_some_iff->ah,getElem?_map->al,length_cons->fb,length_drop->eu,length_take->b9,take_length->jb
open Nat renaming le_refl->aq,lt_or_ge->iq,zero_le->fg
open Option renaming some.inj->bf
open Decidable renaming not_not->ir
open Array renaming getElem?_eq_some_iff->aa
set_option linter.unusedVariables false
set_option maxRecDepth 100000
set_option maxHeartbeats 8000000
namespace Go.Proofs.YtbjalbcdbgcgdaaGreat.dO
open Go.RowKit bG
def mU (w:Int):List Value:=[.int .i64 w]
def aDW (ps:List (Int×Int)) (gs:List Int) (i:Nat):Prop:= ∀ p g,ps[i]? =some p→gs[i]? =some g→fH p∧0≤g∧g≤2147483647
def dP (ps:List (Int×Int)) (gs:List Int):Prop:=ps.length=48∧gs.length=48∧ ∀ i,i<48→aDW ps gs i
structure ahT (W:World) (a g:Value) (ps:List (Int×Int)) (gs:List Int):Prop where
 ha:bM W 2 a (ps.map alK)
 hg:bM W 1 g (gs.map mU)
 ga: ∀ p∈ps,(Lit.int .i64 p.1).wf=true∧(Lit.int .i64 p.2).wf=true
 gg: ∀ z∈gs,(Lit.int .i64 z).wf=true
 la:ps.length≤1000000000000000
 lg:gs.length≤1000000000000000
structure Cells (W:World) (a g:Value) (ps:List (Int×Int)) (gs:List Int) (qa qg:Option Addr) (ca cg ba oa bg og:Nat):Prop where
 ea:a= .slice qa ps.length ca
 eg:g= .slice qg gs.length cg
 va: ∀ k,k<ps.length→qa=some ⟨ba,oa,none⟩∧ba<W.heap.size
 vg: ∀ k,k<gs.length→qg=some ⟨bg,og,none⟩∧bg<W.heap.size
 c0: ∀ k p,ps[k]? =some p→W.cell? ⟨ba,oa+k*2,none⟩=some (.int .i64 p.1)∧W.cell? ⟨ba,oa+k*2+1,none⟩=some (.int .i64 p.2)
 c1: ∀ k z,gs[k]? =some z→W.cell? ⟨bg,og+k,none⟩=some (.int .i64 z)
theorem ahT.cells {W:World} {a g:Value} {ps:List (Int×Int)} {gs:List Int} (h:ahT W a g ps gs): ∃ qa qg ca cg ba oa bg og,Cells W a g ps gs qa qg ca cg ba oa bg og:=by
 obtain⟨qa,ca,ba,oa,rfl,hqa,hca⟩:=h.ha.view;obtain⟨qg,cg,bg,og,rfl,hqg,hcg⟩:=h.hg.view;refine⟨qa,qg,ca,cg,ba,oa,bg,og,by simp,by simp,by simpa using hqa,by simpa using hqg,fun k p hp=> ?_,fun k z hz=> ?_⟩
 ·have h:=hca k (alK p) (by rw[al,hp];rfl);exact⟨h 0 _ rfl,h 1 _ rfl⟩
 ·have h:=hcg k (mU z) (by rw[al,hz];rfl) 0 _ rfl;simpa [Nat.mul_one] using h
theorem bH (a g:Value) (ps:List (Int×Int)) (gs:List Int) (W:World) (hm:ahT W a g ps gs):
  Calls Tryz.prog 110 #[.agg #[a,g]] W fun e w'=>(dP ps gs∧e= .returned (.int .i64 0)∨ ¬ dP ps gs∧e= .returned (.int .i64 4))∧Below W.heap.size W w':=by
 obtain⟨qa,qg,ca,cg,ba,oa,bg,og,hc⟩:=hm.cells;obtain⟨rfl,rfl,va,vg,c0,c1⟩:=hc;have HA:=Lib.hid va;have HG:=Lib.hid vg;have HC:=Lib.hid c0;have HD:=Lib.hid c1;have hla:=hm.la;have hlg:=hm.lg;have hga:=hm.ga;have hgg:=hm.gg;clear va vg c0 c1 hm;by_cases l1:(ps.length:Int)=48
 ·by_cases l2:(gs.length:Int)=48
  ·have e1:ps.length=48:=by omega
   have e2:gs.length=48:=by omega
   rw[e1,e2];have E1:=Lib.hid e1;have E2:=Lib.hid e2;clear l1 l2 e1 e2 hla hlg
   go_enter Tryz.func110,Tryz.ntmps110
   go_wp2_with (fail)
   have hbx0:(W.alloc (Obj.cells #[Value.slice qa 48 ca,Value.slice qg 48 cg] 73)).heap[W.heap.size]? =some (.cells #[Value.slice qa 48 ca,Value.slice qg 48 cg] 73 (0,0)):=heap_alloc_new _ _;have hb0:=(Below.refl W.heap.size W).alloc (aq _) (Obj.cells #[Value.slice qa 48 ca,Value.slice qg 48 cg] 73);have hlt0:W.heap.size<(W.alloc (Obj.cells #[Value.slice qa 48 ca,Value.slice qg 48 cg] 73)).heap.size:=by simp
   generalize W.alloc (Obj.cells #[Value.slice qa 48 ca,Value.slice qg 48 cg] 73)=W0 at hbx0 hb0 hlt0 ⊢
   go_loopw [18] (fun y wr=> ∃ k:Nat,k≤48∧y= .int .i64 k∧Hid (∀ i,i<k→aDW ps gs i)∧Below W0.heap.size W0 wr) (fun y _=>48-(intOf y).toNat)
   case atStart=>exact⟨0,by omega,rfl,fun i hi=>by omega,Below.refl _ _⟩
   case round=>
    obtain⟨k,hk,rfl,hok,hbw⟩:=hrel;have hb:Below W.heap.size W wr:=hb0.trans (hbw.mono hb0.size);have hbx:wr.heap[W.heap.size]? =some (.cells #[Value.slice qa 48 ca,Value.slice qg 48 cg] 73 (0,0)):=(hbw.block _ hlt0).trans hbx0;by_cases hlt:k<48
    ·obtain⟨rfl,hba⟩:=HA.out k (by rw[E1.out];exact hlt);obtain⟨rfl,hbg⟩:=HG.out k (by rw[E2.out];exact hlt);obtain⟨⟨c,n⟩,hp⟩: ∃ p,ps[k]? =some p:=⟨_,aj (by rw[E1.out];exact hlt)⟩;obtain⟨z,hz⟩: ∃ z,gs[k]? =some z:=⟨_,aj (by rw[E2.out];exact hlt)⟩;have hc:=HC.out k _ hp;have d0:wr.cell? ⟨ba,oa+k*2,none⟩=some (.int .i64 c):=(hb.cell (p:=⟨ba,oa+k*2,none⟩) hba).trans hc.1;have d1:wr.cell? ⟨ba,oa+k*2+1,none⟩=some (.int .i64 n):=(hb.cell (p:=⟨ba,oa+k*2+1,none⟩) hba).trans hc.2;have x0:wr.cell? ⟨W.heap.size,0,none⟩=some (Value.slice (some ⟨ba,oa,none⟩) 48 ca):=by rw[cell_of_row _ _ _ _ _ _ hbx];rfl
     have hltI:(k:Int)<48:=by omega
     have HP:=Lib.hid hp;have HZ:=Lib.hid hz;clear hc hp hz
     go_wp2_with (fail)
     refine (QX c n _).mono ?_;rintro e W1 ⟨rfl,hb1⟩;have hsz:=hb.size;have hbx1:W1.heap[W.heap.size]? =some (.cells #[Value.slice (some ⟨ba,oa,none⟩) 48 ca,Value.slice (some ⟨bg,og,none⟩) 48 cg] 73 (0,0)):=(hb1.block _ (by have:=(aa.1 hbx).1;simp;omega)).trans ((heap_alloc_old _ _ (aa.1 hbx).1).trans hbx);have hbw1:Below W0.heap.size W0 W1:=(hbw.alloc hbw.size _).trans (hb1.mono (Nat.le_trans hbw.size (by simp)));have hb2:Below W.heap.size W W1:=hb0.trans (hbw1.mono hb0.size);clear x0 d0 d1 hbx hbw hb hb1;by_cases hr:fH (c,n)
     ·rw[decide_eq_true hr];have x1:W1.cell? ⟨W.heap.size,1,none⟩=some (Value.slice (some ⟨bg,og,none⟩) 48 cg):=by rw[cell_of_row _ _ _ _ _ _ hbx1];rfl
      have d2:W1.cell? ⟨bg,og+k,none⟩=some (.int .i64 z):=(hb2.cell (p:=⟨bg,og+k,none⟩) hbg).trans (HD.out k z HZ.out);by_cases z0:z<0
      ·have hbad: ¬ dP ps gs:=fun h=>by have:=(h.2.2 k hlt _ _ HP.out HZ.out).2.1;omega
       clear hr
       go_wp2_with (fail)
       go_ret
       exact⟨.inr ⟨hbad,rfl⟩,hb2⟩
      ·by_cases z1:2147483647<z
       ·have hbad: ¬ dP ps gs:=fun h=>by have:=(h.2.2 k hlt _ _ HP.out HZ.out).2.2;omega
        clear hr
        go_wp2_with (fail)
        go_ret
        exact⟨.inr ⟨hbad,rfl⟩,hb2⟩
       ·have hnext:Hid (∀ i,i<k+1→aDW ps gs i):=fun i hi=>by
         by_cases hik:i<k
         ·exact hok.out i hik
         ·have:i=k:=by omega
          subst this;intro p g h1 h2;rw[HP.out] at h1;rw[HZ.out] at h2;have h3:=bf h1;have h4:=bf h2;subst h3 h4;exact⟨hr,by omega,by omega⟩
        clear hr
        go_wp2_with (fail)
        exact⟨⟨k+1,by omega,rfl,hnext,hbw1⟩,by show 48-(((k:Int)+1).toNat)<48-((k:Int).toNat);omega⟩
     ·rw[decide_eq_false hr];have hbad: ¬ dP ps gs:=fun h=>hr (h.2.2 k hlt _ _ HP.out HZ.out).1
      clear hr
      go_wp2_with (fail)
      go_ret
      exact⟨.inr ⟨hbad,rfl⟩,hb2⟩
    ·have hke:k=48:=by omega
     subst hke;have hgood:dP ps gs:=⟨E1.out,E2.out,hok.out⟩
     go_wp2_with (fail)
     go_ret
     exact⟨.inl ⟨hgood,rfl⟩,hb⟩
  ·have hbad: ¬ dP ps gs:=fun h=>by have:=h.2.1;omega
   have l2b:((gs.length:Int) !=48)=true:=by simpa using l2
   have l1b:((ps.length:Int) !=48)=false:=by simpa using l1
   have hb0:=(Below.refl W.heap.size W).alloc (aq _) (Obj.cells #[Value.slice qa ps.length ca,Value.slice qg gs.length cg] 73);clear l1 l2
   go_enter Tryz.func110,Tryz.ntmps110
   go_wp2_with (fail)
   go_ret
   exact⟨.inr ⟨hbad,rfl⟩,hb0⟩
 ·have hbad: ¬ dP ps gs:=fun h=>by have:=h.1;omega
  have l1b:((ps.length:Int) !=48)=true:=by simpa using l1
  have hb0:=(Below.refl W.heap.size W).alloc (aq _) (Obj.cells #[Value.slice qa ps.length ca,Value.slice qg gs.length cg] 73);clear l1
  go_enter Tryz.func110,Tryz.ntmps110
  go_wp2_with (fail)
  go_ret
  exact⟨.inr ⟨hbad,rfl⟩,hb0⟩
end Go.Proofs.YtbjalbcdbgcgdaaGreat.dO
namespace Go.Proofs.YtbjalbcdbgcgdaaGreat.dO
open Go.RowKit bG sl
def WfM (ps:List (Int×Int)) (gs:List Int):Prop:=(∀ p∈ps,(Lit.int .i64 p.1).wf=true∧(Lit.int .i64 p.2).wf=true)∧(∀ z∈gs,(Lit.int .i64 z).wf=true)∧ps.length≤1000000000000000∧gs.length≤1000000000000000
theorem YS {W:World} {a g:Value} {ps:List (Int×Int)} {gs:List Int} (h:aD [sl 2 a (ps.map jW),sl 1 g (gs.map fI)] W) (hw:WfM ps gs):ahT W a g ps gs:=
 ⟨h.1 (sl 2 a (ps.map jW)) (by simp),h.1 (sl 1 g (gs.map fI)) (by simp),hw.1,hw.2.1,hw.2.2.1,hw.2.2.2⟩
attribute [local irreducible] box own sl gH aH bC Qt cJ cG dC dG eO
theorem lY (a g:Value) {ps:List (Int×Int)} {gs:List Int} (hw:WfM ps gs) (h:dP ps gs):Ct Tryz.prog 110 [.agg #[a,g]] [sl 2 a (ps.map jW),sl 1 g (gs.map fI)] fun v H'=>v= .int .i64 0∧H'=[]:=
 aW fun W hW => (bH a g ps gs W (YS hW hw)).mono fun e w' ⟨h1, h2⟩ => ⟨by
  rcases h1 with h1|h1
  ·exact h1.2
  ·exact absurd h h1.1, h2⟩
theorem QY (a g:Value) {ps:List (Int×Int)} {gs:List Int} (hw:WfM ps gs) (h: ¬ dP ps gs):Ct Tryz.prog 110 [.agg #[a,g]] [sl 2 a (ps.map jW),sl 1 g (gs.map fI)] fun v H'=>v= .int .i64 4∧H'=[]:=
 aW fun W hW => (bH a g ps gs W (YS hW hw)).mono fun e w' ⟨h1, h2⟩ => ⟨by
  rcases h1 with h1|h1
  ·exact absurd h1.1 h
  ·exact h1.2, h2⟩
theorem KM (p:Int×Int):Ct Tryz.prog 178 [.agg #[.int .i64 p.1, .int .i64 p.2]] [] fun v H'=>v= .bool (decide (fH p))∧H'=[]:=
 aW fun W hW=>QX p.1 p.2 W
end Go.Proofs.YtbjalbcdbgcgdaaGreat.dO
namespace Go.Proofs.YtbjalbcdbgcgdaaGreat.dE
open Go.RowKit bG sl dO jX fix
def oI:List (Int×Int)→Bool
 |[]=>true
 |p::l=>if fH p then oI l else false
theorem KN {ps:List (Int×Int)} {k:Nat} {p:Int×Int} (hp:ps[k]? =some p) (h:oI (ps.take k)=true):(fH p→oI (ps.take (k+1))=true)∧(¬ fH p→oI ps=false):=by
 induction ps generalizing k with
 |nil=>simp at hp
 |cons q ps ih=>
  cases k with
  |zero=>
   simp at hp;subst hp;exact⟨fun h=>by simp [oI,h],fun h=>by simp [oI,h]⟩
  |succ k=>
   simp only[List.take_succ_cons,oI] at h ⊢;split at h
   ·rename_i h2;rw[if_pos h2,if_pos h2];exact ih (by simpa using hp) h
   ·cases h
theorem alL {ps:List (Int×Int)} (h:oI ps=true): ∀ p∈ps,fH p:=by
 induction ps with
 |nil=>intro p hp;exact absurd hp List.not_mem_nil
 |cons q ps ih=>
  rw[oI] at h;split at h
  ·rename_i h2;intro p hp;rcases List.mem_cons.1 hp with rfl|hp
   ·exact h2
   ·exact ih h p hp
  ·cases h
def jZ (k g z:Int) (ps:List (Int×Int)):Int:=
 if (k≠1∧k≠2)∨g<0∨2147483647<g then 1 else if z<0∨4096<z then 2 else if (ps.length:Int)≠(z+512-1)/512 then 4 else if oI ps=true then 0 else 4
def prs:List UInt8→List (Int×Int)
 |a::b::l=>((a.toNat:Int),(b.toNat:Int))::prs l
 |_=>[]
theorem asF {l:List UInt8} {i:Nat} {a b:UInt8} (ha:l[i]? =some a) (hb:l[i+1]? =some b):prs (l.drop i)=((a.toNat:Int),(b.toNat:Int))::prs (l.drop (i+2)):=by
 have h1:=(ah.1 ha);have h2:=(ah.1 hb);obtain⟨g1,e1⟩:=h1;obtain⟨g2,e2⟩:=h2;rw[cu g1,cu g2,e1,e2,prs]
theorem ayV {l:List UInt8} {i:Nat} (h:l.length≤i):prs (l.drop i)=[]:=by
 rw[List.drop_eq_nil_of_le h];rfl
theorem ahU: ∀ (n:Nat) (l:List UInt8),l.length≤n→(prs l).length≤n:=by
 intro n;induction n using Nat.strongRecOn with
 |_ n ih=>
  intro l h
  match l,h with
  |[],_=>exact fg _
  |[a],_=>exact fg _
  |a::b::l,h=>
   rw[prs,fb];simp only[fb] at h;have:=ih (n-2) (by omega) l (by omega);omega
def kI (l:List UInt8):Int:=((l.getD 0 0).toNat:Int)
def gI (l:List UInt8):Int:=(bU (dU l 1 5):Int)
def zI (l:List UInt8):Int:=(bU (dU l 5 7):Int)
def pI (l:List UInt8):List (Int×Int):=prs (l.drop 7)
def pM (l:List UInt8):Prop:=7≤l.length∧l.length%2=1∧jZ (kI l) (gI l) (zI l) (pI l)=0
instance (l:List UInt8):Decidable (pM l):=by unfold pM;infer_instance
theorem YT {l:List UInt8} (h:pM l): ∀ p∈pI l,fH p:=by
 have h2:=h.2.2;unfold jZ at h2;split at h2
 ·cases h2
 ·split at h2
  ·cases h2
  ·split at h2
   ·cases h2
   ·split at h2
    ·rename_i h3;exact alL h3
    ·cases h2
attribute [local irreducible] box own sl gH aH bC Qt cJ cG dC dG eO
theorem KO (k g z:Int) (q:Option Addr) (c:Nat) (ps:List (Int×Int)) (hk:(Lit.int .i64 k).wf=true) (hg:(Lit.int .i64 g).wf=true) (hz:(Lit.int .i64 z).wf=true) (hl:ps.length≤1000000000000):
  Ct Tryz.prog 238 [.agg #[.int .i64 k, .int .i64 g, .int .i64 z, .slice q ps.length c]] [sl 2 (.slice q ps.length c) (ps.map jW)] fun v H'=>v= .int .i64 (jZ k g z ps)∧H'=[]:=by
 have hzb:=CB hz;by_cases h1:(k≠1∧k≠2)∨g<0∨2147483647<g
 ·have e:jZ k g z ps=1:=by unfold jZ;rw[if_pos h1]
  rw[e];(refine Ye Tryz.func238 Tryz.ntmps238 ?_;intro Fr);(repeat' (first|refine Wa ?_|refine We ?_|(refine Wb ?_;intro b)|(refine Ws ?_ ?_<;>intro h)|fail));all_goals first|(exfalso;omega)|exact Ea (x:=⟨rfl,rfl⟩)
 ·by_cases h2:z<0∨4096<z
  ·have e:jZ k g z ps=2:=by unfold jZ;rw[if_neg h1,if_pos h2]
   rw[e];(refine Ye Tryz.func238 Tryz.ntmps238 ?_;intro Fr);(repeat' (first|refine Wa ?_|refine We ?_|(refine Wb ?_;intro b)|(refine Ws ?_ ?_<;>intro h)|fail));all_goals first|(exfalso;omega)|exact Ea (x:=⟨rfl,rfl⟩)
  ·by_cases h3:(ps.length:Int)≠(z+512-1)/512
   ·have e:jZ k g z ps=4:=by unfold jZ;rw[if_neg h1,if_neg h2,if_pos h3]
    rw[e];(refine Ye Tryz.func238 Tryz.ntmps238 ?_;intro Fr);(repeat' (first|refine Wa ?_|refine We ?_|(refine Wb ?_;intro b)|(refine Ws ?_ ?_<;>intro h)|fail));all_goals first|(exfalso;omega)|exact Ea (x:=⟨rfl,rfl⟩)
   ·have e:jZ k g z ps=if oI ps=true then 0 else 4:=by unfold jZ;rw[if_neg h1,if_neg h2,if_neg h3]
    rw[e];have h3':(ps.length:Int)=(z+512-1)/512:=ir.1 h3;have hk12:k=1∨k=2:=by omega
    rcases hk12 with rfl|rfl
    ·(refine Ye Tryz.func238 Tryz.ntmps238 ?_;intro Fr);(repeat' (first|refine Wa ?_|refine We ?_|(refine Wb ?_;intro b)|fail));(refine cK (σ:=Nat) (fun k=>k≤ps.length∧oI (ps.take k)=true) (fun k=>[(43, .int .i64 (k:Int))]) (fun k=>ps.length-k) (0) (by exact⟨fg _,rfl⟩) (by exact gA) (fun k ⟨hk,ha⟩=> ?_);refine Da ?_);rcases iJ ps k with⟨p,hp,hlt⟩|hge
     ·have R0:=KM p;have ht:=KN hp ha;by_cases ho:fH p
      ·have e0:decide (fH p)=true:=by simpa using ho
       rw[e0] at R0;(repeat' (first|refine Wa ?_|refine We ?_|(refine Wb ?_;intro b)|refine Wc (R0 ..) ?_|fail));refine Ee (k+1) ?_ ?_
       ·exact⟨hlt,ht.1 ho⟩
       ·omega
      ·have e0:decide (fH p)=false:=by simpa using ho
       rw[e0] at R0;rw[if_neg (by rw[ht.2 ho];decide)];(repeat' (first|refine Wa ?_|refine We ?_|(refine Wb ?_;intro b)|refine Wc (R0 ..) ?_|fail));exact Ea (x:=⟨rfl,rfl⟩)
     ·have hkl:k=ps.length:=by omega
      subst hkl;rw[jb] at ha;rw[if_pos ha];refine aZ ?_;exact Ea (x:=⟨rfl,rfl⟩)
    ·(refine Ye Tryz.func238 Tryz.ntmps238 ?_;intro Fr);(repeat' (first|refine Wa ?_|refine We ?_|(refine Wb ?_;intro b)|fail));(refine cK (σ:=Nat) (fun k=>k≤ps.length∧oI (ps.take k)=true) (fun k=>[(43, .int .i64 (k:Int))]) (fun k=>ps.length-k) (0) (by exact⟨fg _,rfl⟩) (by exact gA) (fun k ⟨hk,ha⟩=> ?_);refine Da ?_);rcases iJ ps k with⟨p,hp,hlt⟩|hge
     ·have R0:=KM p;have ht:=KN hp ha;by_cases ho:fH p
      ·have e0:decide (fH p)=true:=by simpa using ho
       rw[e0] at R0;(repeat' (first|refine Wa ?_|refine We ?_|(refine Wb ?_;intro b)|refine Wc (R0 ..) ?_|fail));refine Ee (k+1) ?_ ?_
       ·exact⟨hlt,ht.1 ho⟩
       ·omega
      ·have e0:decide (fH p)=false:=by simpa using ho
       rw[e0] at R0;rw[if_neg (by rw[ht.2 ho];decide)];(repeat' (first|refine Wa ?_|refine We ?_|(refine Wb ?_;intro b)|refine Wc (R0 ..) ?_|fail));exact Ea (x:=⟨rfl,rfl⟩)
     ·have hkl:k=ps.length:=by omega
      subst hkl;rw[jb] at ha;rw[if_pos ha];refine aZ ?_;exact Ea (x:=⟨rfl,rfl⟩)
def asG (l:List UInt8) (v:Value) (H':List Ent):Prop:=
 (pM l∧ ∃ q c,v= .tuple #[.agg #[.int .i64 (kI l), .int .i64 (gI l), .int .i64 (zI l), .slice q (pI l).length c], .int .i64 0]∧H'=[own (.slice q (pI l).length c) 77 2 (pI l).length (flat jW (pI l))])∨
 (¬ pM l∧v= .tuple #[.agg #[.int .i64 0, .int .i64 0, .int .i64 0, .slice none 0 0], .int .i64 4]∧H'=[])
theorem QZ (l:List UInt8) (hl:l.length≤4000000):Ct Tryz.prog 180 [.string (str l)] [] (asG l):=by
 have bad: ¬ pM l→asG l (.tuple #[.agg #[.int .i64 0, .int .i64 0, .int .i64 0, .slice none 0 0], .int .i64 4]) []:=fun h=> .inr ⟨h,rfl,rfl⟩
 by_cases h7:l.length<7
 ·have B0:=bad fun h=>by have:=h.1;omega
  (refine Ye Tryz.func180 Tryz.ntmps180 ?_;intro Fr);(repeat' (first|refine Wa ?_|refine We ?_|(refine Wb ?_;intro b)|fail));exact Ea (x:=B0)
 ·by_cases h2:l.length%2=0
  ·have B0:=bad fun h=>by have:=h.2.1;omega
   have h2I:(l.length:Int)%2=0:=by omega
   (refine Ye Tryz.func180 Tryz.ntmps180 ?_;intro Fr);(repeat' (first|refine Wa ?_|refine We ?_|(refine Wb ?_;intro b)|fail));exact Ea (x:=B0)
  ·have h2I: ¬ (l.length:Int)%2=0:=by omega
   obtain⟨b0,hb0⟩: ∃ b0,l[0]? =some b0:=⟨_,aj (by omega)⟩;have hk:kI l=(b0.toNat:Int):=by unfold kI;rw[iw,hb0];rfl
   have U1:=zL (dU l 1 5) (by unfold dU;rw[b9];omega);have U2:=zL (dU l 5 7) (by unfold dU;rw[b9];omega);have u1:bU (dU l 1 5)<4294967296:=by
    have:=qM (dU l 1 5);have h2:(dU l 1 5).length=4:=by unfold dU;rw[b9,eu];omega
    rwa [h2] at this
   have u2:bU (dU l 5 7)<65536:=by
    have:=qM (dU l 5 7);have h2:(dU l 5 7).length=2:=by unfold dU;rw[b9,eu];omega
    rwa [h2] at this
   have hg:gI l=(bU (dU l 1 5):Int):=rfl;have hz:zI l=(bU (dU l 5 7):Int):=rfl;have hbt:=b0.toNat_lt;have hs1:(l.drop 1).take (5-1)=dU l 1 5:=rfl;have hs2:(l.drop 5).take (7-5)=dU l 5 7:=rfl;have hpl:(pI l).length≤4000000:=ahU 4000000 _ Zk;have wk:(Lit.int .i64 (kI l)).wf=true:=by rw[hk];simp [Lit.wf,IntKind.min,IntKind.max,IntKind.signed,IntKind.bits];omega
   have wg:(Lit.int .i64 (gI l)).wf=true:=by rw[hg];simp [Lit.wf,IntKind.min,IntKind.max,IntKind.signed,IntKind.bits];omega
   have wz:(Lit.int .i64 (zI l)).wf=true:=by rw[hz];simp [Lit.wf,IntKind.min,IntKind.max,IntKind.signed,IntKind.bits];omega
   have CK:=fun q c=>KO (kI l) (gI l) (zI l) q c (pI l) wk wg wz (by omega)
   obtain⟨ce,hce⟩: ∃ ce,jZ (kI l) (gI l) (zI l) (pI l)=ce:=⟨_,rfl⟩;rw[hce] at CK;have hgood:pM l↔ce=0:=by
    unfold pM;rw[hce];exact⟨fun h=>h.2.2,fun h=>⟨by omega,by omega,h⟩⟩
   unfold asG;rw[hk,hg,hz] at CK ⊢;generalize bU (dU l 1 5)=n1 at*;generalize bU (dU l 5 7)=n2 at*;(refine Ye Tryz.func180 Tryz.ntmps180 ?_;intro Fr);(repeat' (first|refine Wa ?_|refine We ?_|(refine Wb ?_;intro b)|refine Wc (U1 ..) ?_|refine Wc (U2 ..) ?_|fail));rename_i br;refine aT (aY _ 77 2) ?_;(refine aC (σ:=Nat×Option Addr×Nat×List (Int×Int)) (fun x=>(7+2*x.1≤l.length∧x.2.2.2.length=x.1)∧x.2.2.2++prs (l.drop (7+2*x.1))=pI l) (fun x=>[(9, .int .i64 ((7+2*x.1:Nat):Int))]) (fun x=>[own (.slice x.2.1 x.2.2.2.length x.2.2.1) 77 2 x.2.2.2.length (flat jW x.2.2.2),box b [.int .i64 (b0.toNat:Int), .int .i64 (n1:Int), .int .i64 (n2:Int), .slice x.2.1 x.2.2.2.length x.2.2.1] 79]) _ (fun x=>l.length-7-2*x.1) ((0,none,0,[])) (by exact⟨⟨by show 7+2*0≤_;omega,rfl⟩,rfl⟩) (by exact gA) Zb (fun⟨j,q3,c3,ps⟩ ⟨⟨hj,hjl⟩,hps⟩=> ?_);refine Da ?_);dsimp only at hj hjl hps ⊢;rcases iq (7+2*j) l.length with hlt|hge
   ·obtain⟨x,hx⟩: ∃ x,l[7+2*j]? =some x:=⟨_,aj hlt⟩;obtain⟨y,hy⟩: ∃ y,l[7+2*j+1]? =some y:=⟨_,aj (by omega)⟩;rw[asF hx hy] at hps;have hstep:((7+2*j:Nat):Int)+2=((7+2*(j+1):Nat):Int):=by omega
    have hxt:=x.toNat_lt;have hyt:=y.toNat_lt;generalize hi:7+2*j=i at*;refine dN ?_;(refine aB (Hq:=[_]) [1] [15] rfl (by kernel_rfl) Za ?_);refine gX ?_;(refine aA 12 ?_;refine Oa (l:=by exact aM rfl rfl rfl (by exact lE) rfl rfl (by decide) rfl) (k:= ?_);rintro _ _ ⟨q9,rfl,rfl⟩;refine Te ?_;(try refine Da ?_));(refine aA 13 ?_;refine Oa (l:=by exact (by first|exact Ma (jW) [((x.toNat:Int),(y.toNat:Int))] rfl|exact Mb (jW) [((x.toNat:Int),(y.toNat:Int))] rfl)) (k:= ?_);rintro _ _ ⟨q4,c4,rfl,rfl⟩;refine Te ?_;(try refine Da ?_));refine pT ?_;rw[hstep];refine Ee ((j+1,q4,c4,ps++[((x.toNat:Int),(y.toNat:Int))])) ?_ ?_
    ·refine⟨⟨by dsimp only;omega,by dsimp only;rw[List.length_append,List.length_singleton,hjl]⟩, ?_⟩;dsimp only;rw[List.append_assoc,show 7+2*(j+1)=i+2 by omega];exact hps
    ·dsimp only;omega
   ·rw[ayV (by omega),List.append_nil] at hps;subst hps;by_cases hc0:ce=0
    ·subst hc0;(repeat' (first|refine Wa ?_|refine We ?_|refine Wc (CK ..) ?_|fail));exact Ea (x:= .inl ⟨hgood.2 rfl,q3,c3,rfl,rfl⟩)
    ·(repeat' (first|refine Wa ?_|refine We ?_|refine Wc (CK ..) ?_|fail));exact Ea (x:= .inr ⟨fun h=>hc0 (hgood.1 h),rfl,rfl⟩)
end Go.Proofs.YtbjalbcdbgcgdaaGreat.dE
namespace Go.Proofs.YtbjalbcdbgcgdaaGreat.sl
end Go.Proofs.YtbjalbcdbgcgdaaGreat.sl
namespace Go.Proofs.YtbjalbcdbgcgdaaGreat.use
open Go.RowKit bG sl aX fV dE
theorem DA (cs:Cells) (ps:dK) (p:Int×Int):(bS cs ps p).1.2.2.2.length≤600:=by
 unfold bS;split
 ·exact fg _
 ·split
  ·exact fg _
  ·rename_i r hr;split
   ·exact fg _
   ·obtain⟨n,zs,b⟩:=r;rename_i h1 h2;dsimp only at h2 ⊢;have hlt:p.2.toNat<zs.length:=by omega
    rw[iw,aj hlt];exact (kL ((QW hr).2 _ (List.getElem_mem hlt))).2.2.2.2.2.2
theorem ahV {cs:Cells} {ps:dK} {p:Int×Int} (h:(bS cs ps p).2=0):2≤p.1∧p.1<(cs.length:Int)∧0≤p.2:=by
 unfold bS at h;split at h
 ·cases h
 ·omega
def gZ (cs:Cells) (ps:dK) (n k:Int) (p:Int×Int):List UInt8×Int:=
 if (bS cs ps p).2=0∧(bS cs ps p).1.1=1∧(bS cs ps p).1.2.1=n∧(bS cs ps p).1.2.2.1=k then ((bS cs ps p).1.2.2.2,0) else ([],18)
def nR (cs:Cells) (ps:dK) (p:Int×Int) (g n:Int):Option (List UInt8):=
 if (bS cs ps p).2=0∧(bS cs ps p).1.1=2∧(bS cs ps p).1.2.1=n∧pM (bS cs ps p).1.2.2.2∧gI (bS cs ps p).1.2.2.2=g then some (bS cs ps p).1.2.2.2 else none
theorem alM {l:List UInt8} (hl:l.length≤4000000) (h:pM l):Ct Tryz.prog 180 [.string (str l)] [] fun v H'=> ∃ q c,v= .tuple #[.agg #[.int .i64 (kI l), .int .i64 (gI l), .int .i64 (zI l), .slice q (pI l).length c], .int .i64 0]∧H'=[own (.slice q (pI l).length c) 77 2 (pI l).length (flat jW (pI l))]:=
 eW (QZ l hl) fun v H' h2=>by
  rcases h2 with⟨_,h3⟩|⟨h3,_⟩
  ·exact h3
  ·exact absurd h h3
theorem asH {l:List UInt8} (hl:l.length≤4000000) (h: ¬ pM l):Ct Tryz.prog 180 [.string (str l)] [] fun v H'=>v= .tuple #[.agg #[.int .i64 0, .int .i64 0, .int .i64 0, .slice none 0 0], .int .i64 4]∧H'=[]:=
 eW (QZ l hl) fun v H' h2=>by
  rcases h2 with⟨h3,_⟩|⟨_,h3⟩
  ·exact absurd h3 h
  ·exact h3
attribute [local irreducible] box own sl gH aH bC Qt cJ cG dC dG eO
theorem YU (a w:Option Addr) (ca cw:Nat) (cs:Cells) (ps:dK) (n k:Int) (p:Int×Int) (hg:aX.Good cs ps):
  Ct Tryz.prog 112 [.agg #[.slice a cs.length ca, .slice w ps.length cw], .int .i64 n, .int .i64 k, .agg #[.int .i64 p.1, .int .i64 p.2]] [sl 1 (.slice a cs.length ca) (cs.map fS),sl 2 (.slice w ps.length cw) (ps.map fP)] fun v H'=>v= .tuple #[.string (str (gZ cs ps n k p).1), .int .i64 (gZ cs ps n k p).2]∧H'=[]:=by
 have B0:=YQ a w ca cw cs ps p hg;unfold gZ;obtain⟨⟨⟨bk,bi,bn,bt⟩,e⟩,hb⟩: ∃ r,bS cs ps p=r:=⟨_,rfl⟩;rw[hb] at B0 ⊢;dsimp only at B0 ⊢;by_cases h:e=0∧bk=1∧bi=n∧bn=k
 ·rw[if_pos h];obtain⟨rfl,rfl,rfl,rfl⟩:=h;(refine Ye Tryz.func112 Tryz.ntmps112 ?_;intro Fr);(repeat' (first|refine Wa ?_|refine We ?_|(refine Wb ?_;intro b)|refine Wc (B0 ..) ?_|fail));exact Ea (x:=⟨rfl,rfl⟩)
 ·rw[if_neg h];(refine Ye Tryz.func112 Tryz.ntmps112 ?_;intro Fr);(repeat' (first|refine Wa ?_|refine We ?_|(refine Wb ?_;intro b)|refine Wc (B0 ..) ?_|(refine Ws ?_ ?_<;>intro h)|fail));all_goals first|(exfalso;omega)|exact Ea (x:=⟨rfl,rfl⟩)
def aGK (cs:Cells) (ps:dK) (p:Int×Int) (g n:Int) (v:Value) (H':List Ent):Prop:=
 (∃ l q c,nR cs ps p g n=some l∧v= .tuple #[.agg #[.int .i64 (kI l), .int .i64 (gI l), .int .i64 (zI l), .slice q (pI l).length c], .string (str l), .int .i64 0]∧H'=[own (.slice q (pI l).length c) 77 2 (pI l).length (flat jW (pI l))])∨
 (nR cs ps p g n=none∧v= .tuple #[.agg #[.int .i64 0, .int .i64 0, .int .i64 0, .slice none 0 0], .string (str []), .int .i64 18]∧H'=[])
theorem RC (a w qa qg:Option Addr) (ca cw ca2 cg:Nat) (cs:Cells) (ps:dK) (at':List (Int×Int)) (aE:List Int) (i:Nat) (p:Int×Int) (g:Int) (hp:at'[i]? =some p) (hgi:aE[i]? =some g) (hl:at'.length≤1000) (hg:aX.Good cs ps):
  Ct Tryz.prog 111 [.agg #[.slice a cs.length ca, .slice w ps.length cw], .agg #[.slice qa at'.length ca2, .slice qg aE.length cg], .int .i64 (i:Int)] [sl 1 (.slice a cs.length ca) (cs.map fS),sl 2 (.slice w ps.length cw) (ps.map fP),sl 2 (.slice qa at'.length ca2) (at'.map jW),sl 1 (.slice qg aE.length cg) (aE.map fI)] (aGK cs ps p g (i:Int)):=by
 have B0:=YQ a w ca cw cs ps p hg;have ht:=DA cs ps p;have hli:i<at'.length:=(ah.1 hp).1;have hlg:i<aE.length:=(ah.1 hgi).1;unfold aGK nR;obtain⟨⟨⟨bk,bi,bn,bt⟩,e⟩,hb⟩: ∃ r,bS cs ps p=r:=⟨_,rfl⟩;rw[hb] at B0 ht ⊢;dsimp only at B0 ht ⊢;by_cases h:e=0∧bk=2∧bi=(i:Int)
 ·obtain⟨rfl,rfl,rfl⟩:=h;by_cases hgd:pM bt
  ·have R0:=alM (by omega) hgd;by_cases hgen:gI bt=g
   ·rw[if_pos ⟨rfl,rfl,rfl,hgd,hgen⟩];(refine Ye Tryz.func111 Tryz.ntmps111 ?_;intro Fr);(repeat' (first|refine Wa ?_|refine Wk ?_|refine We ?_|(refine Wb ?_;intro b)|refine Wc (B0 ..) ?_|(refine aA 6 ?_;refine cU 10 (by decide +kernel) ?_ ?_)|(refine Wi ?_;intro b)|fail));all_goals
     (refine Ca (R0) ?_;rintro _ _ ⟨_,⟨q9,c9,rfl,rfl⟩,rfl⟩;refine Da ?_);(repeat' (first|refine Wa ?_|refine aF ?_|(refine Wb ?_;intro b)|fail));(refine aB (Hq:=[_,_,_]) [0,4,9] [] rfl (by kernel_rfl) Za ?_);(repeat' (first|refine Wa ?_|refine Wk ?_|refine aF ?_|fail));(refine aB (Hq:=[_,_]) [0,2] [] rfl (by kernel_rfl) Za ?_);refine pT ?_;exact Ea (x:= .inl ⟨bt,q9,c9,rfl,rfl,rfl⟩)
   ·rw[if_neg (fun h=>hgen h.2.2.2.2)];(refine Ye Tryz.func111 Tryz.ntmps111 ?_;intro Fr);(repeat' (first|refine Wa ?_|refine Wk ?_|refine We ?_|(refine Wb ?_;intro b)|refine Wc (B0 ..) ?_|(refine aA 6 ?_;refine cU 10 (by decide +kernel) ?_ ?_)|(refine Wi ?_;intro b)|fail));all_goals
     (refine Ca (R0) ?_;rintro _ _ ⟨_,⟨q9,c9,rfl,rfl⟩,rfl⟩;refine Da ?_);(repeat' (first|refine Wa ?_|refine Wk ?_|refine We ?_|(refine Wb ?_;intro b)|fail));exact Ea (x:= .inr ⟨rfl,rfl,rfl⟩)
  ·have R0:=asH (by omega) hgd;rw[if_neg (fun h=>hgd h.2.2.2.1)];(refine Ye Tryz.func111 Tryz.ntmps111 ?_;intro Fr);(repeat' (first|refine Wa ?_|refine Wk ?_|refine We ?_|(refine Wb ?_;intro b)|refine Wc (B0 ..) ?_|(refine aA 6 ?_;refine cU 10 (by decide +kernel) ?_ ?_)|(refine Wi ?_;intro b)|fail));all_goals
    (repeat' (first|refine Wa ?_|refine Wk ?_|refine We ?_|(refine Wb ?_;intro b)|refine Wc (R0 ..) ?_|fail));exact Ea (x:= .inr ⟨rfl,rfl,rfl⟩)
 ·rw[if_neg (fun h2=>h ⟨h2.1,h2.2.1,h2.2.2.1⟩)];(refine Ye Tryz.func111 Tryz.ntmps111 ?_;intro Fr);(repeat' (first|refine Wa ?_|refine Wk ?_|refine We ?_|(refine Wb ?_;intro b)|refine Wc (B0 ..) ?_|(refine Ws ?_ ?_<;>intro h)|(refine aA 6 ?_;refine cU 10 (by decide +kernel) ?_ ?_)|(refine Wi ?_;intro b)|fail));all_goals first|(exfalso;omega)|exact Ea (x:= .inr ⟨rfl,rfl,rfl⟩)
end Go.Proofs.YtbjalbcdbgcgdaaGreat.use
namespace Go.Proofs.YtbjalbcdbgcgdaaGreat.sl
def dX (n:Nat) (B:Nat→Nat):List Int:=(List.range n).map fun i=>(B i:Int)
def fJ (B:Nat→Nat) (i v:Nat):Nat→Nat:=fun j=>if j=i then v else B j
theorem eJ (n:Nat) (B:Nat→Nat):(dX n B).length=n:=by simp [dX]
theorem dI {n i:Nat} (B:Nat→Nat) (h:i<n):(dX n B)[i]? =some ((B i:Nat):Int):=by
 unfold dX;rw[al,List.getElem?_range h];rfl
theorem fK {n i:Nat} (B:Nat→Nat) (v:Nat) (h:i<n):(dX n B).set i (v:Int)=dX n (fJ B i v):=by
 apply da;intro j;rw[List.getElem?_set];rcases iq j n with hj|hj
 ·rw[dI _ hj,dI _ hj];unfold fJ;by_cases e:i=j
  ·subst e;rw[if_pos rfl,if_pos (by rw[eJ];exact h),if_pos rfl]
  ·rw[if_neg e,if_neg (fun h=>e h.symm)]
 ·rw[if_neg (by omega),dz (by rw[eJ];exact hj),dz (by rw[eJ];exact hj)]
theorem kT (n:Nat):List.replicate n (0:Int)=dX n (fun _=>0):=by
 apply da;intro j;rcases iq j n with hj|hj
 ·rw[dI _ hj,List.getElem?_replicate,if_pos hj];rfl
 ·rw[dz (by simpa using hj),dz (by rw[eJ];exact hj)]
end Go.Proofs.YtbjalbcdbgcgdaaGreat.sl
