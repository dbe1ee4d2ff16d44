/- Law HandStale: its texts, packed. -/
import Derived.Test.YtbjalbcdbgcgdaaGreatRows
import Derived.Test.YtbjalbcdbgcgdaaGreatK00
import Derived.Test.YtbjalbcdbgcgdaaGreatK07
open List renaming Pairwise.nil->ld,Perm.append_left->k8,Perm.refl->gj,Perm.trans->ll,append_assoc->ep,append_nil->jc,append_of_mem->ku,cons_append->jg,count->kr,count_eq_zero->k9,filter_cons->kz,flatMap_cons->kv,getD_eq_getElem?_getD->iw,getElem?_eq_getElem->aj,getElem?_eq_none->dz,getElem?_eq_some_iff->ah,getElem?_map->al,getElem?_take->bp,length_append->ag,length_cons->fb,length_filter_le->ks,length_nil->lk,length_range->kx,map_cons->eh,map_take->gk,mem_append->ft,mem_cons->aw,mem_cons_of_mem->ax,mem_cons_self->bc,mem_iff_getElem?->kp,mem_map->fu,mem_of_mem_take->kt,mem_range->lp,pairwise_cons->au,pairwise_iff_getElem->ky,perm_cons->ln,perm_middle->ko,range->jn,take_append_drop->il,take_succ_cons->im
open Nat renaming add_mul->an,div_div_eq_div_mul->j6,le_refl->aq,lt_or_ge->iq,min_eq_left->gi,mul_assoc->ig,mul_comm->ej,pow_succ->gu,sub_mul->ly,two_pow_pos->j5,zero_add->di,zero_le->fg,zero_mul->lr
open Int renaming le_refl->lh,mul_add->lu
set_option linter.unusedVariables false
set_option maxRecDepth 100000
set_option maxHeartbeats 8000000
namespace Go.Proofs.YtbjalbcdbgcgdaaGreat.RP
open Go.RowKit bG
def qX (s:Int):List Value:=[Value.int .i64 s]
theorem ZI: ∀ y,(qX y).length=1:=fun _=>rfl
theorem ZJ: ∀ y, ∀ u∈qX y,u.oneCell'=true:=by
 intro y u hu;simp [qX] at hu;subst hu;rfl
theorem tE:iU Tryz.prog 23 3 1 8 (.int .i64 0):=wZ Tryz.underlying23 (by kernel_rfl) rfl (by decide)
theorem atM (n:Nat) (hn:n*8≤281474976710656) (W:World):
  Calls Tryz.prog 361 #[.slice none 0 0, .int .i64 n] W fun e w'=> ∃ v,e= .returned v∧w'.ownsRow W.heap.size 3 1 v 0 []∧Room v n∧Below W.heap.size W w':=by
 obtain⟨h1,h2,h3,i,hi1,hi2,hi3,hi4⟩:=tE;have hnI:(n:Int)≤281474976710656:=by omega
 by_cases h0:n=0
 ·subst h0
  go_enter Tryz.func361,Tryz.ntmps361
  go_wp2_with (fail)
  go_ret
  exact⟨_,rfl,World.ownsRow_nil _ _ _ _, .inl ⟨rfl,rfl⟩,Below.refl _ _⟩
 ·have hr:=fun ty=>Lib.run_append_nil_zeros (P:=Tryz.prog) W 23 3 ty 3 i (.int .i64 0) .i64 .i64 h1 Tryz.underlying3 hi1 hi2 n (by omega) (by omega) (by omega) (by rw[hi4];omega)
  have hrow:=acY (w:=W) (e:=3) (n:=n) h2 Zh;have hge:=grownCap_ge W n 0 3;have hle:=grownCap_le_maxLen W n 0 3 Zh;unfold maxLen at hle;have hb:Below W.heap.size W (W.drew.alloc (.cells (Builtin.zeroCells (Value.int .i64 0).cells n++Builtin.zeroCells (Value.int .i64 0).cells (grownCap W n 0 3-n)) 3)):=(Below.refl _ _).drew.alloc (aq _) _;generalize W.drew.alloc (.cells (Builtin.zeroCells (Value.int .i64 0).cells n++Builtin.zeroCells (Value.int .i64 0).cells (grownCap W n 0 3-n)) 3)=W2 at hr hrow hb;generalize grownCap W n 0 3=C at hr hrow hge hle;have hCI:(n:Int)≤(C:Int):=by omega
  have hn0:(0:Int)<(n:Int):=by omega
  go_enter Tryz.func361,Tryz.ntmps361
  go_wp2_with (at_builtin;refine Lib.wpList_append_run _ rfl _ _ _ _ rfl _ _ rfl rfl _ _ (hr _) ?_)
  go_ret
  exact⟨_,rfl,hrow, .inr ⟨_,_,C,rfl,by omega⟩,hb⟩
theorem aeE (g:Nat) (a b:Value) (xs ys:List Int) (W:World) (ha:bM W 1 a (xs.map qX)) (hb:bM W 1 b (ys.map qX)) (hg:g<W.heap.size) (ca:W.cell? ⟨g,0,none⟩=some a) (cb:W.cell? ⟨g,1,none⟩=some b)
  (hn:(xs.length+ys.length)*8≤281474976710656):
  Calls Tryz.prog 358 #[.slice (some ⟨g,0,none⟩) 2 2] W fun e w'=> ∃ v,e= .returned v∧w'.ownsRow W.heap.size 3 1 v (xs.length+ys.length) (flat qX (xs++ys))∧Below W.heap.size W w':=by
 obtain⟨qa,capa,ba,oa,rfl,_,_⟩:=ha.view;obtain⟨qb,capb,bb,ob,rfl,_,_⟩:=hb.view;simp only[List.length_map] at ha hb ca cb;have hxI:(xs.length:Int)+(ys.length:Int)≤281474976710656:=by omega
 go_enter Tryz.func358,Tryz.ntmps358
 go_wp2_with (fail)
 have hgrow:=fun n hn W=>atM n hn W
 go_loopw [3,11] (fun z y wr=> ∃ k n:Nat,k≤2∧y= .int .i64 k∧z= .int .i64 n∧n≤xs.length+ys.length∧(k=0→n=0)∧(k=1→n=xs.length)∧(k=2→n=xs.length+ys.length)∧W=wr) (fun _ y _=>2-(intOf y).toNat)
 case atStart=>exact⟨0,0,by omega,rfl,rfl,by omega,by omega,by omega,by omega,rfl⟩
 case round=>
  obtain⟨k,n,hk,rfl,rfl,hn2,k0,k1,k2,rfl⟩:=hrel
  match k,hk with
  |0,_=>
   have hn0:n=0:=k0 rfl;subst hn0;clear k0 k1 k2;have hnn:(0:Int)≤(xs.length:Int):=by omega
   go_wp2_with (fail)
   exact⟨⟨1,xs.length,by omega,rfl,rfl,by omega,by omega,by omega,by omega,trivial⟩,by show 2-(((1:Int)).toNat)<2-((0:Int).toNat);decide⟩
  |1,_=>
   have hn0:n=xs.length:=k1 rfl;subst hn0;clear k0 k1 k2;have hnn:(0:Int)≤(xs.length:Int)+(ys.length:Int):=by omega
   go_wp2_with (fail)
   exact⟨⟨2,xs.length+ys.length,by omega,rfl,by simp,by omega,by omega,by omega,by omega,trivial⟩,by show 2-(((2:Int)).toNat)<2-((1:Int).toNat);decide⟩
  |2,_=>
   have hn0:n=xs.length+ys.length:=k2 rfl;subst hn0;clear k0 k1 k2
   go_wp2_with (fail)
   refine (hgrow (xs.length+ys.length) hn _).mono ?_;rintro e W1 ⟨v0,rfl,hown0,hr0,hb0⟩;clear hgrow;have hsz0:=hb0.size
   go_wp2_with (fail)
   go_loopw [6,27] (fun z y wr=> ∃ k:Nat,k≤2∧y= .int .i64 k∧Room z (xs.length+ys.length)∧(k=0→wr.ownsRow W.heap.size 3 1 z 0 [])∧(k=1→wr.ownsRow W.heap.size 3 1 z xs.length (flat qX xs))∧(k=2→wr.ownsRow W.heap.size 3 1 z (xs.length+ys.length) (flat qX (xs++ys)))∧Below W.heap.size W wr) (fun _ y _=>2-(intOf y).toNat)
   case atStart=>exact⟨0,by omega,rfl,hr0,fun _=>hown0,by omega,by omega,hb0⟩
   case round=>
    clear hown0 hb0 hsz0 hr0;obtain⟨k,hk,rfl,hroom,k0,k1,k2,hbl⟩:=hrel;have hsz:=hbl.size;have ca':=(hbl.cell (p:=⟨g,0,none⟩) hg).trans ca;have cb':=(hbl.cell (p:=⟨g,1,none⟩) hg).trans cb;have ha':=ha.below (aq _) hbl;have hb':=hb.below (aq _) hbl
    match k,hk with
    |0,_=>
     have hown:=k0 rfl;clear k0 k1 k2
     go_wp2_with (at_builtin;refine aFS tE rfl (.tmp 31) (.tmp 32) rfl qX ZI ZJ _ _ 0 (xs.length+ys.length) [] xs rfl rfl hown hroom ?c1 ha' hbl hsz ?_)
     case c1=>omega
     intro v' w2 hown2 hroom2 hb2 _;clear hown ha' hb' ca' cb' hbl hsz
     go_wp2_with (fail)
     exact⟨⟨1,by omega,rfl,hroom2,by omega,fun _=>hown2,by omega,hb2⟩,by show 2-(((1:Int)).toNat)<2-((0:Int).toNat);decide⟩
    |1,_=>
     have hown:=k1 rfl;clear k0 k1 k2
     go_wp2_with (at_builtin;refine aFS tE rfl (.tmp 31) (.tmp 32) rfl qX ZI ZJ _ _ xs.length (xs.length+ys.length) (flat qX xs) ys rfl rfl hown hroom ?c1 hb' hbl hsz ?_)
     case c1=>omega
     intro v' w2 hown2 hroom2 hb2 _;rw[show flat qX xs++flat qX ys=flat qX (xs++ys) from by simp [flat]] at hown2;clear hown ha' hb' ca' cb' hbl hsz
     go_wp2_with (fail)
     exact⟨⟨2,by omega,rfl,hroom2,by omega,by omega,fun _=>hown2,hb2⟩,by show 2-(((2:Int)).toNat)<2-((1:Int).toNat);decide⟩
    |2,_=>
     have hown:=k2 rfl;clear k0 k1 k2 ca' cb' ha' hb'
     go_wp2_with (fail)
     go_ret
     exact⟨_,rfl,hown,hbl⟩
end Go.Proofs.YtbjalbcdbgcgdaaGreat.RP
namespace Go.Proofs.YtbjalbcdbgcgdaaGreat.ints
open Go.RowKit bG sl
theorem amL (q : Option Addr) (E : TypeId) (a b : Value) (xs ys : List Int) (hn : (xs.length + ys.length) * 8 ≤ 281474976710656) : Ct Tryz.prog 358 [.slice q 2 2] [own (.slice q 2 2) E 1 2 [a, b], sl 1 a (xs.map fI), sl 1 b (ys.map fI)] fun v H' => ∃ q' c', v = .slice q' (xs ++ ys).length c' ∧ H' = [own (.slice q' (xs ++ ys).length c') 3 1 (xs ++ ys).length (flat fI (xs ++ ys))] := ⟨fun Fr w hw => by
 have h0:w.ownsRow 0 E 1 (.slice q 2 2) 2 [a,b]:=hw.1 (own (.slice q 2 2) E 1 2 [a,b]) (by simp);have ha:bM w 1 a (xs.map fI):=hw.1 (sl 1 a (xs.map fI)) (by simp);have hb:bM w 1 b (ys.map fI):=hw.1 (sl 1 b (ys.map fI)) (by simp);obtain⟨g,c,e1,c1⟩:=yW h0 (i:=0) (j:=0) (u:=a) rfl;obtain⟨g2,c2,e2,c3⟩:=yW h0 (i:=1) (j:=0) (u:=b) rfl;cases e1;cases e2;have hg:g<w.heap.size:=by
  obtain⟨_,_,_,_,h3,_⟩:=vA h0 (k:=g) rfl;exact TY h3
 refine (RP.aeE g a b xs ys w ha hb hg c1 c3 hn).mono ?_;rintro e w' ⟨v,rfl,hown,hbl⟩;rw[←ag] at hown;obtain⟨q',c',rfl⟩:=qI hown;refine⟨_,_,rfl,⟨q',c',rfl,rfl⟩, ?_⟩;refine aD.new (hw.sub (List.sublist_append_right _ _)) ⟨hbl.os,hbl.tape,hbl.output,hbl.size,fun b hb' _=>hbl.block b hb'⟩ ?_ fun k hk=> ?_
 ·exact⟨hown.1,hown.2.imp id fun⟨g,cap,cur,e,hB,r⟩=>⟨g,cap,cur,e,fg _,r⟩⟩
 ·obtain ⟨_, _, _, h4, _⟩ := vA hown hk;exact h4⟩
end Go.Proofs.YtbjalbcdbgcgdaaGreat.ints
namespace Go.Proofs.YtbjalbcdbgcgdaaGreat.pm
abbrev dQ:=Int×List Nat
def fN:List dQ→List dQ
 |a::b::l=>(a.1+b.1,a.2++b.2)::fN l
 |_=>[]
def mg (x:dQ) (a:List dQ) (r:List dQ→List dQ):List dQ→List dQ
 |[]=>x::a
 |y::b=>if x.1≤y.1 then x::r (y::b) else y::mg x a r b
def merged:List dQ→List dQ→List dQ
 |[],b=>b
 |x::a,b=>mg x a (merged a) b
def lists (s:List dQ):Nat→List dQ
 |0=>s
 |k+1=>merged s (fN (lists s k))
def oL (l:List dQ):Prop:=l.Pairwise fun a b=>a.1≤b.1
def pB:List dQ→Int
 |[]=>0
 |c::l=>c.1+pB l
def cF (l:List dQ):List Nat:=l.flatMap (·.2)
theorem sC (a:List dQ):merged a []=a:=by cases a<;>rfl
theorem vL {x y:dQ} {a b:List dQ} (h:x.1≤y.1):merged (x::a) (y::b)=x::merged a (y::b):=if_pos h
theorem vM {x y:dQ} {a b:List dQ} (h: ¬ x.1≤y.1):merged (x::a) (y::b)=y::merged (x::a) b:=if_neg h
theorem xQ {P:List dQ→List dQ→Prop} (h1: ∀ b,P [] b) (h2: ∀ x a,P (x::a) []) (h3: ∀ x a y b,x.1≤y.1→P a (y::b)→P (x::a) (y::b)) (h4: ∀ x a y b, ¬ x.1≤y.1→P (x::a) b→P (x::a) (y::b)): ∀ a b,P a b:=by
 intro a;induction a with
 |nil=>exact h1
 |cons x a iha=>
  intro b;induction b with
  |nil=>exact h2 x a
  |cons y b ihb=>
   by_cases h:x.1≤y.1
   ·exact h3 x a y b h (iha _)
   ·exact h4 x a y b h ihb
theorem jI: ∀ a b,(merged a b).Perm (a++b):=by
 refine xQ (fun b=>by rw[merged];exact gj _) (fun x a=>by rw[sC,jc]) (fun x a y b h ih=> ?_) (fun x a y b h ih=> ?_)
 ·rw[vL h];exact ih.cons x
 ·rw[vM h];exact (ih.cons y).trans ko.symm
theorem xR (a b:List dQ):(merged a b).length=a.length+b.length:=by rw[(jI a b).length_eq,ag]
theorem PN: ∀ a b,oL a→oL b→oL (merged a b):=by
 refine xQ (fun b _ hb=>by rw[merged];exact hb) (fun x a ha _=>by rw[sC];exact ha) (fun x a y b h ih ha hb=> ?_) (fun x a y b h ih ha hb=> ?_)
 ·rw[vL h];have ha':=au.1 ha;have hb':=au.1 hb;refine au.2 ⟨fun z hz=> ?_,ih ha'.2 hb⟩;rcases ft.1 ((jI _ _).mem_iff.1 hz) with hz|hz
  ·exact ha'.1 z hz
  ·rcases aw.1 hz with rfl|hz
   ·exact h
   ·exact Int.le_trans h (hb'.1 z hz)
 ·rw[vM h];have ha':=au.1 ha;have hb':=au.1 hb;refine au.2 ⟨fun z hz=> ?_,ih ha hb'.2⟩;rcases ft.1 ((jI _ _).mem_iff.1 hz) with hz|hz
  ·rcases aw.1 hz with rfl|hz
   ·omega
   ·have:=ha'.1 z hz;omega
  ·exact hb'.1 z hz
theorem ZK: ∀ a b m,m≤a.length+b.length→ ∃ x y,x+y=m∧x≤a.length∧y≤b.length∧((merged a b).take m).Perm (a.take x++b.take y):=by
 refine xQ (fun b m hm=>⟨0,m,by omega,fg _,by simpa using hm,by rw[merged];simp⟩) (fun x a m hm=>⟨m,0,by omega,by simpa using hm,fg _,by rw[sC];simp⟩) (fun x a y b h ih m hm=> ?_) (fun x a y b h ih m hm=> ?_)
 ·rw[vL h];cases m with
  |zero=>exact⟨0,0,rfl,fg _,fg _,by simp⟩
  |succ m=>
   obtain⟨i,j,e,h1,h2,p⟩:=ih m (by simp only[fb] at hm ⊢;omega);exact⟨i+1,j,by omega,by simp only[fb];omega,h2,by simpa using p.cons x⟩
 ·rw[vM h];cases m with
  |zero=>exact⟨0,0,rfl,fg _,fg _,by simp⟩
  |succ m=>
   obtain⟨i,j,e,h1,h2,p⟩:=ih m (by simp only[fb] at hm ⊢;omega);refine⟨i,j+1,by omega,h1,by simp only[fb];omega, ?_⟩;simp only[im];exact (p.cons y).trans ko.symm
theorem kV {P:List dQ→Prop} (h0:P []) (h1: ∀ a,P [a]) (h2: ∀ a b l,P l→P (a::b::l)): ∀ l,P l
 |[]=>h0
 |[a]=>h1 a
 |a::b::l=>h2 a b l (kV h0 h1 h2 l)
theorem vN: ∀ l,(fN l).length=l.length/2:=by
 refine kV rfl (fun a=>by simp [fN]) fun a b l ih=> ?_
 rw[fN,fb,ih,fb,fb];omega
theorem amM: ∀ l,oL l→ ∀ c:Int,(∀ x∈l,c≤x.1)→ ∀ y∈fN l,c+c≤y.1:=by
 refine kV (fun _ c _ y hy=>by cases hy) (fun a _ c _ y hy=>by cases hy) fun a b l ih hs c hc y hy=> ?_
 rw[fN] at hy;rcases aw.1 hy with rfl|hy
 ·have h1:=hc a bc;have h2:=hc b (ax _ bc);dsimp only;omega
 ·exact ih ((au.1 (au.1 hs).2).2) c (fun x hx=>hc x (ax _ (ax _ hx))) y hy
theorem VC: ∀ l,oL l→oL (fN l):=by
 refine kV (fun _=>ld) (fun _ _=>ld) fun a b l ih hs=> ?_
 have h1:=au.1 hs;have h2:=au.1 h1.2;rw[fN];refine au.2 ⟨fun y hy=> ?_,ih h2.2⟩;have h3:=amM l h2.2 b.1 h2.1 y hy;have h4:=h1.1 b bc;dsimp only;omega
theorem pN (a b:List dQ):pB (a++b)=pB a+pB b:=by
 induction a with
 |nil=>simp [pB]
 |cons x a ih=>simp only[jg,pB,ih];omega
theorem atN {a b:List dQ} (p:a.Perm b):pB a=pB b:=by
 induction p with
 |nil=>rfl
 |cons x _ ih=>simp only[pB,ih]
 |swap x y l=>simp only[pB];omega
 |trans _ _ h1 h2=>rw[h1,h2]
theorem LL: ∀ l y,2*y≤l.length→pB ((fN l).take y)=pB (l.take (2*y))∧cF ((fN l).take y)=cF (l.take (2*y)):=by
 refine kV (fun y h=> ?_) (fun a y h=> ?_) fun a b l ih y h=> ?_
 ·simp [fN]
 ·have:y=0:=by simp only[fb,lk] at h;omega
  subst this;exact⟨rfl,rfl⟩
 ·cases y with
  |zero=>exact⟨rfl,rfl⟩
  |succ y=>
   obtain⟨h1,h2⟩:=ih y (by simp only[fb] at h;omega);rw[fN,show 2*(y+1)=2*y+1+1 by omega];simp only[im,pB,h1,cF,kv] at h2 ⊢;rw[h2];refine⟨by omega,by rw[ep]⟩
theorem aeF {l:List dQ} (h: ∀ c∈l,0≤c.1):0≤pB l:=by
 induction l with
 |nil=>exact lh _
 |cons x l ih=>
  have h1:=h x bc;have h2:=ih fun c hc=>h c (ax _ hc)
  simp only[pB];omega
theorem wT {l:List dQ} (h: ∀ c∈l,0≤c.1) {i j:Nat} (hij:i≤j):pB (l.take i)≤pB (l.take j):=by
 have e:l.take j=l.take i++(l.take j).drop i:=by
  have:=(il i (l.take j)).symm;rwa [List.take_take,gi hij] at this
 rw[e,pN];have:=aeF (l:=(l.take j).drop i) fun c hc=>h c (kt (List.mem_of_mem_drop hc))
 omega
theorem ZL: ∀ (l:List dQ),oL l→ ∀ s r:List dQ,(s++r).Perm l→pB (l.take s.length)≤pB s:=by
 intro l;induction l with
 |nil=>
  intro _ s r p;have:s=[]:=by
   have:=p.length_eq;rw[ag,lk] at this;exact List.eq_nil_of_length_eq_zero (by omega)
  subst this;exact lh _
 |cons x l ih=>
  intro hs s r p;have hs':=au.1 hs;cases s with
  |nil=>exact lh _
  |cons y s=>
   have hx:x∈y::s++r:=p.mem_iff.2 bc;rcases ft.1 hx with hx|hx
   ·obtain⟨s1,s2,e⟩:=ku hx;have ps:(y::s).Perm (x::(s1++s2)):=by rw[e];exact ko
    have p2:(s1++s2++r).Perm l:=by
     have:=(ps.append_right r).symm.trans p;exact (ln x).1 (by simpa using this)
    have:=ih hs'.2 _ _ p2;rw[atN ps,ps.length_eq];simp only[fb,im,pB];omega
   ·obtain⟨r1,r2,e⟩:=ku hx;have p2:(s++(y::(r1++r2))).Perm l:=by
     have h1:(y::s++r).Perm (x::(s++(y::(r1++r2)))):=by
      rw[e];have a1:(s++(r1++x::r2)).Perm (x::(s++(r1++r2))):=by
       have:= @ko _ x (s++r1) r2;simpa using this
      have a2:(s++(y::(r1++r2))).Perm (y::(s++(r1++r2))):=ko;exact ((a1.cons y).trans (List.Perm.swap x y _)).trans (a2.symm.cons x)
     exact (ln x).1 (h1.symm.trans p)
    have hy:y∈l:=p2.mem_iff.1 (by simp);have h3:=hs'.1 y hy;have:=ih hs'.2 _ _ p2;simp only[fb,im,pB];omega
section
variable {s:List dQ}
theorem AE (hs:oL s): ∀ k,oL (lists s k)
 |0=>hs
 |k+1=>PN _ _ hs (VC _ (AE hs k))
theorem VD: ∀ l:List dQ,(∀ c∈l,0≤c.1)→ ∀ c∈fN l,0≤c.1:=by
 refine kV (fun _ c hc=>by cases hc) (fun _ _ c hc=>by cases hc) fun a b l ih h c hc=> ?_
 rw[fN] at hc;rcases aw.1 hc with rfl|hc
 ·have h1:=h a bc;have h2:=h b (ax _ bc);dsimp only;omega
 ·exact ih (fun c hc=>h c (ax _ (ax _ hc))) c hc
theorem sD (hs: ∀ c∈s,0≤c.1): ∀ k, ∀ c∈lists s k,0≤c.1
 |0=>hs
 |k+1=>fun c hc=>by
  rcases ft.1 ((jI _ _).mem_iff.1 hc) with hc|hc
  ·exact hs c hc
  ·exact VD _ (sD hs k) c hc
theorem DO (k:Nat):(lists s (k+1)).length=s.length+(lists s k).length/2:=by rw[lists,xR,vN]
theorem LM: ∀ k,2*s.length≤(lists s k).length+(s.length+(2^k-1))/2^k
 |0=>by simp [lists];omega
 |k+1=>by
  have ih:=LM k;rw[DO];have h0:0<2^k:=j5 k;have e:(s.length+(2^(k+1)-1))/2^(k+1)=((s.length+(2^k-1))/2^k+1)/2:=by
   rw[gu, ←j6];congr 1;have:s.length+(2^k*2-1)=s.length+(2^k-1)+2^k:=by omega
   rw[this,Nat.add_div_right _ h0]
  rw[e];omega
theorem AG {L:Nat} (hL:s.length≤2^(L+1)):2*s.length-2≤(lists s L).length:=by
 have h:=LM (s:=s) L;have h0:0<2^L:=j5 L;have:(s.length+(2^L-1))/2^L≤2:=by
  have h3:s.length+(2^L-1)<3*2^L:=by rw[gu] at hL;omega
  have:=Nat.div_lt_of_lt_mul (m:=s.length+(2^L-1)) (n:=2^L) (k:=3) (by omega);omega
 omega
def VE (s:List dQ) (oB:Nat→dQ→Bool) (t:Nat):Nat:=(s.filter (oB t)).length
def wide (s:List dQ) (oB:Nat→dQ→Bool):Nat→Nat
 |0=>VE s oB 0
 |k+1=>VE s oB (k+1)+wide s oB k/2
def LP (s:List dQ) (oB:Nat→dQ→Bool):Nat→Int
 |0=>pB (s.filter (oB 0))
 |k+1=>pB (s.filter (oB (k+1)))+LP s oB k
theorem FK {α:Type} (p:α→Bool): ∀ l:List α,(l.filter p++l.filter fun x=> !p x).Perm l:=by
 intro l;induction l with
 |nil=>exact gj _
 |cons x l ih=>
  by_cases h:p x=true
  ·simp [h];exact ih
  ·have h':p x=false:=by simpa using h
   simp [h'];exact ko.trans (ih.cons x)
theorem low (hs:oL s) (h0: ∀ c∈s,0≤c.1) (oB:Nat→dQ→Bool): ∀ k,wide s oB k≤(lists s k).length∧pB ((lists s k).take (wide s oB k))≤LP s oB k
 |0=>⟨ks _ _,ZL s hs _ _ (FK (oB 0) s)⟩
 |k+1=>by
  obtain⟨h1,h2⟩:=low hs h0 oB k;have hl:=ks (oB (k+1)) s;have hh:wide s oB k/2≤(fN (lists s k)).length:=by rw[vN];omega
  have hp:((s.filter (oB (k+1))++(fN (lists s k)).take (wide s oB k/2))++(s.filter (fun x=> !oB (k+1) x)++(fN (lists s k)).drop (wide s oB k/2))).Perm (lists s (k+1)):=by
   refine ll ?_ (jI s (fN (lists s k))).symm;have a1:=(FK (oB (k+1)) s).append (List.Perm.of_eq (il (wide s oB k/2) (fN (lists s k))));refine ll ?_ a1;simp only[ep];refine k8 _ ?_;simp only[←ep];exact List.perm_append_comm.append_right _
  have h3:=ZL _ (AE hs (k+1)) _ _ hp;have hlen:(s.filter (oB (k+1))++(fN (lists s k)).take (wide s oB k/2)).length=wide s oB (k+1):=by
   rw[ag,List.length_take,gi hh];rfl
  rw[hlen,pN,(LL _ _ (by omega)).1] at h3;have h4:=wT (sD h0 k) (show 2*(wide s oB k/2)≤wide s oB k by omega);refine⟨?_, ?_⟩
  ·rw[DO];show VE s oB (k+1)+wide s oB k/2≤_;have:VE s oB (k+1)≤s.length:=hl;omega
  ·show _≤pB (s.filter (oB (k+1)))+LP s oB k;omega
def ext (s:List dQ) (oB:Nat→dQ→Bool):Nat→Nat
 |0=>VE s oB 0
 |k+1=>VE s oB (k+1)*2^(k+1)+ext s oB k
theorem ZM (oB:Nat→dQ→Bool): ∀ k,wide s oB k=ext s oB k/2^k
 |0=>by simp [wide,ext]
 |k+1=>by
  rw[wide,ext,ZM oB k,Nat.add_comm (VE s oB (k+1)*_),Nat.add_mul_div_right _ _ (j5 _),gu, ←j6];omega
end
def dV (f:Nat→Nat):List Nat→Nat
 |[]=>0
 |i::l=>f i+dV f l
def fW (f:Nat→Int):List Nat→Int
 |[]=>0
 |i::l=>f i+fW f l
theorem uG (f g:Nat→Nat): ∀ l,dV (fun i=>f i+g i) l=dV f l+dV g l
 |[]=>rfl
 |i::l=>by simp only[dV,uG f g l];omega
theorem aiG {f g:Nat→Nat}: ∀ {l:List Nat},(∀ i∈l,f i≤g i)→dV f l≤dV g l
 |[],_=>aq _
 |i::l,h=>by
  have h1:=h i bc;have h2:=aiG (l:=l) fun j hj=>h j (ax _ hj)
  simp only[dV];omega
theorem mB {f g:Nat→Nat}: ∀ {l:List Nat},(∀ i∈l,f i=g i)→dV f l=dV g l
 |[],_=>rfl
 |i::l,h=>by
  have h1:=h i bc;have h2:=mB (l:=l) fun j hj=>h j (ax _ hj)
  simp only[dV];omega
theorem oM {f g:Nat→Int}: ∀ {l:List Nat},(∀ i∈l,f i=g i)→fW f l=fW g l
 |[],_=>rfl
 |i::l,h=>by
  have h1:=h i bc;have h2:=oM (l:=l) fun j hj=>h j (ax _ hj)
  simp only[fW];omega
theorem LQ (f g:Nat→Int): ∀ l,fW (fun i=>f i+g i) l=fW f l+fW g l
 |[]=>rfl
 |i::l=>by simp only[fW,LQ f g l];omega
theorem mC (c:Nat): ∀ l,dV (fun _=>c) l=c*l.length
 |[]=>rfl
 |i::l=>by simp only[dV,mC c l,fb,Nat.mul_succ];omega
theorem ZN (f:Nat→Nat) (c:Nat): ∀ l,dV f l*c=dV (fun i=>f i*c) l
 |[]=>lr c
 |i::l=>by simp only[dV,an,ZN f c l]
theorem ZO (f:Nat→Nat) (a b:List Nat):dV f (a++b)=dV f a+dV f b:=by
 induction a with
 |nil=>simp [dV]
 |cons i a ih=>simp only[jg,dV,ih];omega
theorem ZP (f:Nat→Int) (a b:List Nat):fW f (a++b)=fW f a+fW f b:=by
 induction a with
 |nil=>simp [fW]
 |cons i a ih=>simp only[jg,fW,ih];omega
theorem RQ: ∀ l,fW (fun _=>0) l=0
 |[]=>rfl
 |i::l=>by simp only[fW,RQ l];rfl
theorem LR {f:Nat→Int} {l:List Nat} (h: ∀ i∈l,f i=0):fW f l=0:=by rw[oM h,RQ]
theorem RU (f:Nat→Int) {a b:List Nat} (p:a.Perm b):fW f a=fW f b:=by
 induction p with
 |nil=>rfl
 |cons x _ ih=>simp only[fW,ih]
 |swap x y l=>simp only[fW];omega
 |trans _ _ h1 h2=>rw[h1,h2]
theorem DP (f:Nat→Nat) {a b:List Nat} (p:a.Perm b):dV f a=dV f b:=by
 induction p with
 |nil=>rfl
 |cons x _ ih=>simp only[dV,ih]
 |swap x y l=>simp only[dV];omega
 |trans _ _ h1 h2=>rw[h1,h2]
theorem atO (f:Nat→Nat) (g:Nat→Nat) (l:List Nat):dV f (l.map g)=dV (fun i=>f (g i)) l:=by
 induction l with
 |nil=>rfl
 |cons i l ih=>simp only[eh,dV,ih]
theorem aeG (w:Nat→Int) {idx:List Nat} (hn:idx.Nodup): ∀ S:List Nat,(∀ i∈S,i∈idx)→fW w S=fW (fun i=>w i*(kr i S:Int)) idx:=by
 have one: ∀ (x:Nat) (c:Int) (l:List Nat),l.Nodup→x∈l→fW (fun i=>if i=x then c else 0) l=c:=by
  intro x c l;induction l with
  |nil=>intro _ h;cases h
  |cons y l ih=>
   intro hn h;have hn':=List.nodup_cons.1 hn;by_cases hy:y=x
   ·subst hy;simp only[fW,if_pos];rw[LR fun i hi=>if_neg fun e:i=y=>hn'.1 (by rw[←e];exact hi)];omega
   ·rcases aw.1 h with h|h
    ·exact absurd h.symm hy
    ·simp only[fW,if_neg hy,ih hn'.2 h];omega
 intro S;induction S with
 |nil=>intro _;exact (LR fun i _=>by simp).symm
 |cons x S ih=>
  intro h;rw[fW,ih fun i hi=>h i (ax _ hi)];have e:fW (fun i=>w i*(kr i (x::S):Int)) idx=fW (fun i=>w i*(kr i S:Int)+if i=x then w x else 0) idx:=oM fun i _=>by
   rw[List.count_cons];by_cases hx:i=x
   ·subst hx;simp [lu]
   ·have: ¬ x=i:=fun e=>hx e.symm
    simp [hx,this]
  rw[e,LQ,one x (w x) idx hn (h x bc)];omega
def single (w:Nat→Int) (idx:List Nat):List dQ:=idx.map fun i=>(w i,[i])
def PO (L:Nat) (l:Nat→Nat) (t:Nat) (c:dQ):Bool:=decide (L-t≤l (c.2.headD 0))
def con (L x:Nat):Nat→Nat
 |0=>if L≤x then 1 else 0
 |k+1=>(if L-(k+1)≤x then 2^(k+1) else 0)+con L x k
theorem aiH {L x:Nat} (hx:x≤L): ∀ k,(L-x≤k→con L x k+2^(L-x)=2^(k+1))∧(k<L-x→con L x k=0)
 |0=>by
  constructor
  ·intro h;have:x=L:=by omega
   subst this;simp [con]
  ·intro h;rw[con,if_neg (by omega)]
 |k+1=>by
  obtain⟨h1,h2⟩:=aiH hx k;constructor
  ·intro h;rw[con,if_pos (by omega)];by_cases h3:L-x≤k
   ·have:=h1 h3;rw[gu 2 (k+1)];omega
   ·have e:L-x=k+1:=by omega
    rw[h2 (by omega),e,gu 2 (k+1)];omega
  ·intro h;rw[con,if_neg (by omega),h2 (by omega)]
theorem LS (w:Nat→Int) (L:Nat) (l:Nat→Nat) (t:Nat): ∀ idx,VE (single w idx) (PO L l) t=dV (fun i=>if L-t≤l i then 1 else 0) idx:=by
 intro idx;induction idx with
 |nil=>rfl
 |cons i idx ih=>
  unfold VE single at ih ⊢;simp only[eh,kz,dV];have:PO L l t (w i,[i])=decide (L-t≤l i):=rfl;rw[this];by_cases h:L-t≤l i
  ·rw[decide_eq_true h,if_pos rfl,if_pos h,fb,ih];omega
  ·rw[decide_eq_false h,if_neg (by decide),if_neg h,ih];omega
theorem LU (w:Nat→Int) (L:Nat) (l:Nat→Nat) (idx:List Nat): ∀ k,ext (single w idx) (PO L l) k=dV (fun i=>con L (l i) k) idx
 |0=>by rw[ext,LS];rfl
 |k+1=>by
  rw[ext,LS,LU w L l idx k];simp only[con];rw[uG];rw[ZN,mB (g:=fun i=>if L-(k+1)≤l i then 2^(k+1) else 0)];intro i _;split<;>simp
def num (L x:Nat):Nat→Nat
 |0=>if L≤x then 1 else 0
 |k+1=>(if L-(k+1)≤x then 1 else 0)+num L x k
theorem aiI {L x:Nat} (hx:x≤L): ∀ k,k<L→(L-x≤k→num L x k+(L-x)=k+1)∧(k<L-x→num L x k=0)
 |0,hk=>by
  constructor
  ·intro h;have:x=L:=by omega
   subst this;simp [num]
  ·intro h;rw[num,if_neg (by omega)]
 |k+1,hk=>by
  obtain⟨h1,h2⟩:=aiI hx k (by omega);constructor
  ·intro h;rw[num,if_pos (by omega)];by_cases h3:L-x≤k
   ·have:=h1 h3;omega
   ·rw[h2 (by omega)];omega
  ·intro h;rw[num,if_neg (by omega),h2 (by omega)]
theorem LV (w:Nat→Int) (L:Nat) (l:Nat→Nat) (t:Nat): ∀ idx,pB ((single w idx).filter (PO L l t))=fW (fun i=>w i*((if L-t≤l i then 1 else 0:Nat):Int)) idx:=by
 intro idx;induction idx with
 |nil=>rfl
 |cons i idx ih=>
  unfold single at ih ⊢;simp only[eh,kz,fW];have:PO L l t (w i,[i])=decide (L-t≤l i):=rfl;rw[this];by_cases h:L-t≤l i
  ·rw[decide_eq_true h,if_pos rfl,if_pos h,pB,ih];simp
  ·rw[decide_eq_false h,if_neg (by decide),if_neg h,ih];simp
theorem FL (w:Nat→Int) (L:Nat) (l:Nat→Nat) (idx:List Nat): ∀ k,LP (single w idx) (PO L l) k=fW (fun i=>w i*(num L (l i) k:Int)) idx
 |0=>by rw[LP,LV];rfl
 |k+1=>by
  rw[LP,LV,FL w L l idx k, ←LQ];refine oM fun i _=> ?_
  rw[num,Int.natCast_add,lu]
theorem oN (w:Nat→Int) (idx:List Nat):(single w idx).length=idx.length:=by simp [single]
theorem LW {w:Nat→Int} {idx:List Nat} (h: ∀ i∈idx,0≤w i): ∀ c∈single w idx,0≤c.1:=fun c hc=>by
 obtain⟨i,hi,rfl⟩:=fu.1 hc;exact h i hi
theorem atP {w:Nat→Int} {idx:List Nat} {L:Nat} (hs:oL (single w idx)) (h0: ∀ i∈idx,0≤w i) (l:Nat→Nat) (hl: ∀ i∈idx,1≤l i∧l i≤L+1) (hk:dV (fun i=>2^(L+1-l i)) idx≤2^(L+1)):pB ((lists (single w idx) L).take (2*idx.length-2))≤fW (fun i=>w i*(l i:Int)) idx:=by
 obtain⟨h1,h2⟩:=low hs (LW h0) (PO (L+1) l) L;have hx:ext (single w idx) (PO (L+1) l) L+dV (fun i=>2^(L+1-l i)) idx=2^(L+1)*idx.length:=by
  rw[LU, ←uG, ←mC (2^(L+1)) idx];exact mB fun i hi=>((aiH (hl i hi).2 L).1 (by have:=(hl i hi).1;omega))
 have hc:LP (single w idx) (PO (L+1) l) L=fW (fun i=>w i*(l i:Int)) idx:=by
  rw[FL];refine oM fun i hi=> ?_
  have:=(aiI (hl i hi).2 L (by omega)).1 (by have:=(hl i hi).1;omega);have h3:=hl i hi;rw[show num (L+1) (l i) L=l i by omega]
 have hw:2*idx.length-2≤wide (single w idx) (PO (L+1) l) L:=by
  rw[ZM];refine (Nat.le_div_iff_mul_le (j5 L)).2 ?_;rw[gu] at hx hk;have e:(2*idx.length-2)*2^L=2^L*2*idx.length-2^L*2:=by
   rw[ly,ej (2*idx.length), ←ig,ej 2 (2^L)]
  rw[e];omega
 have h3:=wT (sD (LW h0) L) hw;rw[hc] at h2;omega
def exts:List Nat→Nat
 |[]=>0
 |x::a=>x*2^a.length+exts a
def lay (idx:List Nat):List Nat→List Nat
 |[]=>[]
 |x::a=>idx.take x++lay idx a
theorem aeH {a b:List dQ} (p:a.Perm b):(cF a).Perm (cF b):=p.flatMap_right _
theorem amN (a b:List dQ):cF (a++b)=cF a++cF b:=by simp [cF]
theorem AH (w:Nat→Int): ∀ idx,cF (single w idx)=idx:=by
 intro idx;induction idx with
 |nil=>rfl
 |cons i idx ih=>
  unfold cF single at ih ⊢;simp only[eh,kv,ih];rfl
theorem high (w:Nat→Int) (idx:List Nat): ∀ k m,m≤(lists (single w idx) k).length→ ∃ a:List Nat,a.length=k+1∧(∀ x∈a,x≤idx.length)∧exts a=m*2^k∧(cF ((lists (single w idx) k).take m)).Perm (lay idx a)
 |0,m,hm=>by
  rw[lists,oN] at hm;refine⟨[m],rfl,fun x hx=>by rw[List.mem_singleton.1 hx];exact hm,by simp [exts], ?_⟩;rw[lists,lay,lay,jc];have:(single w idx).take m=single w (idx.take m):=by simp [single,gk]
  rw[this,AH]
 |k+1,m,hm=>by
  rw[lists,xR] at hm;obtain⟨x,y,e,h1,h2,p⟩:=ZK _ _ m hm;rw[vN] at h2;rw[oN] at h1;obtain⟨a,ha,hb,hc,q⟩:=high w idx k (2*y) (by omega);refine⟨x::a,by rw[fb,ha],fun z hz=> ?_, ?_, ?_⟩
  ·rcases aw.1 hz with rfl|hz
   ·exact h1
   ·exact hb z hz
  ·rw[exts,ha,hc, ←e,an,gu,ej 2 y,ig y 2,ej 2 (2^k)]
  ·refine (aeH p).trans ?_;rw[amN,lay];have:(single w idx).take x=single w (idx.take x):=by simp [single,gk]
   rw[this,AH,(LL _ _ (by omega)).2];exact k8 _ q
def depth (a:List Nat) (p:Nat):Nat:=(a.filter fun x=>decide (p<x)).length
def part (p:Nat):List Nat→Nat
 |[]=>0
 |x::a=>(if p<x then 2^a.length else 0)+part p a
theorem sE (x:Nat) (a:List Nat) (p:Nat):depth (x::a) p=(if p<x then 1 else 0)+depth a p:=by
 unfold depth;rw[kz];by_cases h:p<x
 ·rw[decide_eq_true h,if_pos rfl,if_pos h,fb];omega
 ·rw[decide_eq_false h,if_neg (by decide),if_neg h];omega
theorem ZQ (a:List Nat) (p:Nat):depth a p≤a.length:=ks _ _
theorem aeI (a:List Nat) {p q:Nat} (h:p≤q):depth a q≤depth a p:=by
 induction a with
 |nil=>exact aq _
 |cons x a ih=>
  rw[sE,sE];by_cases h1:q<x
  ·rw[if_pos h1,if_pos (by omega)];omega
  ·rw[if_neg h1];omega
theorem aiJ (p:Nat): ∀ a:List Nat,part p a+2^(a.length-depth a p)≤2^a.length
 |[]=>by simp [part,depth]
 |x::a=>by
  have ih:=aiJ p a;have hd:=ZQ a p;rw[part,sE,fb];by_cases h:p<x
  ·rw[if_pos h,if_pos h,show a.length+1-(1+depth a p)=a.length-depth a p by omega,gu];omega
  ·rw[if_neg h,if_neg h,di,di,show a.length+1-depth a p=a.length-depth a p+1 by omega,gu,gu];omega
theorem ZR (c x:Nat): ∀ n,x≤n→dV (fun p=>if p<x then c else 0) (jn n)=x*c
 |0,h=>by
  have:x=0:=by omega
  subst this;simp [dV]
 |n+1,h=>by
  rw[List.range_succ,ZO];by_cases hx:x=n+1
  ·have e:dV (fun p=>if p<x then c else 0) (jn n)=dV (fun _=>c) (jn n):=mB fun i hi=>if_pos (by have:=lp.1 hi;omega)
   rw[e,mC,kx];simp only[dV];rw[if_pos (by omega),hx,Nat.succ_mul,ej];omega
  ·rw[ZR c x n (by omega)];simp only[dV];rw[if_neg (by omega)];omega
theorem RV {n:Nat}: ∀ a:List Nat,(∀ x∈a,x≤n)→dV (fun p=>part p a) (jn n)=exts a
 |[],_=>by
  have:dV (fun p=>part p []) (jn n)=dV (fun _=>0) (jn n):=rfl;rw[this,mC,lr];rfl
 |x::a,h=>by
  have e:dV (fun p=>part p (x::a)) (jn n)=dV (fun p=>(if p<x then 2^a.length else 0)+part p a) (jn n):=rfl;rw[e,uG,ZR _ _ _ (h x bc),RV a fun y hy=>h y (ax _ hy),exts]
theorem ZS {n:Nat} {a:List Nat} (h: ∀ x∈a,x≤n):dV (fun p=>2^(a.length-depth a p)) (jn n)+exts a≤2^a.length*n:=by
 rw[←RV a h, ←uG, ←kx (n:=n), ←mC,kx];exact aiG fun p _=>by have:=aiJ p a;omega
theorem aeJ {idx:List Nat} (hn:idx.Nodup) {p i:Nat} (hp:idx[p]? =some i) (x:Nat):kr i (idx.take x)=if p<x then 1 else 0:=by
 have hlt:=(ah.1 hp).1;by_cases h:p<x
 ·rw[if_pos h];have hm:i∈idx.take x:=List.mem_of_getElem? (by rw[bp,if_pos h];exact hp);have h1:=List.nodup_iff_count.1 (hn.sublist (List.take_sublist x idx)) i;have h2:=List.count_pos_iff.2 hm;omega
 ·rw[if_neg h];refine k9.2 fun hm=> ?_
  obtain⟨q,hq⟩:=kp.1 hm;rw[bp] at hq;split at hq
  ·rename_i hqx;obtain⟨b1,e1⟩:=ah.1 hq;obtain⟨b2,e2⟩:=ah.1 hp;have:=ky.1 (List.nodup_iff_pairwise_ne.1 hn) q p b1 b2 (by omega);rw[e1,e2] at this;exact this rfl
  ·cases hq
theorem RW {idx:List Nat} (hn:idx.Nodup) {p i:Nat} (hp:idx[p]? =some i): ∀ a,kr i (lay idx a)=depth a p
 |[]=>by simp [lay,depth]
 |x::a=>by rw[lay,List.count_append,aeJ hn hp,RW hn hp a,sE]
theorem aeK {idx:List Nat} (f:Nat→Nat) (g:Nat→Nat) (h: ∀ p i,idx[p]? =some i→f i=g p):dV f idx=dV g (jn idx.length):=by
 have e:idx=(jn idx.length).map fun p=>idx.getD p 0:=by
  apply List.ext_getElem?;intro k;rw[al];rcases iq k idx.length with hk|hk
  ·rw[List.getElem?_range hk,Option.map_some,iw,aj hk];rfl
  ·rw[dz hk,dz (by simpa using hk)];rfl
 conv=>lhs;rw[e]
 rw[atO];refine mB fun p hp=> ?_
 have hp':=lp.1 hp;exact h p _ (by rw[iw,aj hp'];rfl)
def xS (w:Nat→Int) (idx:List Nat) (L:Nat) (i:Nat):Nat:=kr i (cF ((lists (single w idx) L).take (2*idx.length-2)))
theorem FM {w:Nat→Int}: ∀ {l:List dQ},(∀ c∈l,c.1=fW w c.2)→pB l=fW w (cF l)
 |[],_=>rfl
 |c::l,h=>by
  rw[pB,FM fun d hd=>h d (ax _ hd),h c bc];unfold cF;rw[kv,ZP]
theorem ZT {w:Nat→Int}: ∀ l:List dQ,(∀ c∈l,c.1=fW w c.2)→ ∀ c∈fN l,c.1=fW w c.2:=by
 refine kV (fun _ c hc=>by cases hc) (fun _ _ c hc=>by cases hc) fun a b l ih h c hc=> ?_
 rw[fN] at hc;rcases aw.1 hc with rfl|hc
 ·dsimp only;rw[ZP, ←h a bc, ←h b (ax _ bc)]
 ·exact ih (fun c hc=>h c (ax _ (ax _ hc))) c hc
theorem FO (w:Nat→Int) (idx:List Nat): ∀ k, ∀ c∈lists (single w idx) k,c.1=fW w c.2
 |0=>fun c hc=>by
  obtain⟨i,_,rfl⟩:=fu.1 hc;simp [fW]
 |k+1=>fun c hc=>by
  rcases ft.1 ((jI _ _).mem_iff.1 hc) with hc|hc
  ·obtain⟨i,_,rfl⟩:=fu.1 hc;simp [fW]
  ·exact ZT _ (FO w idx k) c hc
theorem VF {idx:List Nat}: ∀ a, ∀ i∈lay idx a,i∈idx
 |[],i,h=>by cases h
 |x::a,i,h=>by
  rcases ft.1 h with h|h
  ·exact kt h
  ·exact VF a i h
theorem aHW {w:Nat→Int} {idx:List Nat} {L:Nat} (hs:oL (single w idx)) (hn:idx.Nodup) (h0: ∀ i∈idx,0≤w i) (h2:2≤idx.length) (hL:idx.length≤2^(L+1)):2*idx.length-2≤(lists (single w idx) L).length∧(∀ i∈idx,1≤xS w idx L i∧xS w idx L i≤L+1)∧(∀ i,i∉idx→xS w idx L i=0)∧dV (fun i=>2^(L+1-xS w idx L i)) idx≤2^(L+1)∧(∀ i∈idx, ∀ j∈idx,w i<w j→xS w idx L j≤xS w idx L i)∧ ∀ l:Nat→Nat,(∀ i∈idx,1≤l i∧l i≤L+1)→dV (fun i=>2^(L+1-l i)) idx≤2^(L+1)→fW (fun i=>w i*(xS w idx L i:Int)) idx≤fW (fun i=>w i*(l i:Int)) idx:=by
 have hm:=AG (s:=single w idx) (L:=L) (by rw[oN];exact hL);rw[oN] at hm;obtain⟨a,ha,hb,hc,p⟩:=high w idx L _ hm;have hcnt: ∀ i,xS w idx L i=kr i (lay idx a):=fun i=>p.count_eq i
 have qE: ∀ q i,idx[q]? =some i→xS w idx L i=depth a q:=fun q i hq=>by rw[hcnt,RW hn hq]
 have hK:dV (fun i=>2^(L+1-xS w idx L i)) idx≤2^(L+1):=by
  rw[aeK _ (fun q=>2^(L+1-depth a q)) fun q i hq=>by rw[qE q i hq]];have hk:=ZS hb;rw[ha,hc] at hk;have e:(2*idx.length-2)*2^L=2^(L+1)*idx.length-2^(L+1):=by
   rw[ly,ej (2*idx.length), ←ig,ej 2 (2^L),gu]
  rw[e] at hk;have:2^(L+1)≤2^(L+1)*idx.length:=Nat.le_mul_of_pos_right _ (by omega);omega
 have hle: ∀ i,xS w idx L i≤L+1∨i∉idx:=fun i=>by
  by_cases hi:i∈idx
  ·obtain⟨q,hq⟩:=kp.1 hi;have:=ZQ a q;rw[qE q i hq];exact .inl (by omega)
  ·exact .inr hi
 refine⟨hm,fun i hi=>⟨?_,(hle i).resolve_right fun h=>h hi⟩,fun i hi=> ?_,hK,fun i hi j hj hw=> ?_,fun l hl hk=> ?_⟩
 ·rcases Nat.eq_zero_or_pos (xS w idx L i) with h|h
  ·exfalso;obtain⟨s1,s2,e⟩:=ku hi;have pe:idx.Perm (i::(s1++s2)):=by rw[e];exact ko
   rw[DP _ pe,dV,h,Nat.sub_zero] at hK;have hl:=pe.length_eq;rw[fb] at hl;cases hs12:s1++s2 with
   |nil=>rw[hs12] at hl;simp at hl;omega
   |cons y t=>
    rw[hs12,dV] at hK;have:=j5 (L+1-xS w idx L y);omega
  ·exact h
 ·rw[hcnt];exact k9.2 fun h=>hi (VF a i h)
 ·obtain⟨q,hq⟩:=kp.1 hi;obtain⟨r,hr⟩:=kp.1 hj;rw[qE q i hq,qE r j hr];refine aeI a ?_;rcases iq r q with h|h
  ·exfalso;have iS:(single w idx)[q]? =some (w i,[i]):=by unfold single;rw[al,hq];rfl
   have hsr:(single w idx)[r]? =some (w j,[j]):=by unfold single;rw[al,hr];rfl
   obtain⟨b1,e1⟩:=ah.1 iS;obtain⟨b2,e2⟩:=ah.1 hsr;have:=ky.1 hs r q b2 b1 h;rw[e1,e2] at this;dsimp only at this;omega
  ·exact h
 ·have h1:=atP hs h0 l hl hk;rw[FM fun c hc=>FO w idx L c (kt hc),aeG w hn] at h1
  ·exact h1
  ·intro i hi;exact VF a i (p.mem_iff.1 hi)
end Go.Proofs.YtbjalbcdbgcgdaaGreat.pm
