/- Law HandStale: its texts, packed. -/
import Derived.Test.YtbjalbcdbgcgdaaGreatK18
import Derived.Test.YtbjalbcdbgcgdaaGreatK08
import Derived.Test.YtbjalbcdbgcgdaaGreatK07
open List renaming IsPrefix.trans->kg,drop_eq_getElem_cons->cu,getD_eq_getElem?_getD->iw,getElem?_append_left->j9,getElem?_append_right->j7,getElem?_eq_getElem->aj,getElem?_eq_some_iff->ah,getElem?_take->bp,length_append->ag,length_cons->fb,length_singleton->df,length_take->b9,mem_cons_of_mem->ax,prefix_append->kh,prefix_refl->kj,take_add_one->ki
open Nat renaming add_zero->dm,le_refl->aq,sub_self->jl,zero_le->fg
open Int renaming eq_ofNat_of_zero_le->iy
open Prod renaming snd->km
open UInt8 renaming ofNat->gl
open Decidable renaming not_not->ir
open Array renaming getElem?_eq_some_iff->aa
set_option linter.unusedVariables false
set_option maxRecDepth 100000
set_option maxHeartbeats 8000000
namespace Go.Proofs.YtbjalbcdbgcgdaaGreat.lz
open Go.RowKit bG
def lZ (m:Int×Int×Int):Nat:=
 if m.1=0 then (if m.2.1=0 then 0 else 4) else if m.1<3∨66<m.1∨m.2.1<1∨m.2.2≠0 then 4 else 0
def mark (m:Int×Int×Int):Value:= .agg #[.int .i64 m.1, .int .i64 m.2.1, .int .u8 m.2.2]
def VA (m:Int×Int×Int):List Value:=[.int .i64 m.1, .int .i64 m.2.1, .int .u8 m.2.2]
def qV (m:Int×Int×Int):Prop:=(Lit.int .i64 m.1).wf=true∧(Lit.int .i64 m.2.1).wf=true∧(Lit.int .u8 m.2.2).wf=true
theorem bH (m:Int×Int×Int) (W:World):
  Calls Tryz.prog 267 #[mark m] W fun e w'=>e= .returned (.int .i64 (lZ m:Int))∧Below W.heap.size W w':=by
 obtain⟨L,D,B⟩:=m;unfold mark lZ;simp only
 go_enter Tryz.func267,Tryz.ntmps267
 by_cases h0:L=0
 ·subst h0;by_cases hD:D=0
  ·subst hD
   go_wp2_with (fail)
   go_ret
   exact⟨rfl,(Below.refl _ _).alloc (aq _) _⟩
  ·have hDb:(D==0)=false:=by simpa using hD
   go_wp2_with (fail)
   go_ret
   exact Zv
 ·have hLb:(L==0)=false:=by simpa using h0
  by_cases h1:L<3
  ·go_wp2_with (fail)
   go_ret
   exact Zv
  ·by_cases h2:66<L
   ·go_wp2_with (fail)
    go_ret
    exact Zv
   ·by_cases h3:D<1
    ·go_wp2_with (fail)
     go_ret
     exact Zv
    ·by_cases h4:B=0
     ·subst h4
      go_wp2_with (fail)
      go_ret
      exact Zv
     ·have hBb:(B==0)=false:=by simpa using h4
      go_wp2_with (fail)
      go_ret
      exact Zv
def lL:Nat→Nat→List UInt8→List UInt8
 |0,_,out=>out
 |n+1,d,out=>lL n d (out++[out.getD (out.length-d) 0])
theorem amG: ∀ (n d:Nat) (out:List UInt8),(lL n d out).length=out.length+n:=by
 intro n;induction n with
 |zero=>intro d out;rfl
 |succ n ih=>intro d out;rw[lL,ih];simp;omega
def nI (out:List UInt8) (m:Int×Int×Int):Nat:=
 if lZ m≠0 then lZ m else if (out.length:Int)<m.2.1 then 8 else if 512<(out.length:Int)+max 1 m.1 then 2 else 0
def lM (out:List UInt8) (m:Int×Int×Int):List UInt8:=
 lL m.1.toNat m.2.1.toNat (if m.1=0 then out++[gl m.2.2.toNat] else out)
def kN:List (Int×Int×Int)→List UInt8→List UInt8×Nat
 |[],out=>(out,0)
 |m::l,out=>if nI out m=0 then kN l (lM out m) else ([],nI out m)
def wH (l:List (Int×Int×Int)):List UInt8×Nat:=kN l []
theorem AB {xs:List (Int×Int×Int)} {l:List UInt8} {k e:Nat} {m:Int×Int×Int} (h:wH xs=kN (xs.drop k) l) (hp:xs[k]? =some m) (he:nI l m=e) (h0:e≠0):wH xs=([],e):=by
 rw[h,cu (ah.1 hp).1,(ah.1 hp).2,kN,if_neg (by rw[he];exact h0),he]
theorem RN {xs:List (Int×Int×Int)} {l:List UInt8} {k:Nat} {m:Int×Int×Int} (h:wH xs=kN (xs.drop k) l) (hp:xs[k]? =some m) (he:nI l m=0):wH xs=kN (xs.drop (k+1)) (lM l m):=by
 rw[h,cu (ah.1 hp).1,(ah.1 hp).2,kN,if_pos he]
theorem ZH {w:World} {B e n G f:Nat} {v:Value} {xs:List Value} {cs:Array Value} {fr:Nat×Nat} (h:w.ownsRow B e 1 v n xs) (hg:w.heap[G]? =some (.cells cs f fr)) (hne:f≠e):some G≠v.ownBlock:=by
 rcases h.2 with⟨rfl,_⟩|⟨g,cap,cur,rfl,hb,hgg,_⟩
 ·simp [Value.ownBlock]
 ·simp only[Value.ownBlock];intro e';have e2:G=g:=Option.some.inj e';subst e2;rw[hg] at hgg;simp at hgg;exact hne hgg.2.1
theorem atI {w:World} {B e n:Nat} {v:Value} {l:List UInt8} (h:w.ownsRow B e 1 v n (aP l)) {j:Nat} (hj:j<l.length): ∃ g cap,v= .slice (some ⟨g,0,none⟩) n cap∧w.cell? ⟨g,j,none⟩=some (.int .u8 (l[j].toNat:Int)):=by
 rcases h.2 with⟨rfl,h0⟩|⟨g,cap,cur,rfl,_⟩
 ·have:=h.1;simp [aP] at this;omega
 ·refine⟨g,cap,rfl, ?_⟩;have:=h.cells (g:=g) rfl j (.int .u8 (l[j].toNat:Int)) (by simp [aP,hj]);have ea:(⟨g,0,none⟩:Addr).add j=⟨g,j,none⟩:=by unfold Addr.add;split<;>simp_all
  rwa [ea] at this
theorem LJ (m:Int×Int×Int):lZ m=4∨lZ m=0∧(m.1=0∧m.2.1=0∨3≤m.1∧m.1≤66∧1≤m.2.1∧m.2.2=0):=by
 unfold lZ;split
 ·split
  ·exact .inr ⟨rfl, .inl ⟨by assumption,by assumption⟩⟩
  ·exact .inl rfl
 ·split
  ·exact .inl rfl
  ·exact .inr ⟨rfl, .inr (by omega)⟩
attribute [local go_sem] bG.HU
theorem aeC (v:Value) (xs:List (Int×Int×Int)) (W:World) (hs:bM W 3 v (xs.map VA)) (hg: ∀ p∈xs,qV p) (hn:xs.length≤100000000000000000):
  Calls Tryz.prog 223 #[v] W fun e w'=>e= .returned (.tuple #[.string ⟨(wH xs).1.toArray⟩, .int .i64 ((wH xs).2:Int)])∧Below W.heap.size W w':=by
 obtain⟨q,cap,b,off,rfl,hq,hc⟩:=hs.view;simp only[List.length_map] at hq ⊢;have HQ:=Lib.hid hq;have HC:Hid (∀ k p,xs[k]? =some p→W.cell? ⟨b,off+k*3,none⟩=some (.int .i64 p.1)∧W.cell? ⟨b,off+k*3+1,none⟩=some (.int .i64 p.2.1)∧W.cell? ⟨b,off+k*3+2,none⟩=some (.int .u8 p.2.2)):=fun k p hx=>by
  have h:=hc k (VA p) (by rw[List.getElem?_map,hx];rfl);exact⟨h 0 _ rfl,h 1 _ rfl,h 2 _ rfl⟩
 clear hs hq hc
 go_enter Tryz.func223,Tryz.ntmps223
 go_wp2_with (fail)
 go_loopw [4,10] (fun o y wr=> ∃ (k:Nat) (l:List UInt8),k≤xs.length∧y= .int .i64 k∧wr.ownsRow W.heap.size 5 1 o l.length (aP l)∧l.length≤512∧Hid (wH xs=kN (xs.drop k) l)∧Below W.heap.size W wr) (fun _ y _=>xs.length-(intOf y).toNat)
 case atStart=>exact⟨0,[],fg _,rfl,World.ownsRow_nil _ _ _ _,by simp,rfl,Below.refl _ _⟩
 case round=>
  obtain⟨k,l,hk,rfl,hown,hl,hexp,hb⟩:=hrel;by_cases hlt:k<xs.length
  ·obtain⟨rfl,hblk⟩:=HQ.out k hlt;obtain⟨⟨L,D,B⟩,hp⟩: ∃ p,xs[k]? =some p:=⟨_,aj hlt⟩;have hc:=HC.out k _ hp;have hc0:wr.cell? ⟨b,off+k*3,none⟩=some (.int .i64 L):=(hb.cell (p:=⟨b,off+k*3,none⟩) hblk).trans hc.1;have hc1:wr.cell? ⟨b,off+k*3+1,none⟩=some (.int .i64 D):=(hb.cell (p:=⟨b,off+k*3+1,none⟩) hblk).trans hc.2.1;have hc2:wr.cell? ⟨b,off+k*3+2,none⟩=some (.int .u8 B):=(hb.cell (p:=⟨b,off+k*3+2,none⟩) hblk).trans hc.2.2;have hltI:(k:Int)<(xs.length:Int):=by omega
   have hw:=hg _ (List.mem_of_getElem? hp);have hL:=CB hw.1;have hD:=CB hw.2.1;obtain⟨B,rfl,hB⟩:=aqH hw.2.2;have HP:=Lib.hid hp;have hsz:W.heap.size≤wr.heap.size:=hb.size;clear hc hp hw
   go_wp2_with (fail)
   refine (bH (L,D,(B:Int)) _).mono ?_;rintro e W1 ⟨rfl,hb1⟩;have hbox:W1.heap[wr.heap.size]? =some (.cells #[.int .i64 L, .int .i64 D, .int .u8 (B:Int)] 356 (0,0)):=(hb1.block _ (by simp)).trans (heap_alloc_new _ _);have hown1:=PB (hown.alloc _) hb1;have hbb:=(hb.alloc hsz (Obj.cells #[.int .i64 L, .int .i64 D, .int .u8 (B:Int)] 356)).trans (hb1.mono (Nat.le_trans hsz (by simp)));clear hown hb hb1 hc0 hc1 hc2;rcases LJ (L,D,(B:Int)) with he|⟨he,hform⟩
   ·have HE:=Lib.hid (AB hexp.out HP.out (e:=4) (by rw[nI,he];rfl) (by decide));rw[he]
    go_wp2_with (fail)
    go_ret2
    exact⟨by rw[HE.out];rfl,hbb⟩
   ·have HE0:Hid (∀ e,(if (l.length:Int)<D then 8 else if 512<(l.length:Int)+max 1 L then 2 else 0)=e→nI l (L,D,(B:Int))=e):=fun e h=>by rw[nI,he];exact h
    rw[he];have HG:=Lib.hid hbox;have g0:W1.cell? ⟨wr.heap.size,0,none⟩=some (.int .i64 L):=by rw[cell_of_row _ _ _ _ _ _ hbox];rfl
    have g1:W1.cell? ⟨wr.heap.size,1,none⟩=some (.int .i64 D):=by rw[cell_of_row _ _ _ _ _ _ hbox];rfl
    have g2:W1.cell? ⟨wr.heap.size,2,none⟩=some (.int .u8 (B:Int)):=by rw[cell_of_row _ _ _ _ _ _ hbox];rfl
    clear hbox he;generalize wr.heap.size=G at HG g0 g1 g2 hsz ⊢;obtain⟨q,ca,rfl⟩: ∃ q ca,u4= .slice q l.length ca:=by
     rcases hown1.2 with⟨rfl,h0⟩|⟨g,cap,cur,rfl,_⟩
     ·rw[h0];exact⟨_,_,rfl⟩
     ·exact⟨_,_,rfl⟩
    rcases hform with⟨h0,hd0⟩|⟨h3,h66,hd1,hb0⟩
    ·simp only at h0 hd0;subst h0 hd0;by_cases hbig:(512:Int)<(l.length:Int)+1
     ·have HE:=Lib.hid (AB hexp.out HP.out (HE0.out 2 (by rw[if_neg (by omega),if_pos (by omega)])) (by decide));clear HE0
      go_wp2_with (fail)
      go_ret2
      exact⟨by rw[HE.out];rfl,hbb⟩
     ·have HN:=Lib.hid (RN hexp.out HP.out (HE0.out 0 (by rw[if_neg (by omega),if_neg (by omega)])));have hsz1:=hbb.size;have hne:=ZH hown1 HG.out (by decide);have hlt2:=(aa.1 HG.out).1;clear HE0
      go_wp2_with (at_builtin;refine acW put.pU rfl (.tmp 34) (.tmp 37) rfl _ _ l.length (aP l) rfl rfl hown1 rfl ?c3 ?c4 hbb hsz1 ?_)
      case c3=>omega
      case c4=>unfold maxLen;omega
      intro v' W2 hown2 hgr hb2 hsz2;have g0':W2.cell? ⟨G,0,none⟩=some (.int .i64 0):=hgr.cell g0 hne;have hv:(B:Int)=((gl B).toNat:Int):=by simp;omega
      rw[eI l (gl B) _ hv] at hown2;have HN2:Hid (wH xs=kN (xs.drop (k+1)) (l++[gl B])):=HN.out;have hl2:(l++[gl B]).length≤512:=by simp;omega
      rw[show l.length+1=(l++[gl B]).length from by simp] at hown2;generalize l++[gl B]=l2 at hown2 HN2 hl2;clear hown1 hgr g0 g1 g2 HN hv hne hexp HP HG
      go_wp2_with (fail)
      go_loopw [4,41] (fun o y wx=>o=v'∧y= .int .i64 0∧W2=wx) (fun _ _ _=>0)
      case atStart=>exact⟨rfl,rfl,rfl⟩
      case round=>
       obtain⟨rfl,rfl,rfl⟩:=hrel
       go_wp2_with (fail)
       exact⟨⟨k+1,l2,by omega,rfl,hown2,hl2,HN2,hb2⟩,by show xs.length-(((k:Int)+1).toNat)<xs.length-((k:Int).toNat);omega⟩
    ·simp only at h3 h66 hd1 hb0;obtain⟨n,rfl⟩: ∃ n:Nat,L=(n:Int):=⟨L.toNat,by omega⟩;obtain⟨d,rfl⟩: ∃ d:Nat,D=(d:Int):=⟨D.toNat,by omega⟩;by_cases hdl:(l.length:Int)<(d:Int)
     ·have HE:=Lib.hid (AB hexp.out HP.out (HE0.out 8 (by rw[if_pos hdl])) (by decide));clear HE0
      go_wp2_with (fail)
      go_ret2
      exact⟨by rw[HE.out];rfl,hbb⟩
     ·by_cases hbig:(512:Int)<(l.length:Int)+(n:Int)
      ·have HE:=Lib.hid (AB hexp.out HP.out (HE0.out 2 (by rw[if_neg hdl,if_pos (by omega)])) (by decide));clear HE0;have hmax:max (1:Int) (n:Int)=(n:Int):=by omega
       go_wp2_with (fail)
       go_ret2
       exact⟨by rw[HE.out];rfl,hbb⟩
      ·have HN:=Lib.hid (RN hexp.out HP.out (HE0.out 0 (by rw[if_neg hdl,if_neg (by omega)])));have hso:lM l ((n:Int),(d:Int),(B:Int))=lL n d l:=by
        unfold lM;rw[if_neg (by simp only;omega)];rfl
       rw[hso] at HN;clear HE0 hexp HP hso;have hmax:max (1:Int) (n:Int)=(n:Int):=by omega
       have hn0:((n:Int)==0)=false:=by simp;omega
       have hd1':decide (l.length<d)=false:=decide_eq_false (by omega);have hd2':decide ((512:Int)<(l.length:Int)+(n:Int))=false:=decide_eq_false hbig;have hsz1:=hbb.size
       go_wp2_with (fail)
       go_loopw [4,41] (fun o y wx=> ∃ (j:Nat) (l2:List UInt8),j≤n∧y= .int .i64 j∧wx.ownsRow W.heap.size 5 1 o l2.length (aP l2)∧l2.length=l.length+j∧Hid (lL (n-j) d l2=lL n d l)∧Hid (wx.heap[G]? =some (.cells #[.int .i64 (n:Int), .int .i64 (d:Int), .int .u8 (B:Int)] 356 (0,0)))∧Below W.heap.size W wx) (fun _ y _=>n-(intOf y).toNat)
       case atStart=>exact⟨0,l,fg _,rfl,hown1,rfl,rfl,HG,hbb⟩
       case round=>
        obtain⟨j,l2,hj,rfl,hown2,hl2,hcp,HG2,hb2⟩:=hrel;by_cases hjn:j<n
        ·have hjI:(j:Int)<(n:Int):=by omega
         have g1':wr.cell? ⟨G,1,none⟩=some (.int .i64 (d:Int)):=by rw[cell_of_row _ _ _ _ _ _ HG2.out];rfl
         obtain⟨i,hi⟩: ∃ i,i=l2.length-d:=⟨_,rfl⟩;obtain⟨g,cap2,rfl,hcl⟩:=atI hown2 (j:=i) (by omega);have hx:(l2.length:Int)-(d:Int)=(i:Int):=by omega
         have hil:(i:Int)<(l2.length:Int):=by omega
         have hne:=ZH hown2 HG2.out (by decide);have hcp2:Hid (lL (n-(j+1)) d (l2++[l2[i]'(by omega)])=lL n d l):=by
          have h:=hcp.out;rw[show n-j=(n-(j+1))+1 from by omega,lL, ←hi] at h;rw[iw,aj (by omega)] at h;exact h
         have HI:=Lib.hid hi;have hl512:l2.length<512:=by omega
         generalize l2[i]'(by omega)=c at hcp2 hcl;have hsz2:=hb2.size;have HL2:=Lib.hid hl2;clear hcp hi hl2
         go_wp2_with (at_builtin;refine acW put.pU rfl (.tmp 43) (.tmp 52) rfl _ _ l2.length (aP l2) rfl rfl hown2 rfl ?c3 ?c4 hb2 hsz2 ?_)
         case c3=>omega
         case c4=>unfold maxLen;omega
         intro v' W2 hown3 hgr hb3 _;have HG3:=Lib.hid ((hgr.block G (aa.1 HG2.out).1 hne).trans HG2.out);rw[eI l2 c _ rfl,show l2.length+1=(l2++[c]).length from by simp] at hown3;have hl3:(l2++[c]).length=l.length+(j+1):=by simp;have:=HL2.out;omega
         generalize l2++[c]=l3 at hown3 hl3 hcp2;clear hown2 hgr hne
         go_wp2_with (fail)
         go_round
         case rel=>exact⟨j+1,l3,by omega,rfl,hown3,hl3,hcp2,HG3,hb3⟩
         case measure=>show n-(((j:Int)+1).toNat)<n-((j:Int).toNat);omega
        ·have hje:j=n:=by omega
         subst hje;rw[jl] at hcp;have hcp2:l2=lL j d l:=hcp.out;rw[←hcp2] at HN;clear hcp hcp2
         go_wp2_with (fail)
         exact⟨⟨k+1,l2,by omega,rfl,hown2,by omega,HN,hb2⟩,by show xs.length-(((k:Int)+1).toNat)<xs.length-((k:Int).toNat);omega⟩
  ·have hke:k=xs.length:=by omega
   subst hke;have hE:wH xs=(l,0):=by rw[hexp.out,List.drop_length];rfl
   have HE:=Lib.hid hE;clear hE;have hst:=kA (src:=292) (dst:=9) Tryz.underlying292 Tryz.underlying5 Tryz.underlying9 hown
   go_wp2_with (fail)
   go_ret2
   exact⟨by rw[HE.out];rfl,hb⟩
end Go.Proofs.YtbjalbcdbgcgdaaGreat.lz
namespace Go.Proofs.YtbjalbcdbgcgdaaGreat.lz
open Go.RowKit bG
theorem aGV (x:UInt8):(Lit.int .u8 (x.toNat:Int)).wf=true:=by
 have:=UInt8.toNat_lt x;simp [Lit.wf,IntKind.min,IntKind.max,IntKind.signed,IntKind.bits];omega
def mat (s:List UInt8) (k i n:Nat):Prop:= ∀ t,t<n→s[k+t]? =s[i+t]?
def VB (s:List UInt8) (i n d:Nat):Prop:=
 (n=0∨(3≤n∧n≤66∧i+n≤s.length∧1≤d∧d≤i∧mat s (i-d) i n))∧ ∀ k m,k<i→3≤m→m≤66→i+m≤s.length→mat s k i m→m≤n
def sB (s:List UInt8) (L D:Nat→Nat):Prop:= ∀ i,i<s.length→VB s i (L i) (D i)
def Dp (s:List UInt8) (L B S:Nat→Nat) (j:Nat):Prop:=
 B s.length=0∧ ∀ i,j≤i→i<s.length→(S i=1∨3≤S i∧S i≤L i)∧B i=B (i+S i)+1∧B i≤B (i+1)+1∧(∀ n,3≤n→n≤L i→B i≤B (i+n)+1)∧B i+i≤s.length
theorem DN: ∀ (n d:Nat) (out:List UInt8),out<+:lL n d out:=by
 intro n;induction n with
 |zero=>intro d out;exact kj _
 |succ n ih=>intro d out;rw[lL];exact kg (kh _ _) (ih d _)
theorem amI (out:List UInt8) (m:Int×Int×Int):out<+:lM out m:=by
 unfold lM;split
 ·exact kg (kh _ _) (DN _ _ _)
 ·exact DN _ _ _
theorem atJ: ∀ (l:List (Int×Int×Int)) (out:List UInt8),(kN l out).2≠0∧(kN l out).1=[]∨(kN l out).2=0∧out<+:(kN l out).1:=by
 intro l;induction l with
 |nil=>intro out;exact .inr ⟨rfl,kj _⟩
 |cons m l ih=>
  intro out;rw[kN];split
  ·rcases ih (lM out m) with h|h
   ·exact .inl h
   ·exact .inr ⟨h.1,kg (amI out m) h.2⟩
  ·rename_i h;exact .inl ⟨h,rfl⟩
theorem atK: ∀ (l r:List (Int×Int×Int)) (out x:List UInt8),kN l out=(x,0)→kN (l++r) out=kN r x:=by
 intro l;induction l with
 |nil=>intro r out x h;rw[kN] at h;cases h;rfl
 |cons m l ih=>
  intro r out x h;rw[kN] at h;rw[List.cons_append,kN];split at h
  ·rename_i h0;rw[if_pos h0];exact ih r _ x h
  ·rename_i h0;exact absurd (congrArg km h) h0
theorem aeD (s:List UInt8): ∀ (n d i:Nat),1≤d→d≤i→i+n≤s.length→mat s (i-d) i n→lL n d (s.take i)=s.take (i+n):=by
 intro n;induction n with
 |zero=>intro d i _ _ _ _;rfl
 |succ n ih=>
  intro d i h1 h2 h3 hm;have hl:(s.take i).length=i:=by rw[b9];omega
  have h0:=hm 0 (by omega);simp only[dm] at h0;have e:s.take i++[(s.take i).getD (i-d) 0]=s.take (i+1):=by
   have hlt:i<s.length:=by omega
   rw[ki,iw,bp,if_pos (by omega),h0,aj hlt];rfl
  rw[lL,hl,e,ih d (i+1) h1 (by omega) (by omega) ?_,show i+1+n=i+(n+1) by omega];intro t ht;have:=hm (t+1) (by omega);rw[show i+1-d+t=i-d+(t+1) by omega,show i+1+t=i+(t+1) by omega];exact this
theorem amJ: ∀ (n d:Nat) (out:List UInt8),1≤d→d≤out.length→mat (lL n d out) (out.length-d) out.length n:=by
 intro n;induction n with
 |zero=>intro d out _ _ t ht;omega
 |succ n ih=>
  intro d out h1 h2 t ht;have hlen:(out++[out.getD (out.length-d) 0]).length=out.length+1:=by simp
  rw[lL];have hp:=DN n d (out++[out.getD (out.length-d) 0]);obtain⟨r,hr⟩:=hp;cases t with
  |zero=>
   rw[←hr];simp only[dm];rw[j9 (by omega),j9 (by omega),j9 (by omega),j7 (aq _),jl,iw,aj (show out.length-d<out.length by omega)];rfl
  |succ t=>
   have:=ih d (out++[out.getD (out.length-d) 0]) h1 (by omega) t (by omega);rw[hlen] at this;rw[show out.length-d+(t+1)=out.length+1-d+t by omega,show out.length+(t+1)=out.length+1+t by omega];exact this
theorem aL {a s:List UInt8} (h:a<+:s):a=s.take a.length:=by
 obtain⟨r,rfl⟩:=h;simp
theorem amK {s:List UInt8} {m:Int×Int×Int} {l:List (Int×Int×Int)} {p:Nat} (hp:p≤s.length) (h:kN (m::l) (s.take p)=(s,0)) (hg:qV m):(∃ x,s[p]? =some x∧m=(0,0,(x.toNat:Int))∧kN l (s.take (p+1))=(s,0))∨ ∃ n d:Nat,3≤n∧n≤66∧1≤d∧d≤p∧p+n≤s.length∧m=((n:Int),(d:Int),0)∧mat s (p-d) p n∧kN l (s.take (p+n))=(s,0):=by
 rw[kN] at h;split at h
 ·rename_i h0;have hl:(s.take p).length=p:=by rw[b9];omega
  have hpre:lM (s.take p) m<+:s:=by
   rcases atJ l (lM (s.take p) m) with h2|h2
   ·rw[h] at h2;exact absurd rfl h2.1
   ·rw[h] at h2;exact h2.2
  have hle:=List.IsPrefix.length_le hpre;have htk:=aL hpre;have hc:lZ m=0:=by
   unfold nI at h0;split at h0
   ·rename_i h9;exact absurd h0 h9
   ·rename_i h9;exact ir.1 h9
  have hd: ¬ ((s.take p).length:Int)<m.2.1:=by
   unfold nI at h0;rw[if_neg (by rw[hc];exact fun h=>h rfl)] at h0;split at h0
   ·cases h0
   ·assumption
  rcases LJ m with h2|⟨_,h2⟩
  ·rw[hc] at h2;cases h2
  ·obtain⟨a,b,c⟩:=m;rcases h2 with⟨h3,h4⟩|⟨h3,h4,h5,h6⟩
   ·left;dsimp only at h3 h4;subst h3;subst h4;have hst:lM (s.take p) ((0:Int),(0:Int),c)=s.take p++[gl c.toNat]:=by unfold lM;rfl
    rw[hst] at h htk hle;rw[ag,df,hl] at htk hle;have hlt:p<s.length:=by omega
    refine⟨s[p],aj hlt, ?_,by rw[←htk];exact h⟩;have hx:gl c.toNat=s[p]:=by
     have e:(s.take p++[gl c.toNat])[p]? =(s.take (p+1))[p]? :=by rw[htk]
     rw[j7 (by omega),hl,jl,bp,if_pos (by omega),aj hlt] at e;simpa using e
    have hw:=hg.2.2;obtain⟨n,rfl,hn⟩:=aqH hw;rw[←hx];simp;omega
   ·right;dsimp only at h3 h4 h5 h6 hd;subst h6;obtain⟨n,rfl⟩:=iy (by omega:0≤a);obtain⟨d,rfl⟩:=iy (by omega:0≤b);rw[hl] at hd;have hst:lM (s.take p) ((n:Int),(d:Int),(0:Int))=lL n d (s.take p):=by
     unfold lM;rw[if_neg Zj];rfl
    rw[hst] at h htk hle;rw[amG,hl] at htk hle;have hm:=amJ n d (s.take p) (by omega) (by omega);rw[hl,htk] at hm;refine⟨n,d,by omega,by omega,by omega,by omega,by omega,rfl, ?_,by rw[←htk];exact h⟩;intro t ht;have:=hm t ht;rwa [bp,bp,if_pos (by omega),if_pos (by omega)] at this
 ·rename_i h0;exact absurd (congrArg km h) h0
theorem azM {s:List UInt8} {p:Nat} (hp:p≤s.length) (h:kN [] (s.take p)=(s,0)):p=s.length:=by
 rw[kN] at h;have:=congrArg (fun x=>x.1.length) h;simp at this;omega
theorem least {s:List UInt8} {L D B S:Nat→Nat} (hL:sB s L D) (hB:Dp s L B S 0): ∀ (l:List (Int×Int×Int)) (p:Nat),p≤s.length→(∀ m∈l,qV m)→kN l (s.take p)=(s,0)→B p≤l.length:=by
 intro l;induction l with
 |nil=>
  intro p hp _ h;rw[azM hp h,hB.1];exact fg _
 |cons m l ih=>
  intro p hp hg h;rcases amK hp h (hg m List.mem_cons_self) with⟨x,h1,h2,h3⟩|⟨n,d,h1,h2,h3,h4,h5,h6,h7,h8⟩
  ·have hlt:p<s.length:=(ah.1 h1).1;have:=ih (p+1) hlt (fun m hm=>hg m (ax _ hm)) h3;have hb:=(hB.2 p (fg _) hlt).2.2.1;rw[fb];omega
  ·have:=ih (p+n) h5 (fun m hm=>hg m (ax _ hm)) h8;have hb:=(hB.2 p (fg _) (by omega)).2.2.2.1 n h1 ((hL p (by omega)).2 (p-d) n (by omega) h1 h2 h5 h7);rw[fb];omega
def qW (s:List UInt8) (S D:Nat→Nat) (i:Nat):Int×Int×Int:=if S i=1 then (0,0,((s.getD i 0).toNat:Int)) else ((S i:Int),(D i:Int),0)
theorem RO {s:List UInt8} {L D B S:Nat→Nat} {i:Nat} {out:List (Int×Int×Int)} (hs:s.length≤512) (hL:sB s L D) (hB:Dp s L B S 0) (hi:i<s.length) (ho:wH out=(s.take i,0)):i+S i≤s.length∧1≤S i∧wH (out++[qW s S D i])=(s.take (i+S i),0)∧qV (qW s S D i):=by
 obtain⟨h1,h2,h3,h4,h5⟩:=hB.2 i (fg _) hi;have hl:(s.take i).length=i:=by rw[b9];omega
 have ha:wH (out++[qW s S D i])=kN [qW s S D i] (s.take i):=atK _ _ _ _ ho;rw[ha,kN];rcases h1 with h1|⟨h1,h6⟩
 ·have hm:qW s S D i=(0,0,((s.getD i 0).toNat:Int)):=by unfold qW;rw[if_pos h1]
  have hx:s.getD i 0=s[i]:=by rw[iw,aj hi];rfl
  rw[hm,h1];have hst:nI (s.take i) ((0:Int),(0:Int),((s.getD i 0).toNat:Int))=0:=by
   unfold nI;rw[if_neg (fun h=>h rfl),hl,if_neg Zj,if_neg (by show ¬ 512<(i:Int)+max 1 0;omega)]
  rw[if_pos hst];refine⟨by omega,aq _, ?_, ?_⟩
  ·show (lM _ _,0)=_;have:lM (s.take i) ((0:Int),(0:Int),((s.getD i 0).toNat:Int))=s.take i++[gl ((s.getD i 0).toNat:Int).toNat]:=by unfold lM;rfl
   rw[this,hx,ki,aj hi];simp
  ·exact⟨rfl,rfl,aGV _⟩
 ·have hlong:=(hL i hi).1;have hne:L i≠0:=by omega
  rcases hlong with h7|⟨g1,g2,g3,g4,g5,g6⟩
  ·exact absurd h7 hne
  ·have hm:qW s S D i=((S i:Int),(D i:Int),0):=by unfold qW;rw[if_neg (by omega)]
   rw[hm];have hst:nI (s.take i) ((S i:Int),(D i:Int),(0:Int))=0:=by
    have hc:lZ ((S i:Int),(D i:Int),(0:Int))=0:=by
     unfold lZ;rw[if_neg Zj,if_neg Zj]
    unfold nI;rw[if_neg (by rw[hc];exact fun h=>h rfl),hl,if_neg Zj,if_neg Zj]
   rw[if_pos hst];refine⟨by omega,by omega, ?_, ?_⟩
   ·show (lM _ _,0)=_;have:lM (s.take i) ((S i:Int),(D i:Int),(0:Int))=lL (S i) (D i) (s.take i):=by
     unfold lM;rw[if_neg Zj];rfl
    rw[this,aeD s (S i) (D i) i g4 g5 (by omega) (fun t ht=>g6 t (by omega))]
   ·have:D i≤512:=by omega
    have:S i≤66:=by omega
    refine⟨?_, ?_,rfl⟩<;>simp [Lit.wf,IntKind.min,IntKind.max,IntKind.signed,IntKind.bits]<;>omega
def Found (s:List UInt8) (out:List (Int×Int×Int)):Prop:=wH out=(s,0)∧(∀ m∈out,qV m)∧out.length≤512∧ ∀ l,(∀ m∈l,qV m)→wH l=(s,0)→out.length≤l.length
def Way (s:List UInt8) (B:Nat→Nat) (i:Nat) (out:List (Int×Int×Int)):Prop:=i≤s.length∧wH out=(s.take i,0)∧(∀ m∈out,qV m)∧out.length+B i=B 0
theorem azN (s:List UInt8) (B:Nat→Nat):Way s B 0 []:=⟨fg _,rfl,fun m h=>absurd h List.not_mem_nil,by simp⟩
theorem atL {s:List UInt8} {L D B S:Nat→Nat} {i:Nat} {out:List (Int×Int×Int)} (hs:s.length≤512) (hL:sB s L D) (hB:Dp s L B S 0) (hi:i<s.length) (h:Way s B i out):Way s B (i+S i) (out++[qW s S D i]):=by
 obtain⟨h1,h2,h3,h4⟩:=h;obtain⟨g1,g2,g3,g4⟩:=RO hs hL hB hi h2;refine⟨g1,g3,fun m hm=> ?_, ?_⟩
 ·rcases List.mem_append.1 hm with hm|hm
  ·exact h3 m hm
  ·rw[List.mem_singleton.1 hm];exact g4
 ·have:=(hB.2 i (fg _) hi).2.1;rw[ag,df];omega
theorem azO {s:List UInt8} {L D B S:Nat→Nat} {out:List (Int×Int×Int)} (hs:s.length≤512) (hL:sB s L D) (hB:Dp s L B S 0) (h:Way s B s.length out):Found s out:=by
 obtain⟨h1,h2,h3,h4⟩:=h;rw[hB.1] at h4;rw[List.take_length] at h2;have hb0:B 0≤s.length:=by
  rcases Nat.eq_zero_or_pos s.length with h|h
  ·have:=hB.1;rw[h] at this;omega
  ·have:=(hB.2 0 (fg _) h).2.2.2.2;omega
 exact⟨h2,h3,by omega,fun l hg hl=>by have:=least hL hB l 0 (fg _) hg hl;omega⟩
end Go.Proofs.YtbjalbcdbgcgdaaGreat.lz
