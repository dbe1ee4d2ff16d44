/- Law HandStale: its texts, packed. -/
import Derived.Test.YtbjalbcdbgcgdaaGreatK00
import Derived.Test.YtbjalbcdbgcgdaaGreatK08
import Derived.Test.YtbjalbcdbgcgdaaGreatK18
import Derived.Deep.RegionHeld3
import Derived.Test.YtbjalbcdbgcgdaaGreatK09
import Derived.Test.YtbjalbcdbgcgdaaGreatK07
open List renaming drop_eq_getElem_cons->cu,drop_of_length_le->mc,eq_nil_of_length_eq_zero->ml,getElem?_eq_getElem->aj,getElem?_eq_some_iff->ah,mem_of_getElem?->jm,replicate->eb,replicate_succ'->nj
open Nat renaming add_comm->ij,zero_le->fg
open UInt8 renaming ofNat->gl
set_option linter.unusedVariables false
set_option maxRecDepth 100000
set_option maxHeartbeats 8000000
namespace Go.Proofs.YtbjalbcdbgcgdaaGreat.runs
open Go.RowKit bG put
def mU (w:Int):List Value:=[Value.int .i64 w]
def gM:List Int→Bool
 |[]=>false
 |x::l=>if x<0∨15<x then true else gM l
def eK (l:List Int):Nat:=if 320<l.length then 2 else if gM l=true then 1 else 0
def lead:Nat→Int→List Int→Nat
 |0,_,_=>0
 |_+1,_,[]=>0
 |c+1,x,y::l=>if y=x then lead c x l+1 else 0
def wF:Nat→List Int→List UInt8
 |0,_=>[]
 |_+1,[]=>[]
 |f+1,x::l=>gl (x.toNat*16+lead 15 x l)::wF f (l.drop (lead 15 x l))
def aR (l:List Int):List UInt8:=cA l.length++wF l.length l
def eE (l:List Int):ByteArray:=if eK l=0 then ⟨(aR l).toArray⟩ else ⟨#[]⟩
theorem uD (a b:List Int):gM (a++b)=(gM a||gM b):=by
 induction a with
 |nil=>simp [gM]
 |cons p a ih=>
  rw[List.cons_append,gM,gM,ih];split<;>simp
theorem DH {l:List Int} {k:Nat} {w:Int} (hp:l[k]? =some w) (h0:gM (l.take k)=false) (hw: ¬ (w<0∨15<w)):gM (l.take (k+1))=false:=by
 rw[take_one hp,uD,h0,gM,if_neg hw];rfl
theorem zU {l:List Int} {k:Nat} {w:Int} (hp:l[k]? =some w) (hw:w<0∨15<w):gM l=true:=by
 have e1:l=l.take k++(w::l.drop (k+1)):=by
  conv=>lhs;rw[←List.take_append_drop k l]
  rw[cu (ah.1 hp).1,(ah.1 hp).2]
 rw[e1,uD,gM,if_pos hw,Bool.or_true]
theorem qR {l:List Int} (h:gM l=false) {w:Int} (hw:w∈l):0≤w∧w≤15:=by
 induction l with
 |nil=>cases hw
 |cons p l ih=>
  unfold gM at h;split at h
  ·cases h
  ·rcases List.mem_cons.1 hw with rfl|hw
   ·omega
   ·exact ih h hw
theorem VN: ∀ (f g:Nat) (l:List Int),l.length≤f→l.length≤g→wF f l=wF g l
 |0,g,l,h,_=>by
  have:l=[]:=ml (by omega);subst this;cases g<;>rfl
 |f+1,0,l,_,h=>by
  have:l=[]:=ml (by omega);subst this;rfl
 |f+1,g+1,[],_,_=>rfl
 |f+1,g+1,x::l,h1,h2=>by
  rw[wF,wF];simp only[List.length_cons] at h1 h2;rw[VN f g _ (by simp;omega) (by simp;omega)]
theorem aaE: ∀ (c:Nat) (x:Int) (l:List Int),lead c x l≤l.length∧lead c x l≤c
 |0,_,l=>by simp [lead]
 |_+1,_,[]=>by simp [lead]
 |c+1,x,y::l=>by
  rw[lead];have:=aaE c x l;split<;>simp<;>omega
def FV (xs:List Int) (k:Nat):List UInt8:=wF xs.length (xs.drop k)
theorem aeT {xs:List Int} {k:Nat} {x:Int} (h:xs[k]? =some x) {L:Nat} (hL:lead 15 x (xs.drop (k+1))=L):FV xs k=gl (x.toNat*16+L)::FV xs (k+1+L):=by
 have hk:=(ah.1 h).1;unfold FV;rw[cu hk,(ah.1 h).2,VN xs.length ((xs.drop (k+1)).length+1) _ (by simp;omega) (by simp),wF,hL,List.drop_drop];rw[VN xs.length (xs.drop (k+1)).length _ (by simp) (by simp;omega)]
theorem amS (xs:List Int):FV xs xs.length=[]:=by
 unfold FV;rw[List.drop_length];cases xs.length<;>rfl
theorem amT {xs:List Int} {k m:Nat} {x:Int} (h:xs[k+m]? =some x) (hm:m<16):lead (16-m) x (xs.drop (k+m))=lead (16-(m+1)) x (xs.drop (k+(m+1)))+1:=by
 have hk:=(ah.1 h).1;rw[cu hk,(ah.1 h).2,show 16-m=(16-(m+1))+1 from by omega,lead,if_pos rfl];rfl
theorem aeU {xs:List Int} {k m:Nat} {x y:Int} (h:xs[k+m]? =some y) (hxy:y≠x):lead (16-m) x (xs.drop (k+m))=0:=by
 have hk:=(ah.1 h).1;rw[cu hk,(ah.1 h).2];cases 16-m with
 |zero=>rfl
 |succ c=>rw[lead,if_neg hxy]
theorem auJ {xs:List Int} {k m:Nat} {x:Int} (h:xs.length≤k+m):lead (16-m) x (xs.drop (k+m))=0:=by
 rw[mc h];cases 16-m<;>rfl
theorem auK: ∀ a b:Fin 16,bits BinOp.or IntKind.i64 (((a.val:Nat):Int)*16) ((b.val:Nat):Int)%256=((gl (a.val*16+b.val)).toNat:Int):=by decide
theorem MJ (x:Int) (m:Nat) (hx:0≤x∧x≤15) (hm:1≤m∧m≤16):bits BinOp.or IntKind.i64 (x*16) ((m:Int)-1)%256=((gl (x.toNat*16+(m-1))).toNat:Int):=by
 have h:=auK ⟨x.toNat,by omega⟩ ⟨m-1,by omega⟩;simp only at h;rw[Int.toNat_of_nonneg hx.1,show ((m-1:Nat):Int)=(m:Int)-1 from by omega] at h;exact h
theorem xY {xs:List Int} {l:List UInt8} {k m:Nat} {x:Int} (h:aR xs=l++FV xs k) (hp:xs[k]? =some x) (hm:1≤m) (hL:lead 15 x (xs.drop (k+1))=m-1):aR xs=(l++[gl (x.toNat*16+(m-1))])++FV xs (k+m):=by
 rw[h,aeT hp hL,show k+1+(m-1)=k+m from by omega];simp
theorem jR (v:Value) (xs:List Int) (W:World) (hs:bM W 1 v (xs.map mU)) (hg: ∀ x∈xs,(Lit.int .i64 x).wf=true) (hn:xs.length≤1000000000000000):
  Calls Tryz.prog 307 #[v] W fun e w'=>e= .returned (.tuple #[.string (eE xs), .int .i64 (eK xs:Int)])∧Below W.heap.size W w':=by
 obtain⟨q,cap,b,off,rfl,hq,hc⟩:=hs.view;simp only[List.length_map] at hq ⊢;have HQ:=Lib.hid hq;have HC:Hid (∀ k x,xs[k]? =some x→W.cell? ⟨b,off+k,none⟩=some (.int .i64 x)):=fun k p hx=>by
  have:=hc k _ (by rw[List.getElem?_map,hx];rfl) 0 _ rfl;simpa [Nat.mul_one] using this
 clear hs hq hc;by_cases hbig:(320:Int)<(xs.length:Int)
 ·have hE:eK xs=2:=by rw[eK,if_pos (by omega)]
  have hS:eE xs=⟨#[]⟩:=by rw[eE,if_neg Zl]
  rw[hS,hE]
  go_enter Tryz.func307,Tryz.ntmps307
  go_wp2_with (fail)
  go_ret2
  exact⟨rfl,Below.refl _ _⟩
 ·have hn3:xs.length≤320:=by omega
  go_enter Tryz.func307,Tryz.ntmps307
  go_wp2_with (fail)
  go_loopw [14] (fun y wr=> ∃ k:Nat,k≤xs.length∧y= .int .i64 k∧Hid (gM (xs.take k)=false)∧W=wr) (fun y _=>xs.length-(intOf y).toNat)
  case atStart=>exact⟨0,fg _,rfl,rfl,rfl⟩
  case round=>
   obtain⟨k,hk,rfl,hfe,rfl⟩:=hrel;by_cases hlt:k<xs.length
   ·obtain⟨rfl,hblk⟩:=HQ.out k hlt;obtain⟨x,hp⟩: ∃ p,xs[k]? =some p:=⟨_,aj hlt⟩;have hc0:=HC.out k _ hp;have hltI:(k:Int)<(xs.length:Int):=by omega
    have hp2:=CB (hg _ (jm hp));have HP:=Lib.hid hp;clear hp;by_cases hneg:x<0
    ·have hE:eK xs=1:=by rw[eK,if_neg (by omega),if_pos (zU HP.out (.inl hneg))]
     have hS:eE xs=⟨#[]⟩:=by rw[eE,if_neg Zl]
     go_wp2_with (fail)
     go_ret2
     exact⟨rfl,Below.refl _ _⟩
    ·by_cases hbig:15<x
     ·have hE:eK xs=1:=by rw[eK,if_neg (by omega),if_pos (zU HP.out (.inr hbig))]
      have hS:eE xs=⟨#[]⟩:=by rw[eE,if_neg Zl]
      go_wp2_with (fail)
      go_ret2
      exact⟨rfl,Below.refl _ _⟩
     ·have HE:=Lib.hid (DH HP.out hfe.out (by omega))
      go_wp2_with (fail)
      exact⟨⟨k+1,by omega,rfl,HE,trivial⟩,by show xs.length-(((k:Int)+1).toNat)<xs.length-((k:Int).toNat);omega⟩
   ·have hke:k=xs.length:=by omega
    subst hke;rw[List.take_length] at hfe;have hE:eK xs=0:=by rw[eK,if_neg (by omega),if_neg (by rw[hfe.out];decide)]
    have hS:eE xs=⟨(aR xs).toArray⟩:=by rw[eE,if_pos hE]
    have HE:=Lib.hid hE;have HS:=Lib.hid hS;clear hE hS;have hu:(xs.length:Int)<18446744073709551616:=by omega
    go_wp2_with (fail)
    refine (mM xs.length (by omega) W).mono ?_;rintro e W1 ⟨rfl,hb1⟩;have hsz:=hb1.size;have hpl:(⟨(cA xs.length).toArray⟩:ByteArray).size≤11:=by rw[axT];exact (tW 10 xs.length).2
    go_wp2_with (refine DL rfl 9 292 5 _ rfl Tryz.underlying9 Tryz.underlying292 Tryz.underlying5 _ Zh rfl hb1 hsz ?_)
    intro ov W2 hown hb2;clear hb1 hsz hpl
    go_wp2_with (fail)
    have h63:xs.length≤320:=hn3
    go_loopw [6,7] (fun o y wr=> ∃ (k:Nat) (l:List UInt8),k≤xs.length∧y= .int .i64 k∧LH wr W.heap.size 5 o l∧l.length≤11+k∧Hid (aR xs=l++FV xs k)∧Below W.heap.size W wr) (fun _ y _=>xs.length-(intOf y).toNat)
    case atStart=>exact⟨0,cA xs.length,fg _,rfl,hown,by rw[Nat.add_zero];exact (tW 10 xs.length).2,rfl,hb2⟩
    case round=>
     obtain⟨k,l,hk,rfl,hown,hll,hwr,hb⟩:=hrel;by_cases hlt:k<xs.length
     ·obtain⟨rfl,hblk⟩:=HQ.out k hlt;obtain⟨x,hp⟩: ∃ p,xs[k]? =some p:=⟨_,aj hlt⟩;have hx:=qR hfe.out (jm hp);have hltI:(k:Int)<(xs.length:Int):=by omega
      have HP:=Lib.hid hp;have HC0:=Lib.hid (HC.out k _ hp);clear hp;obtain⟨w0,rfl⟩: ∃ w0,w0=wr:=⟨_,rfl⟩
      go_wp2_with (fail)
      go_loopw [8] (fun y wx=> ∃ m:Nat,1≤m∧m≤16∧k+m≤xs.length∧y= .int .i64 m∧Hid (lead 15 x (xs.drop (k+1))+1=m+lead (16-m) x (xs.drop (k+m)))∧w0.grownBy wx none) (fun y _=>16-(intOf y).toNat)
      case atStart=>exact⟨1,by omega,by omega,by omega,rfl,by show _+1=1+_;rw[ij],xC _ _⟩
      case round=>
       obtain⟨m,hm1,hm16,hkm,rfl,hlead,hgr⟩:=hrel;have hb3:=uZ hb hgr;have c0: ∀ x':BW wr,x'.w.cell? ⟨b,off+k,none⟩=some (.int .i64 x):=fun x'=>((hb3.trans (x'.h.mono hb3.size)).cell (p:=⟨b,off+k,none⟩) hblk).trans HC0.out
       have hexit:lead (16-m) x (xs.drop (k+m))=0→lead 15 x (xs.drop (k+1))=m-1:=fun h=>by have:=hlead.out;omega
       by_cases hm:(m:Int)<16
       ·by_cases hin:(k:Int)+(m:Int)<(xs.length:Int)
        ·obtain⟨y,hy⟩: ∃ y,xs[k+m]? =some y:=⟨_,aj (by omega)⟩;have c1: ∀ x':BW wr,x'.w.cell? ⟨b,off+(k+m),none⟩=some (.int .i64 y):=fun x'=>((hb3.trans (x'.h.mono hb3.size)).cell (p:=⟨b,off+(k+m),none⟩) hblk).trans (HC.out _ _ hy)
         have HY:=Lib.hid hy;clear hy;by_cases hxy:y=x
         ·subst hxy;have HL:Hid (lead 15 y (xs.drop (k+1))+1=(m+1)+lead (16-(m+1)) y (xs.drop (k+(m+1)))):=by
           have:=hlead.out;rw[amT HY.out (by omega)] at this;show _=_;omega
          clear hexit
          go_wp2_with (fail)
          refine kJ (by kernel_rfl) (by kernel_rfl) ?_;repeat (go_big_quiet_step (fail))
          refine wpQuiet_nil ?_;rintro _ ⟨wx,rfl⟩
          go_wp2_with (fail)
          exact⟨⟨m+1,by omega,by omega,by omega,rfl,HL,pC hgr (lB wx.h)⟩,by show 16-(((m:Int)+1).toNat)<16-((m:Int).toNat);omega⟩
         ·have hL:=Lib.hid (hexit (aeU HY.out hxy));have hne:(y==x)=false:=by simpa using hxy
          clear hexit
          go_wp2_with (fail)
          refine kJ (by kernel_rfl) (by kernel_rfl) ?_;repeat (go_big_quiet_step (fail))
          refine wpQuiet_nil ?_;rintro _ ⟨wx,rfl⟩;have hgx:=pC hgr (lB wx.h);generalize wx.w=w5 at hgx ⊢;have hb5:=uZ hb hgx;have hsz5:=hb5.size;have c5:w5.cell? ⟨b,off+k,none⟩=some (.int .i64 x):=(hb5.cell (p:=⟨b,off+k,none⟩) hblk).trans HC0.out;have hown5:=hown.kept hgx;have hval0:=MJ x m hx ⟨by omega,by omega⟩;have hw0:=xY hwr.out HP.out (show 1≤m by omega) hL.out;generalize gl (x.toNat*16+(m-1))=c8 at hval0 hw0;have hval:=Lib.hid hval0;have HW:=Lib.hid hw0;clear hval0 hw0;clear wx c0 c1 hgx hb3 hgr hown
          go_wp2_with (at_builtin;refine LI put.pU rfl (.tmp 59) (.tmp 69) rfl _ l _ c8 hval.out rfl rfl hown5 ?c2 hsz5 ?_)
          case c2=>omega
          intro v6 w6 hown6 hb6;have hb7:=hb5.trans hb6;clear hval hb6 hown5 c5 hsz5 hb5 hwr
          go_wp2_with (fail)
          exact⟨⟨k+m,_,hkm,rfl,hown6,by simp;omega,HW,hb7⟩,by show xs.length-(((k:Int)+(m:Int)).toNat)<xs.length-((k:Int).toNat);omega⟩
        ·have hL:=Lib.hid (hexit (auJ (by omega)));have hinD:decide ((k:Int)+(m:Int)<(xs.length:Int))=false:=decide_eq_false hin;clear hexit
         go_wp2_with (fail)
         refine kJ (by kernel_rfl) (by kernel_rfl) ?_;repeat (go_big_quiet_step (fail))
         refine wpQuiet_nil ?_;rintro _ ⟨wx,rfl⟩;have hgx:=pC hgr (lB wx.h);generalize wx.w=w5 at hgx ⊢;have hb5:=uZ hb hgx;have hsz5:=hb5.size;have c5:w5.cell? ⟨b,off+k,none⟩=some (.int .i64 x):=(hb5.cell (p:=⟨b,off+k,none⟩) hblk).trans HC0.out;have hown5:=hown.kept hgx;have hval0:=MJ x m hx ⟨by omega,by omega⟩;have hw0:=xY hwr.out HP.out (show 1≤m by omega) hL.out;generalize gl (x.toNat*16+(m-1))=c8 at hval0 hw0;have hval:=Lib.hid hval0;have HW:=Lib.hid hw0;clear hval0 hw0;clear wx c0 hgx hb3 hgr hown
         go_wp2_with (at_builtin;refine LI put.pU rfl (.tmp 59) (.tmp 69) rfl _ l _ c8 hval.out rfl rfl hown5 ?c2 hsz5 ?_)
         case c2=>omega
         intro v6 w6 hown6 hb6;have hb7:=hb5.trans hb6;clear hval hb6 hown5 c5 hsz5 hb5 hwr
         go_wp2_with (fail)
         exact⟨⟨k+m,_,hkm,rfl,hown6,by simp;omega,HW,hb7⟩,by show xs.length-(((k:Int)+(m:Int)).toNat)<xs.length-((k:Int).toNat);omega⟩
       ·have:m=16:=by omega
        subst this;have hL:=Lib.hid (hexit rfl);clear hexit
        go_wp2_with (fail)
        refine kJ (by kernel_rfl) (by kernel_rfl) ?_;repeat (go_big_quiet_step (fail))
        refine wpQuiet_nil ?_;rintro _ ⟨wx,rfl⟩;have hgx:=pC hgr (lB wx.h);generalize wx.w=w5 at hgx ⊢;have hb5:=uZ hb hgx;have hsz5:=hb5.size;have c5:w5.cell? ⟨b,off+k,none⟩=some (.int .i64 x):=(hb5.cell (p:=⟨b,off+k,none⟩) hblk).trans HC0.out;have hown5:=hown.kept hgx;have hval0:=MJ x 16 hx ⟨by omega,by omega⟩;have hw0:=xY hwr.out HP.out (show 1≤16 by omega) hL.out;generalize gl (x.toNat*16+(16-1))=c8 at hval0 hw0;have hval:=Lib.hid hval0;have HW:=Lib.hid hw0;clear hval0 hw0;clear wx c0 hgx hb3 hgr hown
        go_wp2_with (at_builtin;refine LI put.pU rfl (.tmp 59) (.tmp 69) rfl _ l _ c8 hval.out rfl rfl hown5 ?c2 hsz5 ?_)
        case c2=>omega
        intro v6 w6 hown6 hb6;have hb7:=hb5.trans hb6;clear hval hb6 hown5 c5 hsz5 hb5 hwr
        go_wp2_with (fail)
        exact⟨⟨k+16,_,hkm,rfl,hown6,by simp;omega,HW,hb7⟩,by show xs.length-(((k:Int)+(16:Int)).toNat)<xs.length-((k:Int).toNat);omega⟩
     ·have hke:k=xs.length:=by omega
      subst hke;rw[amS,List.append_nil] at hwr;have hst:=hown.str (src:=292) (dst:=9) Tryz.underlying292 Tryz.underlying5 Tryz.underlying9
      go_wp2_with (fail)
      go_ret2
      exact⟨by rw[HS.out,HE.out,hwr.out];rfl,hb⟩
end Go.Proofs.YtbjalbcdbgcgdaaGreat.runs
namespace Go.Proofs.YtbjalbcdbgcgdaaGreat.runs
open Go.RowKit bG put get
def gG:List UInt8→Nat→Nat→UInt8→List Int×Nat×Nat
 |l,n,k,last=>
  if n≤k then ([],0,0) else
  match l with
  |[]=>([],0,3)
  |b::l=>
   let many:=b.toNat%16+1
   if n<k+many∨(0<k∧b.toNat/16=last.toNat/16∧last.toNat%16≠15) then ([],0,4) else
    let r:=gG l n (k+many) b
    if r.2.2=0 then (eb many ((b.toNat/16:Nat):Int)++r.1,r.2.1+1,0) else r
def nK (s:List UInt8):List Int×Nat×Nat:=
 let g:=eD s
 if g.2.2≠0 then ([],0,g.2.2) else
 if 320<g.1 then ([],0,2) else
 let r:=gG (s.drop g.2.1) g.1 0 255
 if r.2.2=0 then (r.1,r.2.1+g.2.1,0) else ([],0,r.2.2)
def jK (l:List Int):List Value:=l.map fun x=>Value.int .i64 x
theorem ML (l:List UInt8) (n k:Nat) (last:UInt8) (h:n≤k):gG l n k last=([],0,0):=by
 unfold gG;rw[if_pos h]
theorem amU (n k:Nat) (last:UInt8) (h: ¬ n≤k):gG [] n k last=([],0,3):=by
 unfold gG;rw[if_neg h]
theorem amV (l:List UInt8) (n k:Nat) (b last:UInt8) (h: ¬ n≤k) (hb:n<k+(b.toNat%16+1)∨(0<k∧b.toNat/16=last.toNat/16∧last.toNat%16≠15)):gG (b::l) n k last=([],0,4):=by
 conv=>lhs;unfold gG
 rw[if_neg h];dsimp only;rw[if_pos hb]
theorem MM (l:List UInt8) (n k:Nat) (b last:UInt8) (h: ¬ n≤k) (hb: ¬ (n<k+(b.toNat%16+1)∨(0<k∧b.toNat/16=last.toNat/16∧last.toNat%16≠15))):gG (b::l) n k last=if (gG l n (k+(b.toNat%16+1)) b).2.2=0 then (eb (b.toNat%16+1) ((b.toNat/16:Nat):Int)++(gG l n (k+(b.toNat%16+1)) b).1,(gG l n (k+(b.toNat%16+1)) b).2.1+1,0) else gG l n (k+(b.toNat%16+1)) b:=by
 conv=>lhs;unfold gG
 rw[if_neg h];dsimp only;rw[if_neg hb]
def eM (L:List UInt8) (m at0 k:Nat) (last:UInt8) (done:List Int):Prop:=
 nK L=(if (gG (L.drop at0) m k last).2.2=0 then (done++(gG (L.drop at0) m k last).1,(gG (L.drop at0) m k last).2.1+at0,0) else ([],0,(gG (L.drop at0) m k last).2.2))
theorem eM.stop {L:List UInt8} {m at0 k:Nat} {last:UInt8} {done:List Int} (h:eM L m at0 k last done) (hk:m≤k):nK L=(done,at0,0):=by
 unfold eM at h;rw[ML _ _ _ _ hk] at h;simpa using h
theorem eM.nil {L:List UInt8} {m at0 k:Nat} {last:UInt8} {done:List Int} (h:eM L m at0 k last done) (hk: ¬ m≤k) (hl:L.length≤at0):nK L=([],0,3):=by
 unfold eM at h;rw[mc hl,amU _ _ _ hk] at h;simpa using h
theorem eM.bad {L:List UInt8} {m at0 k:Nat} {b last:UInt8} {done:List Int} (h:eM L m at0 k last done) (hk: ¬ m≤k) (hl:L[at0]? =some b) (hb:m<k+(b.toNat%16+1)∨(0<k∧b.toNat/16=last.toNat/16∧last.toNat%16≠15)):nK L=([],0,4):=by
 unfold eM at h;rw[cu (ah.1 hl).1,(ah.1 hl).2,amV _ _ _ _ _ hk hb] at h;simpa using h
theorem eM.more {L:List UInt8} {m at0 k:Nat} {b last:UInt8} {done:List Int} (h:eM L m at0 k last done) (hk: ¬ m≤k) (hl:L[at0]? =some b) (hb: ¬ (m<k+(b.toNat%16+1)∨(0<k∧b.toNat/16=last.toNat/16∧last.toNat%16≠15))):eM L m (at0+1) (k+(b.toNat%16+1)) b (done++eb (b.toNat%16+1) ((b.toNat/16:Nat):Int)):=by
 unfold eM at h ⊢;rw[cu (ah.1 hl).1,(ah.1 hl).2,MM _ _ _ _ _ hk hb] at h;rw[h];by_cases h0:(gG (L.drop (at0+1)) m (k+(b.toNat%16+1)) b).2.2=0
 ·rw[if_pos h0,if_pos rfl,if_pos h0,List.append_assoc,Nat.add_assoc,ij 1 at0]
 ·rw[if_neg h0,if_neg h0,if_neg h0]
theorem aiZ {w:World} {B e n:Nat} {v:Value} {xs:List Value} (h:w.ownsRow B e 1 v n xs): ∃ q cap,v= .slice q n cap:=by
 rcases h.2 with⟨rfl,h0⟩|⟨g,cap,cur,rfl,_⟩
 ·subst h0;exact⟨_,_,rfl⟩
 ·exact⟨_,_,rfl⟩
theorem amW: ∀ n:Fin 256,bits BinOp.and IntKind.u8 ((n.val:Nat):Int) 15=((n.val%16:Nat):Int):=by decide
theorem aCX (b:UInt8):bits BinOp.and IntKind.u8 (b.toNat:Int) 15=((b.toNat%16:Nat):Int):=amW ⟨b.toNat,b.toNat_lt⟩
theorem tI:iU Tryz.prog 23 3 1 8 (.int .i64 0):=wZ Tryz.underlying23 (by kernel_rfl) rfl (by decide)
def aaF (s:ByteArray) (W:World) (e:Ending) (w':World):Prop:=
 ∃ ov,e= .returned (.tuple #[ov, .int .i64 ((nK s.data.toList).2.1:Int), .int .i64 ((nK s.data.toList).2.2:Int)])∧w'.ownsRow W.heap.size 3 1 ov (nK s.data.toList).1.length (jK (nK s.data.toList).1)∧Below W.heap.size W w'
theorem uJ {s:ByteArray} {W w':World} {e:Nat} (h:nK s.data.toList=([],0,e)) (hb:Below W.heap.size W w'):aaF s W (.returned (.tuple #[.slice none 0 0, .int .i64 0, .int .i64 (e:Int)])) w':=
 ⟨_,by rw[h];rfl,by rw[h];exact World.ownsRow_nil _ _ _ _,hb⟩
theorem oG (s:ByteArray) (hs:s.size≤1000000000000000) (W:World):
  Calls Tryz.prog 312 #[.string s] W (aaF s W):=by
 rcases oF s.data.toList with⟨k,m,h1,h2,h3,h4,h5⟩|h|h
 ·have H:=Lib.hid h1;clear h5;by_cases hbig:(320:Int)<(m:Int)
  ·have hE:nK s.data.toList=([],0,2):=by unfold nK;rw[h1];simp;omega
   have HE:=Lib.hid hE;clear h1 hE
   go_enter Tryz.func312,Tryz.ntmps312
   go_wp2_with (fail)
   refine (adM s Zh m k 0 H.out _).mono ?_;rintro e w' ⟨rfl,rfl⟩
   go_wp2_with (fail)
   go_ret3
   exact uJ HE.out (Below.refl _ _)
  ·clear h1
   go_enter Tryz.func312,Tryz.ntmps312
   go_wp2_with (fail)
   refine (adM s Zh m k 0 H.out _).mono ?_;rintro e w' ⟨rfl,rfl⟩;have hm3:m≤320:=by omega
   have hkk:k≤s.size:=by rw[Lib.size_eq];exact h3
   have hst0:Hid (eM s.data.toList m k 0 255 []):=by
    show eM s.data.toList m k 0 255 [];unfold eM nK;rw[H.out];simp only[ne_eq,not_true_eq_false,if_false,List.nil_append];rw[if_neg (by omega)]
   clear hbig h3 h2
   go_wp2_with (fail)
   go_loopw [6,8,9] (fun av o lv wr=> ∃ (at0:Nat) (last:UInt8) (done:List Int),at0≤s.size∧done.length≤m∧av= .int .i64 at0∧lv= .int .u8 (last.toNat:Int)∧wr.ownsRow W.heap.size 3 1 o done.length (jK done)∧Hid (eM s.data.toList m at0 done.length last done)∧Below W.heap.size W wr) (fun av _ _ _=>s.size-(intOf av).toNat)
   case atStart=>exact⟨k,255,[],hkk,fg _,rfl,rfl,World.ownsRow_nil _ _ _ _,hst0,Below.refl _ _⟩
   case round=>
    obtain⟨at0,last,done,qE,hdl,rfl,rfl,hown,hst,hb⟩:=hrel;obtain⟨q,cap,rfl⟩:=aiZ hown;have hsI:(s.size:Int)≤1000000000000000:=by omega
    by_cases hfin:(done.length:Int)<(m:Int)
    ·by_cases hend:(at0:Int)=(s.size:Int)
     ·have HE:=Lib.hid (hst.out.nil (by omega) (by rw[←Lib.size_eq];omega));have hee:((at0:Int)==(s.size:Int))=true:=by simpa using hend
      clear hend
      go_wp2_with (fail)
      go_ret3
      exact uJ HE.out hb
     ·have hee:((at0:Int)==(s.size:Int))=false:=by simpa using hend
      have hlt:at0<s.size:=by omega
      have hltI:(at0:Int)<(s.size:Int):=by omega
      obtain⟨b,hbi⟩: ∃ b,s[at0]=b:=⟨_,rfl⟩;have hbl:s.data.toList[at0]? =some b:=by
       rw[Lib.size_eq] at hlt;rw[aj hlt, ←hbi];rfl
      have HB:=Lib.hid hbl;obtain⟨mq,hmq⟩: ∃ mq,mq=b.toNat%16:=⟨_,rfl⟩;obtain⟨lq,hlq⟩: ∃ lq,lq=last.toNat%16:=⟨_,rfl⟩;have ha1:=aCX b;have ha2:=aCX last;rw[←hmq] at ha1;rw[←hlq] at ha2;have hm15:mq≤15:=by omega
      have hl15:lq≤15:=by omega
      have hd3:done.length≤320:=by omega
      have HMQ:=Lib.hid hmq;have HLQ:=Lib.hid hlq;clear hend hbl hmq hlq;by_cases hov:(m:Int)<(done.length:Int)+((mq:Int)+1)
      ·have HE:=Lib.hid (hst.out.bad (by omega) HB.out (.inl (by rw[←HMQ.out];omega)))
       go_wp2_with (fail)
       go_ret3
       exact uJ HE.out hb
      ·by_cases hrep:0<done.length∧b.toNat/16=last.toNat/16∧lq≠15
       ·obtain⟨r1,r2,r3⟩:=hrep;have HE:=Lib.hid (hst.out.bad (by omega) HB.out (.inr ⟨r1,r2,by rw[←HLQ.out];exact r3⟩));have r1I:(0:Int)<(done.length:Int):=by omega
        have r2I:(b.toNat:Int)/16=(last.toNat:Int)/16:=by omega
        have r3I:((lq:Int) !=15)=true:=by simp;omega
        go_wp2_with (fail)
        go_ret3
        exact uJ HE.out hb
       ·have hmore0:=hst.out.more (by omega) HB.out (by rw[←HMQ.out, ←HLQ.out];omega);rw[←HMQ.out] at hmore0;obtain⟨vq,hvq⟩: ∃ vq,vq=b.toNat/16:=⟨_,rfl⟩;have hvI:(b.toNat:Int)/16=(vq:Int):=by omega
        have hv15:vq≤15:=by have:=b.toNat_lt;omega
        have hmore:eM s.data.toList m (at0+1) (done.length+(mq+1)) b (done++eb (mq+1) (vq:Int)):=by rw[hvq];exact hmore0
        clear hmore0;by_cases r1:(0:Int)<(done.length:Int)
        ·by_cases r2:(b.toNat:Int)/16=(last.toNat:Int)/16
         ·have r3:lq=15:=by omega
          subst r3;have r2b:((vq:Int)==(last.toNat:Int)/16)=true:=by simp;omega
          clear hvq hrep r2
          go_wp2_with (fail)
          go_loopw [8,66] (fun o y wx=> ∃ j:Nat,j≤mq+1∧y= .int .i64 j∧wx.ownsRow W.heap.size 3 1 o (done.length+j) (jK (done++eb j (vq:Int)))∧Below W.heap.size W wx) (fun _ y _=>mq+1-(intOf y).toNat)
          case atStart=>exact⟨0,fg _,rfl,by simpa using hown,hb⟩
          case round=>
           obtain⟨j,hj,rfl,hown2,hb2⟩:=hrel;have hsz2:=hb2.size;by_cases hjl:(j:Int)<(mq:Int)+1
           ·go_wp2_with (at_builtin;refine acW tI rfl (.tmp 68) (.tmp 72) rfl _ _ (done.length+j) (jK (done++eb j (vq:Int))) rfl rfl hown2 rfl ?c3 ?c4 hb2 hsz2 ?_)
            case c3=>omega
            case c4=>unfold maxLen;omega
            intro v' w1 hown1 _ hbel1 _;rw[show jK (done++eb j (vq:Int))++[Value.int .i64 (vq:Int)]=jK (done++eb (j+1) (vq:Int)) from by rw[nj];simp [jK]] at hown1;clear hown2
            go_wp2_with (fail)
            exact⟨⟨j+1,by omega,rfl,hown1,hbel1⟩,by show mq+1-(((j:Int)+1).toNat)<mq+1-((j:Int).toNat);omega⟩
           ·have hje:j=mq+1:=by omega
            subst hje;have hlen2:(done++eb (mq+1) (vq:Int)).length=done.length+(mq+1):=by simp
            have HST:=Lib.hid hmore;rw[←hlen2] at hown2 HST;have hdl2:(done++eb (mq+1) (vq:Int)).length≤m:=by rw[hlen2];omega
            generalize done++eb (mq+1) (vq:Int)=done2 at hown2 HST hdl2;clear hmore hlen2 hown
            go_wp2_with (fail)
            exact⟨⟨at0+1,b,done2,by omega,hdl2,rfl,rfl,hown2,HST,hb2⟩,by show s.size-(((at0:Int)+1).toNat)<s.size-((at0:Int).toNat);omega⟩
         ·clear hvq hrep
          go_wp2_with (fail)
          go_loopw [8,66] (fun o y wx=> ∃ j:Nat,j≤mq+1∧y= .int .i64 j∧wx.ownsRow W.heap.size 3 1 o (done.length+j) (jK (done++eb j (vq:Int)))∧Below W.heap.size W wx) (fun _ y _=>mq+1-(intOf y).toNat)
          case atStart=>exact⟨0,fg _,rfl,by simpa using hown,hb⟩
          case round=>
           obtain⟨j,hj,rfl,hown2,hb2⟩:=hrel;have hsz2:=hb2.size;by_cases hjl:(j:Int)<(mq:Int)+1
           ·go_wp2_with (at_builtin;refine acW tI rfl (.tmp 68) (.tmp 72) rfl _ _ (done.length+j) (jK (done++eb j (vq:Int))) rfl rfl hown2 rfl ?c3 ?c4 hb2 hsz2 ?_)
            case c3=>omega
            case c4=>unfold maxLen;omega
            intro v' w1 hown1 _ hbel1 _;rw[show jK (done++eb j (vq:Int))++[Value.int .i64 (vq:Int)]=jK (done++eb (j+1) (vq:Int)) from by rw[nj];simp [jK]] at hown1;clear hown2
            go_wp2_with (fail)
            exact⟨⟨j+1,by omega,rfl,hown1,hbel1⟩,by show mq+1-(((j:Int)+1).toNat)<mq+1-((j:Int).toNat);omega⟩
           ·have hje:j=mq+1:=by omega
            subst hje;have hlen2:(done++eb (mq+1) (vq:Int)).length=done.length+(mq+1):=by simp
            have HST:=Lib.hid hmore;rw[←hlen2] at hown2 HST;have hdl2:(done++eb (mq+1) (vq:Int)).length≤m:=by rw[hlen2];omega
            generalize done++eb (mq+1) (vq:Int)=done2 at hown2 HST hdl2;clear hmore hlen2 hown
            go_wp2_with (fail)
            exact⟨⟨at0+1,b,done2,by omega,hdl2,rfl,rfl,hown2,HST,hb2⟩,by show s.size-(((at0:Int)+1).toNat)<s.size-((at0:Int).toNat);omega⟩
        ·clear hvq hrep
         go_wp2_with (fail)
         go_loopw [8,66] (fun o y wx=> ∃ j:Nat,j≤mq+1∧y= .int .i64 j∧wx.ownsRow W.heap.size 3 1 o (done.length+j) (jK (done++eb j (vq:Int)))∧Below W.heap.size W wx) (fun _ y _=>mq+1-(intOf y).toNat)
         case atStart=>exact⟨0,fg _,rfl,by simpa using hown,hb⟩
         case round=>
          obtain⟨j,hj,rfl,hown2,hb2⟩:=hrel;have hsz2:=hb2.size;by_cases hjl:(j:Int)<(mq:Int)+1
          ·go_wp2_with (at_builtin;refine acW tI rfl (.tmp 68) (.tmp 72) rfl _ _ (done.length+j) (jK (done++eb j (vq:Int))) rfl rfl hown2 rfl ?c3 ?c4 hb2 hsz2 ?_)
           case c3=>omega
           case c4=>unfold maxLen;omega
           intro v' w1 hown1 _ hbel1 _;rw[show jK (done++eb j (vq:Int))++[Value.int .i64 (vq:Int)]=jK (done++eb (j+1) (vq:Int)) from by rw[nj];simp [jK]] at hown1;clear hown2
           go_wp2_with (fail)
           exact⟨⟨j+1,by omega,rfl,hown1,hbel1⟩,by show mq+1-(((j:Int)+1).toNat)<mq+1-((j:Int).toNat);omega⟩
          ·have hje:j=mq+1:=by omega
           subst hje;have hlen2:(done++eb (mq+1) (vq:Int)).length=done.length+(mq+1):=by simp
           have HST:=Lib.hid hmore;rw[←hlen2] at hown2 HST;have hdl2:(done++eb (mq+1) (vq:Int)).length≤m:=by rw[hlen2];omega
           generalize done++eb (mq+1) (vq:Int)=done2 at hown2 HST hdl2;clear hmore hlen2 hown
           go_wp2_with (fail)
           exact⟨⟨at0+1,b,done2,by omega,hdl2,rfl,rfl,hown2,HST,hb2⟩,by show s.size-(((at0:Int)+1).toNat)<s.size-((at0:Int).toNat);omega⟩
    ·have HE:=Lib.hid (hst.out.stop (by omega))
     go_wp2_with (fail)
     go_ret3
     exact⟨_,by rw[HE.out];rfl,by rw[HE.out];exact hown,hb⟩
 all_goals
  have hE:nK s.data.toList=([],0,(eD s.data.toList).2.2):=by unfold nK;rw[h];simp
  rw[h] at hE;have HE:=Lib.hid hE;have H:=Lib.hid h;clear h hE
  go_enter Tryz.func312,Tryz.ntmps312
  go_wp2_with (fail)
  refine (adM s Zh 0 0 _ H.out _).mono ?_;rintro e w' ⟨rfl,rfl⟩
  go_wp2_with (fail)
  go_ret3
  exact uJ HE.out (Below.refl _ _)
end Go.Proofs.YtbjalbcdbgcgdaaGreat.runs
